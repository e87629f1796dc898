/-The walker and contracts, part 34.-/
import Derived.Test.YtciaccbemnpipaaGreatDoorJ28
import Derived.Test.YtciaccbemnpipaaGreatDoorJ32
set_option linter.all false
namespace Go.Proofs.YtciaccbemnpipaaGreatDoor.Sw
set_option maxHeartbeats 8000000
open Go.Proofs.YtciaccbemnpipaaGreatDoor renaming lo -> qL, hi -> qH
open Go.RowKit
set_option maxRecDepth 10000
section
variable {w0 : World} {F : jb} {y : CyM} {s : CyP} {g : PlG} {long : Nat}
def bndV (f:FuncId) (b:Nat):Value:= .func (.func f) [pt b].toArray #[]
theorem cywork1_K (e1:y.ph=1):Call Tryz.prog w0 53 [pt y.b] (cycH y++F)
  (fun r H'=>r= .agg [bndV 102 y.k.b,bndV 103 y.k.b].toArray/\H'=cycH y++F):=by
 have hph:=fun A=>jeP (w0:=w0) (F:=A) (y:=y)
 obtain⟨yb,B,a,T,N,k,sp,nw,ph,st⟩:=y
 dsimp only at*;subst e1;refine en1 28 Tryz.func53 ?_
 (iterate 13 first|refine yS ?_|intro _)
 refine ji (hph _) ja ?_;simp only[cycH_app,seenH_app];refine yr11 ?_;refine K.dr [] (od 0 [0,0,0,0,0,0,0,0,0,0,0,2]) Part.nil ?_;refine yr18 ?_;exact zy
theorem jgm (e1:y.ph=2):Call Tryz.prog w0 53 [pt y.b] (cycH y++F)
  (fun r H'=> ∃ bl,r= .agg [.func (.func 104) #[] [pt bl].toArray,bndV 105 y.s.b].toArray/\H'=(bl,cells [pt y.b] 98)::(cycH y++F)):=by
 have hph:=fun A=>jeP (w0:=w0) (F:=A) (y:=y)
 obtain⟨yb,B,a,T,N,k,sp,nw,ph,st⟩:=y
 dsimp only at*;subst e1;refine en1 28 Tryz.func53 ?_;refine yr3 ?_;intro b1;refine yr1 ?_;intro b2;refine yr7 ?_;refine ji (hph _) ja ?_;simp only[cycH_app,seenH_app];refine yr32 ?_;exact KE.fin jd rfl jc bY ⟨b1,rfl,rfl⟩
theorem jiN (e1:y.ph≠1) (e2:y.ph≠2):Call Tryz.prog w0 53 [pt y.b] (cycH y++F)
  (fun r H'=>r= .agg [.func (.func 106) #[] #[], .func (.func 107) #[] #[]].toArray/\H'=cycH y++F):=by
 have hph:=fun A=>jeP (w0:=w0) (F:=A) (y:=y)
 have h1: ¬((y.ph:Nat):Int)=1:=by omega
 have h2: ¬((y.ph:Nat):Int)=2:=by omega
 refine en1 28 Tryz.func53 ?_
 (iterate 13 first|refine yS ?_|intro _)
 refine ji (hph _) ja ?_;refine yr27 ?_;exact zy
theorem CpM.made (h:CpM y s):CpM (jcr y (madeC g s).ph (madeC g s).sa) (madeC g s):=by
 obtain⟨a,b,c,d,e⟩:=jc2 (g:=g) (s:={s with st:=s.st+1})
 have f:(madeC g s).st=s.st+1:=jee (s:={s with st:=s.st+1})
 refine⟨?_,h.ok,?_,h.oka,?_,⟨h.oks.d,h.oks.dn,h.oks.at_⟩,rfl,?_,?_,h.ab,h.bb,h.mb,rfl,?_,h.nw⟩
 ·show MpR y.k y.B y.T y.N (jP g {s with st:=s.st+1}).W;rw [a];exact h.p
 ·show MkR y.k y.B.p (jP g {s with st:=s.st+1}).m;rw [b];exact h.R
 ·show y.a.r.bs=(jP g {s with st:=s.st+1}).A;rw [c];exact h.A
 ·show y.s.at_=(jP g {s with st:=s.st+1}).at_;rw [d];exact h.at_
 ·show y.s.d.bs=(jP g {s with st:=s.st+1}).D;rw [e];exact h.D
 ·show y.st+1=(madeC g s).st;rw [f,h.st]
theorem CpM.mark {k':MkM} {m':MaP} (h:CpM y s) (kok:MkOk k' y.B.p) (kto:MkTo y.k k') (kR:MkR k' y.B.p m'):CpM {y with k:=k'} {s with m:=m'}:=
 ⟨h.p.to kto,kok,kR,h.oka,h.A,h.oks,h.sa,h.at_,h.D,h.ab,h.bb,h.mb.trans kto.b.symm,h.ph,h.st,by show k'.hs.length=_;rw [kto.n];exact h.nw⟩
theorem jhb:(madeC g s).W=s.W:=(jc2 (g:=g) (s:={s with st:=s.st+1})).1
theorem CpR.mark {k':MkM} {m':MaP} {hd v:Int} (h:CpR g long y s) (h1:s.ph=1) (hm:stepM g long s.W s.m hd v=some m') (hle:j0 g (madeC g {s with m:=m'})) (kok:MkOk k' y.B.p) (kto:MkTo y.k k') (kR:MkR k' y.B.p m'):
  CpR g long (jcr {y with k:=k'} (madeC g {s with m:=m'}).ph (madeC g {s with m:=m'}).sa) (madeC g {s with m:=m'}):=
 have okg:jh g:=by rw[<-h.eg];exact h.p.bo.p.g
 ⟨(h.toCpM.mark kok kto kR).made,h.eg,kto.l.trans h.el,jdH okg (jco okg h.i h1 hm),hle⟩
theorem mark_to {k':MkM} {m':MaP} (h:CpR g long y s) (kto:MkTo y.k k') {ph:Nat} {sa:Bool}:JI y (jcr {y with k:=k'} ph sa) (madeC g {s with m:=m'}).W.x 0:=by
 refine⟨rfl,?_,rfl,rfl,rfl,rfl,kto.toMkAs,kto.f,rfl,rfl⟩;rw[jhb];exact(jbj h.p.bo).symm
def jbA (y:CyM) (x:List Int) (gone:Bool):CyM:={y with B:=ja4 y.B x,s:={y.s with d:=if gone then JD y.s.d y.s.at_ true else y.s.d,at_:=y.s.at_+1}}
theorem jfu (B:BoM) (x:List Int):jT (ja4 B x)=jT B/\(ja4 B x).m=jae B.m B.t x/\(ja4 B x).p=B.p:=⟨rfl,rfl,rfl⟩
theorem CpM.sweep {s':CyP} {x:List Int} {b:Bool} (h:CpM y s) (hw:Jv y.B.p.g {s.W with x:=x}) (hl:y.s.at_+1<=y.B.p.g.slots) (e1:s'={s with W:={s.W with x:=x},D:=(if b then s.D.set s.at_ true else s.D),at_:=s.at_+1}):CpM (jbA y x b) s':=by
 subst e1;refine⟨⟨jkv h.p.bo (by rw[hw.x,h.p.w.x]) hw.w,h.p.tb,h.p.pi,h.p.eT,h.p.eN,h.p.bb,h.p.tbb,h.p.nb,hw⟩,h.ok,h.R,h.oka,h.A,?_,h.sa,by show y.s.at_+1=_;rw [h.at_],?_,h.ab,h.bb,h.mb,h.ph,h.st,h.nw⟩
 ·cases b
  ·exact⟨h.oks.d,h.oks.dn,hl⟩
  ·exact⟨jdc h.oks.d _ _,by show(y.s.d.bs.set _ _).length=_;rw [List.length_set];exact h.oks.dn,hl⟩
 ·cases b
  ·exact h.D
  ·show y.s.d.bs.set _ _=s.D.set _ _
   rw[h.D,h.at_]
def SwQ (w0:World) (g:PlG) (y:CyM) (s:CyP):Prop:= ∃ s' b,sweepC g s=some s'/\CpM (jbA y s'.W.x b) s'/\ ∀ F,Call Tryz.prog w0 105 [pt y.s.b] (cycH y++F) (fun r H'=>r= .bool true/\H'=cycH (jbA y s'.W.x b)++F)
theorem jiO (h:CpR g long y s) (h2:s.ph=2):SwQ w0 g y s:=by
 have okg:jh g:=by rw[<-h.eg];exact h.p.bo.p.g
 have hlt:=h.i.lt h2
 obtain⟨p1,p2,p3⟩:=h.i.p2 h2
 obtain⟨yy,hy⟩:=Je (g:=y.B.p.g) (i:=y.s.at_) Bm
 obtain⟨c,hc⟩:=jdD h.ok (s:=y.s.at_) Bm
 have hstep:=fun A=>spStep_K (w0:=w0) (F:=A) h.oks h.oka h.p.bo h.ok (h.sa.trans p2) hy hc h.ab h.bb h.mb
 have hmc:s.m.C[s.at_]?=some c:=by rw[<-h.R.C,<-h.at_];exact hc
 have hgone:goneC y.a y.s.at_ c=decide (s.A[s.at_]?=some true/\s.m.C[s.at_]?=some 0):=by
  unfold goneC;rw[h.A,h.at_,hmc]
  obtain⟨v,hv⟩:=jq (l:=s.A) (k:=s.at_) (by rw[h.i.A];exact hlt)
  rw[hv]
  cases v<;>simp
 rw[hgone] at hstep
 have hyA:jv g (s.at_:Nat)=yy:=by rw[<-h.eg,<-h.at_];exact jY hy
 by_cases hg:s.A[s.at_]?=some true/\s.m.C[s.at_]?=some 0
 ·have hsw:sweepC g s=some {s with W:={s.W with x:=JH s.W.x yy},D:=s.D.set s.at_ true,at_:=s.at_+1}:=by
   unfold sweepC;rw [if_pos ⟨p2,hlt⟩,if_pos hg,hyA]
  obtain⟨w1,w2,w3⟩:=h.i.toCyPre.wipe okg h2 hlt
  rw[hyA] at w1;refine⟨_,true,hsw,h.toCpM.sweep (by rw[h.eg];exact w1) Bm rfl,fun F=>?_⟩;simp only[decide_eq_true hg,if_true] at hstep;refine Call.at_ (hstep _) bL ?_;rintro _ _ ⟨rfl,rfl⟩;exact⟨_,⟨rfl,rfl⟩,by unfold jbA;simp only[cycH_app,jfu];exact ja⟩
 ·have hsw:sweepC g s=some {s with W:={s.W with x:=s.W.x},D:=s.D,at_:=s.at_+1}:=by
   unfold sweepC;rw [if_pos ⟨p2,hlt⟩,if_neg hg]
  refine⟨_,false,hsw,h.toCpM.sweep h.p.w Bm rfl,fun F=>?_⟩;simp only[decide_eq_false hg,if_neg Bool.false_ne_true] at hstep;refine Call.at_ (hstep _) bL ?_;rintro _ _ ⟨rfl,rfl⟩
  have hb:ja4 y.B s.W.x=y.B:=jbj h.p.bo
  exact⟨_,⟨rfl,rfl⟩,by unfold jbA;dsimp only;rw [hb];simp only[cycH_app,if_neg Bool.false_ne_true];exact ja⟩
theorem CpR.sweep {s':CyP} {b:Bool} (h:CpR g long y s) (h2:s.ph=2) (hs:sweepC g s=some s') (hm:CpM (jbA y s'.W.x b) s') (hle:j0 g (madeC g s')):
  CpR g long (jcr (jbA y s'.W.x b) (madeC g s').ph (madeC g s').sa) (madeC g s'):=
 have okg:jh g:=by rw[<-h.eg];exact h.p.bo.p.g
 ⟨hm.made,h.eg,h.el,jdH okg (jbw okg h.i h2 hs).1,hle⟩
theorem ji5 {x:List Int} {b:Bool} {ph:Nat} {sa:Bool}:JI y (jcr (jbA y x b) ph sa) x 0:=⟨rfl,rfl,rfl,rfl,rfl,rfl,⟨rfl,rfl,rfl,rfl,rfl,rfl⟩,rfl,rfl,rfl⟩
theorem CpR.refl (h:CpR g long y s):CyQ g long y 0 F s (cycH y++F):=⟨y,h,JI.refl h.toCpM,rfl⟩
theorem cysw1_K {hd v:Int} {bl:Nat} (hv:v=5/\0<=hd/\hd<=((y.nw:Nat):Int)) {x:List Int} {b:Bool} (hc: ∀ F,Call Tryz.prog w0 105 [pt y.s.b] (cycH y++F) (fun r H'=>r= .bool true/\H'=cycH (jbA y x b)++F)):
  Call Tryz.prog w0 104 [.int .i64 hd, .int .u8 v,pt bl] ((bl,cells [pt y.b] 98)::(cycH y++F)) (fun r H'=>r= .bool true/\H'=cycH (jbA y x b)++F):=by
 obtain⟨rfl,h1,h2⟩:=hv
 have h1':hd>=0:=h1
 refine en3 27 Tryz.func104 ?_;simp only[cycH_app,seenH_app];refine yr27 ?_;refine ji (hc _) bL ?_;refine yr5 ?_;exact zy
theorem cysw1_E {hd v:Int} {bl:Nat} (hv: ¬(v=5/\0<=hd/\hd<=((y.nw:Nat):Int))):
  Call Tryz.prog w0 104 [.int .i64 hd, .int .u8 v,pt bl] ((bl,cells [pt y.b] 98)::(cycH y++F)) (fun r H'=>r= .bool false/\H'=cycH y++F):=by
 by_cases h5:v=5
 ·subst h5
  by_cases h0:hd>=0
  ·have h2: ¬hd<=((y.nw:Nat):Int):=fun e=>hv ⟨rfl,h0,e⟩
   refine en3 27 Tryz.func104 ?_;simp only[cycH_app,seenH_app];refine yr32 ?_;exact zy
  ·refine en3 27 Tryz.func104 ?_;simp only[cycH_app,seenH_app];refine yr32 ?_;exact zy
 ·refine en3 27 Tryz.func104 ?_;simp only[cycH_app,seenH_app];refine yr32 ?_;exact zy
theorem cyw2_K {hd v:Value} {H:jb}:Cs w0 106 [hd,v] H (.bool false):=by
 refine en2 5 Tryz.func106 ?_;refine yr11 ?_;exact zd
theorem cyw3_K {H:jb}:Cs w0 107 [] H (.bool false):=by
 refine en0 1 Tryz.func107 ?_;refine yr11 ?_;exact zd
theorem cyStep_K {hd v:Int} (hG:ju w0) (h:CpR g long y s) (hv:0<=v/\v<256):
  Call Tryz.prog w0 25 [pt y.b, .int .i64 hd, .int .u8 v] (cycH y++F) (fun r H'=>r= .bool (stepC g long y.nw s hd v).isSome/\CyQ g long y 0 F ((stepC g long y.nw s hd v).getD s) H'):=by
 have okg:jh g:=by rw[<-h.eg];exact h.p.bo.p.g
 have hls:=h.le.s
 have hlm:=h.le.m
 have hst:s.st<=100000000:=by omega
 have hmst:s.m.steps<=1000000000:=by omega
 by_cases h1:s.ph=1
 ·have hss:stepC g long y.nw s hd v=(stepM g long s.W s.m hd v).map fun m'=>madeC g {s with m:=m'}:=by unfold stepC;rw [if_pos h1]
  have hstep:=fun A=>jiC (w0:=w0) (F:=A) (hd:=hd) (v:=v) hG h.p h.ok h.R (by rw[h.eg,h.el];exact h.i.m) hmst hv
  unfold jaV at hstep;rw[h.eg,h.el] at hstep;simp only[seenH_app] at hstep
  cases hm:stepM g long s.W s.m hd v with
  |some m'=>
   have hle:=h.le.step (nw:=y.nw) okg h.i (k:=hd) (u:=v) (s':=madeC g {s with m:=m'}) (by rw[hss,hm];rfl)
   rw[hss];simp only[hm,Option.map_some,Option.isSome_some,Option.getD_some] at hstep|-
   have hmk:=fun A k' kok kto kR=>jfb (w0:=w0) (F:=A) hG (h.toCpM.mark (k':=k') (m':=m') kok kto kR) h.eg (by show CyPre g k'.g.ring.length _;rw [kto.l,h.el];exact jco okg h.i h1 hm) hst
   have hR:=fun k' kok kto kR=>h.mark (k':=k') h1 hm hle kok kto kR
   have hT:=fun k' kto=>mark_to (k':=k') (m':=m') (ph:=(madeC g {s with m:=m'}).ph) (sa:=(madeC g {s with m:=m'}).sa) h kto
   unfold CyQ
   obtain⟨s',hs'⟩: ∃ s',madeC g {s with m:=m'}=s':=⟨_,rfl⟩
   simp only[hs'] at hmk hR hT|-;refine en3 15 Tryz.func25 ?_;refine yr10 ?_;refine zbb ?_;unfold bndV;refine yr4 ?_;refine zbc ?_;rintro _ _ ⟨rfl,k',kok,kto,kR,rfl⟩;refine yr1 ?_;refine ji (hmk _ k' kok kto kR) Bn ?_;refine yr4 ?_;exact KE.fin jd rfl jc ja ⟨rfl,_,hR k' kok kto kR,hT k' kto,rfl⟩
  |none=>
   rw[hss];simp only[hm,Option.map_none,Option.isSome_none,Option.getD_none] at hstep|-
   have hR:=fun k' kok kto kR=>CpR.mk (h.toCpM.mark (k':=k') (m':=s.m) kok kto kR) h.eg (kto.l.trans h.el) h.i h.le
   have hT:=fun k' (kto:MkTo y.k k')=>(⟨rfl,(jbj h.p.bo).symm,rfl,rfl,rfl,rfl,kto.toMkAs,kto.f,rfl,rfl⟩:JI y {y with k:=k'} s.W.x 0)
   unfold CyQ;refine en3 15 Tryz.func25 ?_;refine yr10 ?_;refine zbb ?_;unfold bndV;refine yr4 ?_;refine zbc ?_;rintro _ _ ⟨rfl,k',kok,kto,kR,rfl⟩;refine yr1 ?_;refine jj jd7 ?_;refine yr4 ?_;exact zcg
 ·by_cases h2:s.ph=2
  ·by_cases hc:v=5/\0<=hd/\hd<=((y.nw:Nat):Int)
   ·obtain⟨s',b,hs,hM,hcall⟩:=jiO (w0:=w0) h h2
    have hss:stepC g long y.nw s hd v=some (madeC g s'):=by unfold stepC;rw [if_neg h1,if_pos ⟨h2,hc⟩,hs];rfl
    have hle:=h.le.step (nw:=y.nw) okg h.i (k:=hd) (u:=v) hss
    have hcy:=jbw okg h.i h2 hs
    rw[hss];simp only[Option.isSome_some,Option.getD_some]
    have hmk:=fun A=>jfb (w0:=w0) (F:=A) hG hM h.eg (by show CyPre g y.k.g.ring.length _;rw [h.el];exact hcy.1) Bd
    have hR:=h.sweep h2 hs hM hle
    have hT:JI y (jcr (jbA y s'.W.x b) (madeC g s').ph (madeC g s').sa) (madeC g s').W.x 0:=by rw[jhb];exact ji5
    unfold CyQ
    obtain⟨q,hq⟩: ∃ q,madeC g s'=q:=⟨_,rfl⟩
    rw[hq] at hmk hR hT|-;refine en3 15 Tryz.func25 ?_;refine yr10 ?_;refine je (jgm (h.ph.trans h2)) ja ?_;rintro _ _ ⟨bl,rfl,rfl⟩;unfold bndV;refine yr4 ?_;refine(CallV.part (CallV.clo (cap:=[pt bl]) (cysw1_K hc hcall)) ja).mono ?_;rintro _ _ ⟨rfl,rfl⟩;refine yr1 ?_;refine ji (hmk _) ja ?_;refine yr4 ?_;exact KE.fin jd rfl jc ja ⟨rfl,_,hR,hT,rfl⟩
   ·have hss:stepC g long y.nw s hd v=none:=by unfold stepC;rw [if_neg h1,if_neg (fun e=>hc e.2)]
    rw[hss];simp only[Option.isSome_none,Option.getD_none]
    have hQ:=fun A=>CpR.refl (F:=A) h
    refine en3 15 Tryz.func25 ?_;refine yr10 ?_;refine je (jgm (h.ph.trans h2)) ja ?_;rintro _ _ ⟨bl,rfl,rfl⟩;unfold bndV;refine yr4 ?_;refine(CallV.part (CallV.clo (cap:=[pt bl]) (cysw1_E hc)) ja).mono ?_;rintro _ _ ⟨rfl,rfl⟩;refine yr1 ?_;refine jj jd7 ?_;refine yr4 ?_;exact KE.fin jd rfl jc ja ⟨rfl,hQ F⟩
  ·have hss:stepC g long y.nw s hd v=none:=by unfold stepC;rw [if_neg h1,if_neg (fun e=>h2 e.1)]
   rw[hss];simp only[Option.isSome_none,Option.getD_none]
   have hQ:=fun A=>CpR.refl (F:=A) h
   refine en3 15 Tryz.func25 ?_;refine yr10 ?_;refine ji (jiN (by rw[h.ph];exact h1) (by rw[h.ph];exact h2)) ja ?_;refine yr4 ?_;refine jj cyw2_K ?_;refine yr1 ?_;refine jj jd7 ?_;refine yr4 ?_;exact KE.fin jd rfl jc ja ⟨rfl,hQ F⟩
end
section
variable {w0 : World} {F : jb} {y : CyM} {s : CyP} {g : PlG} {long : Nat}
theorem CpR.okg (h:CpR g long y s):jh g:=by rw[<-h.eg];exact h.p.bo.p.g
theorem CpR.T1024 (h:CpR g long y s):s.W.T.length<=1024:=by rw[<-h.p.eT];exact h.p.tb.n.2
theorem cyBegin_K (h:CpR g long y s) (h0:s.ph=0) (hf:y.k.c.f<=1000000):
  Call Tryz.prog w0 352 [pt y.b] (cycH y++F) (fun r H'=>r= .int .i64 0/\CyQ g long y 1 F (beginC g s) H'):=by
 have okg:=h.okg
 have hlg:=h.ok.g.l
 have hno:=fun A=>jbx (w0:=w0) (F:=A) (y:=y)
 have hac:=(h.i.p0 h0).1
 have hms:=fun A=>mkStart_K (w0:=w0) (F:=A) h.ok (h.R.act.trans hac) hf
 have hle:=j0.begin (s:=s) okg h.T1024
 have hl1:1<=long:=by rw[<-h.el];exact hlg.1
 have hcy:=jj2 okg hl1 h.i h0
 have hR: ∀ k',MkOk k' y.B.p->MkNil k' y.B.p->MkAs y.k k'->k'.act=true->CpR g long {y with k:=k',ph:=1,st:=0} (beginC g s):=fun k' kok kn ka kt=>by
  refine⟨⟨⟨h.p.bo,h.p.tb,h.p.pi,h.p.eT,h.p.eN,ka.bb.trans h.p.bb,ka.tb.trans h.p.tbb,ka.nb.trans h.p.nb,h.p.w⟩,kok,?_,h.oka,h.A,h.oks,h.sa,h.at_,h.D,h.ab,h.bb,h.mb.trans ka.b.symm,rfl,rfl,by show k'.hs.length=_;rw [ka.n];exact h.nw⟩,h.eg,ka.l.trans h.el,hcy,hle⟩
  show MkR k' y.B.p (JW g (s.m.hs.length-1) true)
  rw[<-h.eg];exact nil_R kn (by rw[ka.l];exact hlg.1) kt (by have:=h.R.hs;rw [ka.n,h.nw,<-this,h.nw];rfl)
 have hT: ∀ k',MkAs y.k k'->k'.c.f=y.k.c.f+1->JI y {y with k:=k',ph:=1,st:=0} (beginC g s).W.x 1:=fun k' ka kf=>⟨rfl,(jbj h.p.bo).symm,rfl,rfl,rfl,rfl,ka,kf,rfl,rfl⟩
 have e0:y.ph=0:=h.ph.trans h0
 unfold CyQ
 obtain⟨s',hs'⟩: ∃ s',beginC g s=s':=⟨_,rfl⟩
 rw[hs'] at hR hT;rw[hs'];clear hs' hle hcy h hac h0 hf
 obtain⟨yb,B,a,T,N,k,sp,nw,ph,st⟩:=y
 dsimp only at*;subst e0;refine en1 23 Tryz.func352 ?_;refine yr11 ?_;refine zaf ?_;simp only[cycH_app,seenH_app];refine yr37 ?_;refine je (hms _) ja ?_;rintro _ _ ⟨rfl,k',kok,kn,ka,kt,kf,rfl⟩;refine yr4 ?_;exact KE.fin (H':=cycH ⟨yb,B,a,T,N,k',sp,nw,1,0⟩++F) jd rfl jc (by simp only[cycH_app,ka.b];exact ja) ⟨rfl,_,hR k' kok kn ka kt,hT k' ka kf,by simp only[cycH_app]⟩
theorem jlj (hG:ju w0) (h:CpR g long y s) (h3:s.ph=3):
  Call Tryz.prog w0 350 [pt y.b] (cycH y++F) (fun r H'=>r= .tuple [.int .i64 (s.D.count true:Nat), .int .i64 (recyN y.T.gens s.W.T:Nat), .int .i64 0].toArray/\CyQ g long y 0 F (publishC g y.T.gens s) H'):=by
 have okg:=h.okg
 obtain⟨p1,p2,p3⟩:=h.i.p3 h3
 have hno:=fun A=>jbx (w0:=w0) (F:=A) (y:=y)
 have hdone:jbE y.s=true:=by
  unfold jbE;rw[h.sa,p2,h.oks.dn,h.at_,p3,h.eg];simp
 have hst:=fun A=>spStop_K (w0:=w0) (F:=A) hG h.oks h.oka hdone h.ab
 have hrc:=fun A=>jk2 (w0:=w0) (F:=A) h.p.tb
 have hmk:=fun A=>mkStop_K (w0:=w0) (F:=A) (B:=y.B) (h.R.act.trans p1)
 have hcy:=jfR h.i h3 y.T.gens
 have hle:=h.le.publish y.T.gens
 rw[h.D] at hst;rw[h.p.eT] at hrc
 have hR: ∀ (a':ArM) (s':SpM),TbOk ⟨y.T.b,Jq y.T.gens s.W.T,y.T.gens,y.T.o⟩->jag a' y.B.p->a'.b=y.a.b->a'.r.bs=(jah y.a.r.bs s.D).2->SpOk s' y.B.p.g.slots->s'.ab=y.s.ab->s'.bb=y.s.bb->s'.mb=y.s.mb->s'.at_=0->s'.act=false->s'.d.bs=List.replicate y.B.p.g.slots false->
   CpR g long {y with a:=a',s:=s',T:=⟨y.T.b,Jq y.T.gens s.W.T,y.T.gens,y.T.o⟩,k:={y.k with act:=false},ph:=0} (publishC g y.T.gens s):=fun a' s' kT ka ab abs ks e1 e2 e3 e4 e5 e6=>by
  refine⟨⟨⟨h.p.bo,kT,h.p.pi,rfl,h.p.eN,h.p.bb,h.p.tbb,h.p.nb,by rw[h.eg];exact hcy.w⟩,⟨h.ok.c,h.ok.g,h.ok.n,h.ok.o,h.ok.hs⟩,⟨h.R.C,h.R.G,h.R.hs,h.R.root,rfl,h.R.steps⟩,ka,?_,ks,e5,e4,?_,e1.trans (h.ab.trans ab.symm),e2.trans h.bb,e3.trans h.mb,rfl,h.st,h.nw⟩,h.eg,h.el,hcy,hle⟩
  ·show a'.r.bs=(jah s.A s.D).2;rw [abs,h.A]
  ·show s'.d.bs=List.replicate g.slots false;rw [e6,h.eg]
 have hT: ∀ (a':ArM) (s':SpM),a'.b=y.a.b->s'.b=y.s.b->JI y {y with a:=a',s:=s',T:=⟨y.T.b,Jq y.T.gens s.W.T,y.T.gens,y.T.o⟩,k:={y.k with act:=false},ph:=0} (publishC g y.T.gens s).W.x 0:=fun a' s' ab sb=>⟨rfl,(jbj h.p.bo).symm,ab,rfl,rfl,rfl,⟨rfl,rfl,rfl,rfl,rfl,rfl⟩,rfl,sb,rfl⟩
 have e0:y.ph=3:=h.ph.trans h3
 unfold CyQ
 obtain⟨s2,hs'⟩: ∃ s2,publishC g y.T.gens s=s2:=⟨_,rfl⟩
 rw[hs'] at hR hT;rw[hs'];clear hs' hle hcy hdone
 obtain⟨yb,B,a,T,N,k,sp,nw,ph,st⟩:=y
 dsimp only at*;subst e0;refine en1 37 Tryz.func350 ?_;refine yr13 ?_;refine zaf ?_;simp only[cycH_app,seenH_app];refine yr25 ?_;refine je (hst _) ja ?_;rintro _ _ ⟨rfl,a',s',ka,ab,arb,abs,ks,sb,e1,e2,e3,e4,e5,e6,rfl⟩;refine yr13 ?_;refine je (hrc _) ja ?_;rintro _ _ ⟨rfl,kT,rfl⟩;refine yr10 ?_;refine ji (hmk _) ja ?_;refine yr20 ?_;exact KE.fin (H':=cycH ⟨yb,B,a',⟨T.b,Jq T.gens s.W.T,T.gens,T.o⟩,N,{k with act:=false},s',nw,0,st⟩++F) jd rfl jc (by simp only[cycH_app,ab,sb];exact ja) ⟨rfl,_,hR a' s' kT ka ab abs ks e1 e2 e3 e4 e5 e6,hT a' s' ab sb,by simp only[cycH_app]⟩
theorem CpR.shade {k':MkM} {t:Nat} (h:CpR g long y s) (h1:s.ph=1) (ht:t<g.slots) (kok:MkOk k' y.B.p) (kto:MkTo y.k k') (kR:MkR k' y.B.p (ja3 g long s.m (t:Nat))):CpR g long {y with k:=k'} (shdC g long s (t:Nat)):=by
 have e:shdC g long s (t:Nat)={s with m:=ja3 g long s.m (t:Nat)}:=by
  unfold shdC jZ;rw [if_pos h1,if_pos ⟨by omega,by omega⟩]
 have h1:=h.i.shd h.okg (t:Nat)
 have h2:=h.le.shd h.okg h.i (t:Nat)
 rw[e] at h1 h2|-;exact⟨h.toCpM.mark kok kto kR,h.eg,kto.l.trans h.el,h1,h2⟩
theorem cyShade_K {t:Nat} (h:CpR g long y s) (ht:t<g.slots):Call Tryz.prog w0 205 [pt y.b, .int .i64 (t:Nat)] (cycH y++F) (fun r H'=>r= .int .i64 0/\CyQ g long y 0 F (shdC g long s (t:Nat)) H'):=by
 obtain⟨c,hc⟩:=jdD h.ok (s:=t) (by rw[h.eg];exact ht)
 have hsh:=fun A=>mkShade_K (w0:=w0) (F:=A) h.ok h.R (by rw[h.eg];exact ht)
 rw[h.eg,h.el] at hsh
 by_cases h1:s.ph=1
 ·have e0:y.ph=1:=h.ph.trans h1
  have hR:=fun k' kok kto kR=>h.shade (k':=k') h1 ht kok kto kR
  have hW:(shdC g long s (t:Nat)).W=s.W:=jbo _
  have hT: ∀ k',MkTo y.k k'->JI y {y with k:=k'} (shdC g long s (t:Nat)).W.x 0:=fun k' kto=>⟨rfl,by rw[hW];exact(jbj h.p.bo).symm,rfl,rfl,rfl,rfl,kto.toMkAs,kto.f,rfl,rfl⟩
  unfold CyQ
  obtain⟨s2,hs'⟩: ∃ s2,shdC g long s (t:Nat)=s2:=⟨_,rfl⟩
  rw[hs'] at hR hT;rw[hs']
  have hno:=fun A=>jbx (w0:=w0) (F:=A) (y:=y)
  have hof:=fun A=>jcM (w0:=w0) (F:=A) h.ok hc
  clear hs' hW h
  obtain⟨yb,B,a,T,N,k,sp,nw,ph,st⟩:=y
  dsimp only at*;subst e0;refine en2 34 Tryz.func205 ?_;refine yr10 ?_;refine zaf ?_;simp only[cycH_app,seenH_app];refine yr14 ?_;refine ji (hof _) ja ?_;refine yr31 ?_;refine je (hsh _) ja ?_;rintro _ _ ⟨rfl,k',kok,kto,kR,rfl⟩;refine yr4 ?_;exact KE.fin (H':=cycH ⟨yb,B,a,T,N,k',sp,nw,1,st⟩++F) jd rfl jc Bn ⟨rfl,_,hR k' kok kto kR,hT k' kto,by simp only[cycH_app]⟩
 ·have h1':((y.ph:Nat):Int)≠1:=by rw[h.ph];omega
  have e:shdC g long s (t:Nat)=s:=by unfold shdC;rw [if_neg h1]
  rw[e];unfold CyQ;refine en2 34 Tryz.func205 ?_;refine yr10 ?_;refine ji (jbx (y:=y)) ja ?_;simp only[cycH_app,seenH_app];refine yr14 ?_;refine ji (jcM h.ok hc) ja ?_;refine yr29 ?_;exact KE.fin jd rfl jc bY ⟨rfl,y,h,JI.refl h.toCpM,rfl⟩
theorem CpR.black {c':TiM} {t:Nat} (h:CpR g long y s) (kok:MkOk {y.k with c:=c'} y.B.p) (cc:tiC c'=(if y.k.act=true then(tiC y.k.c).set t 2 else tiC y.k.c)):CpR g long {y with k:={y.k with c:=c'}} {s with m:=Jd s.m t}:=by
 obtain⟨a,b,c,d,e⟩:=jdS s.m t
 refine⟨⟨⟨h.p.bo,h.p.tb,h.p.pi,h.p.eT,h.p.eN,h.p.bb,h.p.tbb,h.p.nb,h.p.w⟩,kok,⟨?_,by rw[a];exact h.R.G,by rw[b];exact h.R.hs,by rw[c];exact h.R.root,by rw[d];exact h.R.act,by rw[e];exact h.R.steps⟩,h.oka,h.A,h.oks,h.sa,h.at_,h.D,h.ab,h.bb,h.mb,h.ph,h.st,h.nw⟩,h.eg,h.el,h.i.black t,h.le.black h.i t⟩
 show tiC c'=(Jd s.m t).C
 rw[cc,h.R.C,h.R.act];unfold Jd
 split<;>rfl
theorem cyBlack_K {t:Nat} (h:CpR g long y s) (ht:t<g.slots):Call Tryz.prog w0 199 [pt y.b, .int .i64 (t:Nat)] (cycH y++F) (fun r H'=>r= .int .i64 0/\CyQ g long y 0 F {s with m:=Jd s.m t} H'):=by
 have hbl:=fun A=>mkBlack_K (w0:=w0) (F:=A) h.ok (s:=t) (by rw[h.eg];exact ht)
 have hR:=fun c' kok cc=>h.black (c':=c') (t:=t) kok cc
 have hT: ∀ c',c'.f=y.k.c.f->JI y {y with k:={y.k with c:=c'}} s.W.x 0:=fun c' cf=>⟨rfl,(jbj h.p.bo).symm,rfl,rfl,rfl,rfl,⟨rfl,rfl,rfl,rfl,rfl,rfl⟩,cf,rfl,rfl⟩
 unfold CyQ;refine en2 13 Tryz.func199 ?_;refine yr10 ?_;refine ji (jbx (y:=y)) ja ?_;simp only[cycH_app,seenH_app];refine yr13 ?_;refine je (hbl _) ja ?_;rintro _ _ ⟨rfl,c',kok,cf,cc,rfl⟩;refine yr4 ?_;exact KE.fin (H':=cycH {y with k:={y.k with c:=c'}}++F) jd rfl jc bL ⟨rfl,_,hR c' kok cc,hT c' cf,by simp only[cycH_app]⟩
end
def jbY (g:PlG) (caps nw:Nat):CyP:=⟨⟨List.replicate g.words 0,List.replicate caps ⟨0,0,1⟩,List.replicate g.slots 0⟩,JW g nw false,List.replicate g.slots false,false,0,List.replicate g.slots false,0,0⟩
section
variable {g : PlG} {long caps nw : Nat}
theorem rep_zero (n t:Nat):wAt (List.replicate n 0) t=0:=by
 unfold wAt;rw [List.getElem?_replicate];split<;>rfl
theorem jhA:Jv g (jbY g caps nw).W:=by
 refine⟨List.length_replicate ..,JF.rep _,List.length_replicate ..,fun v hv=>?_,fun e he h1=>?_⟩
 ·rw[(List.mem_replicate.1 hv).2];decide
 ·rw[(List.mem_replicate.1 he).2] at h1;cases h1
theorem jg9 (hl:1<=long) (hn:nw<=8):jp g long (jbY g caps nw):=by
 refine⟨⟨jhA,fun s y hy j hj=>?_,new_ok hl hn,new_in,List.length_replicate ..,List.length_replicate ..,fun _=>⟨rfl,rfl,rfl,rfl⟩,fun e=>bO,fun e=>bO,fun e=>bO,Nat.zero_le _,fun e=>absurd (show 2<=0 from e) bn⟩,fun e=>bO,fun e=>bO⟩
 show wAt (List.replicate g.words 0) _<=_
 rw[rep_zero];omega
theorem newC_le (ok:jh g) (hc:caps<=1024):j0 g (jbY g caps nw):=by
 have h1:=jfN (W:=(jbY g caps nw).W) ok nw
 have h2:=ok.words
 have h3:(jbY g caps nw).W.T.length=caps:=List.length_replicate ..
 refine⟨?_,?_⟩
 ·show 0+jH g (jbY g caps nw).W (JW g nw true)<=_
  omega
 ·rw[jjD (.inl rfl)];exact Nat.zero_le _
end
structure CyNew (g:PlG) (long caps nw:Nat) (gens:Int) (t:Nat) (m:Jy) (y:CyM):Prop where
 R:CpR g long y (jbY g caps nw)
 m:y.B.m=m
 t:y.B.t=t
 G:y.T.gens=gens
 nw:y.nw=nw
 f:y.k.c.f=1
theorem cynew_rel {g:PlG} {long caps nw t b:Nat} {gens:Int} {B:BoM} {a:ArM} {T:TbM} {N:PiM} {k:MkM} {sp:SpM} (okg:jh g) (hpg:B.p.g=g) (okB:jaf B (List.replicate g.words 0)) (ht:B.t=t) (hc:caps<=1024) (hnw:nw<=8) (hl:1<=long)
  (oka:jag a B.p) (hA:a.r.bs=List.replicate B.p.g.slots false) (okT:TbOk T) (eT:T.l=List.replicate caps ⟨0,0,1⟩) (eG:T.gens=gens) (okN:PiOk N) (eN:N.l=List.replicate B.p.g.slots 0) (okk:MkOk k B.p) (knil:MkNil k B.p) (kact:k.act=false) (kf:k.c.f=1) (kb:k.bb=B.b) (kt:k.tb=T.b) (kn:k.nb=N.b) (kh:k.hs.length=nw+1) (kl:k.g.ring.length=long)
  (oks:SpOk sp B.p.g.slots) (e1:sp.ab=a.b) (e2:sp.bb=B.b) (e3:sp.mb=k.b) (e4:sp.at_=0) (e5:sp.act=false) (e6:sp.d.bs=List.replicate B.p.g.slots false):
  CyNew g long caps nw gens t B.m ⟨b,B,a,T,N,k,sp,nw,0,0⟩:=by
 subst hpg;refine⟨⟨⟨⟨okB,okT,okN,eT,eN,kb,kt,kn,jhA⟩,okk,nil_R knil (by rw[kl];exact hl) kact kh,oka,hA,oks,e5,e4,e6,e1,e2,e3,rfl,rfl,kh⟩,rfl,kl,jg9 hl hnw,newC_le okg hc⟩,rfl,ht,eG,rfl,kf⟩
theorem cyNew_K {w0:World} {F:jb} {c:Cfg} {vc vt:Value} {t:Nat} {m:Jy} {tn:Tn} (hG:ju w0) (hR:Jl w0 F c vc vt) (hc:cfgP c=true) (ht0:c.tn[t]?=some tn) (okm:jaB m) (hm:m.R[t]?=some (List.replicate (gOf c t).words 0)):
  Call Tryz.prog w0 43 [jA c vc vt, .int .i64 (t:Nat),pt m.b] (jy m++F)
   (fun r H'=> ∃ y,CyNew (gOf c t) c.grey.toNat tn.caps.toNat c.workers.toNat c.gens t m y/\r= .tuple [pt y.b, .int .i64 0].toArray/\H'=cycH y++F):=by
 have hcfg:=jaz hc
 have hten:=hcfg.ten tn (List.mem_of_getElem? ht0)
 have htl:=jl ht0
 have ht:Jh c t 0=true:=jbl (i:=t) (j:=0) hc htl Bh
 have ga:=g_at ht
 have okg:=ga.ok
 have hreg:jav c (t:Nat)=((((gOf c t).words:Nat):Int),0):=ga.region
 have hwk:=hcfg.workers
 have hgy:=hcfg.grey
 have hgn:=hcfg.gens
 have hrg:=fun A (hp:Part A F)=>jkb (t:=(t:Nat)) (hR.part hp)
 have hpn:=fun A (hp:Part A F)=>pNew_K (t:=(t:Nat)) (hR.part hp) ht
 simp only[hreg] at hrg
 obtain⟨g,hg⟩: ∃ g,g=gOf c t:=⟨_,rfl⟩
 simp only[<-hg] at hpn okg hm hrg|-
 have hall:=fun A=>All_K (w0:=w0) (F:=A) okm
 have hne:m.R.flatten.length≠0:=by
  have h1:=jcq hm
  have h2:=okg.slots
  obtain⟨y0,hy0⟩:=Je (g:=g) (i:=0) bc
  have:=okg.fits hy0
  have h3:(List.replicate g.words (0:Int)).length=g.words:=List.length_replicate ..
  intro e
  have h4:m.R.flatten=[]:=List.length_eq_zero_iff.1 e
  have h5:=List.flatten_eq_nil_iff.1 h4 _ (List.mem_of_getElem? hm)
  rw[h5] at h3
  simp at h3;omega
 clear hg ga hreg
 obtain⟨hS,hT,o1,o2,l1,l2⟩:=hR
 obtain⟨cl,page,tns,workers,grey,gens⟩:=c
 obtain⟨x1,x2,x3,x4⟩:=tn
 dsimp only at hS hT l1 l2 ht0 hten hwk hgy hgn htl|-
 obtain⟨caps,rfl⟩: ∃ caps:Nat,x3=caps:=⟨x3.toNat,by omega⟩
 obtain⟨nw,rfl⟩: ∃ nw:Nat,workers=nw:=⟨workers.toNat,by omega⟩
 obtain⟨long,rfl⟩: ∃ long:Nat,grey=long:=⟨grey.toNat,by omega⟩
 simp only[Int.toNat_natCast];simp only[jA,jV,prV] at hrg hpn|-
 have hslots:=okg.slots
 refine en3 143 Tryz.func43 ?_
 (iterate 4 first|refine yS ?_|intro _);refine yq8 fun T hT=>?_
 refine(CallV.part (CallV.fn (hall _)) ja).mono ?_;rintro _ _ ⟨oa,oka,rfl,rfl⟩
 obtain⟨ob,rfl⟩: ∃ ob,oa=some ob:=by
  cases oa with
  |none=>exact absurd (congrArg List.length oka) hne
  |some ob=>exact⟨ob,rfl⟩
 refine ze ?_;clear hT T;refine yr12 ?_;refine jj (hrg _ ja) ?_;refine yr22 ?_;intro b27;refine yr9 ?_;refine Jx (hpn _ ja) ?_;rintro _ _ ⟨p,okp,hpg,rfl,rfl⟩;refine yr24 ?_;refine je (bNew_K (t:=t) (x:=List.replicate g.words 0) okm hm okp (by rw[hpg,List.length_replicate]) (JF.rep _)) ja ?_;rintro _ _ ⟨B,okB,rfl,hBt,rfl,rfl,rfl⟩;refine yr26 ?_;refine je (aNew_K okp) ja ?_;rintro _ _ ⟨a,oka2,habs,rfl,rfl⟩;refine yr9 ?_;refine K.dr _ (od 0 [1,0,0,0,0,0,0,0,0,2,0,0,1,0,0,2]) (Part.drop Part.all) ?_;refine yr10 ?_;refine Jx (tbNew_K (n:=caps) (gens:=gens) bc hgn) ?_;rintro _ _ ⟨tb,oktb,htbl,htbg,rfl,rfl⟩;refine yr18 ?_;refine zO ?_;refine yr1 ?_;refine Jx (piNew_K (n:=B.p.g.slots) (by rw[hpg];omega)) ?_;rintro _ _ ⟨pi,okpi,hpil,rfl,rfl⟩;refine yr9 ?_;refine K.dr _ (od 0 [1,0,0,0,0,0,0,0,0,0,0,0,0,0,0,0,0,0,0,0,0,2,0,0,1,0,0,2]) (Part.drop Part.all) ?_;refine yr22 ?_;refine je (mkNew_K (nw:=nw) (long:=long) hG okB oktb okpi (by rw[hpil,List.length_replicate]) bc bc) ja ?_;rintro _ _ ⟨k,okk,hkn,hka,hkf,hkb,hkt,hkp,hkh,hkr,rfl,rfl⟩;refine yr11 ?_;refine K.dr _ (od 0 [1,0,0,0,0,0,0,0,0,0,0,0,0,0,0,0,0,2,0,0,1,0,0,2,0]) (Part.drop Part.all) ?_;refine yr18 ?_;refine je (spNew_K hG oka2 okB okk) ja ?_;rintro _ _ ⟨sp,oks,e1,e2,e3,e4,e5,e6,rfl,rfl⟩;refine yr20 ?_
 have hrel:=cynew_rel (b:=b27) okg hpg okB hBt bc bc bc oka2 habs oktb htbl htbg okpi hpil okk hkn hka hkf hkb hkt hkp hkh hkr oks e1 e2 e3 e4 e5 e6
 exact KE.fin (H':=cycH ⟨b27,B,a,tb,pi,k,sp,nw,0,0⟩++F) jd rfl jc bL ⟨_,hrel,rfl,rfl⟩
theorem of1_K {w0:World} {F:jb} {v:Value} {l:List Int} {n:Int} {i b1 b2:Nat} {x:Int} (hS:Sli w0 F iE v l) (hx:l[i]?=some x):
  Call Tryz.prog w0 284 [.int .i64 (i:Nat),pt b1,pt b2] ((b1,cells [v] 22)::(b2,cells [.int .i64 n] 3)::F)
   (fun r H'=>r= .bool (decide (n<=x))/\H'=(b1,cells [v] 22)::(b2,cells [.int .i64 n] 3)::F):=by
 have hS2:Sli w0 ((b1,cells [v] 22)::(b2,cells [.int .i64 n] 3)::F) iE v l:=hS.part ja
 clear hS;refine en3 11 Tryz.func284 ?_
 have hi:=jl hx
 refine yr6 ?_;refine K.dr [] (od 0 [0,0,0,0,0,0,0]) Part.nil ?_;refine yr10 ?_;exact zd
def firstP (n:Int):List Int->Nat
 | []=>0
 |x::l=>if n<=x then 0 else firstP n l+1
theorem jjS {n:Int}: ∀ {l:List Int} {i:Nat},i<=l.length->(∀ j x,j<i->l[j]?=some x-> ¬n<=x)->(∀ x,l[i]?=some x->n<=x)->firstP n l=i
 | [],i,h,_,_=>by simp at h;subst h;rfl
 |x::l,0,_,_,h3=>by simp[firstP,h3 x rfl]
 |x::l,i+1,h1,h2,h3=>by
  have:=h2 0 x bc rfl
  simp only[firstP,if_neg this];rw[jjS (by simpa using h1) (fun j y hj hy=>h2 (j+1) y bc (by simpa using hy)) (fun y hy=>h3 y (by simpa using hy))]
def ofP (l:List Int) (n:Int):Int × Int:=if Jk l then(if firstP n l=l.length\/n<1 then(0,50) else((firstP n l:Nat),0)) else(0,2)
theorem classOf_K {w0:World} {H:jb} {v:Value} {l:List Int} {n:Int} (hS:Sli w0 H iE v l) (hvc:v.cells=[v].toArray) (hl:l.length<=140737488355328):
  Cs w0 191 [v, .int .i64 n] H (.tuple [.int .i64 (ofP l n).1, .int .i64 (ofP l n).2].toArray):=by
 refine en2 26 Tryz.func191 ?_;refine yr3 ?_;intro b2;refine yr1 ?_;intro b3;refine yq8 fun T hT=>?_;refine(CallV.fn (Check_K (hS.part ja) hl)).mono ?_;rintro _ _ ⟨rfl,rfl⟩
 cases hc:Jk l with
 |false=>
  have ho:ofP l n=(0,2):=by simp[ofP,hc]
  refine zaO ?_;clear hT T;refine yr19 ?_;exact zbd
 |true=>
  have hS2: ∀ b2 b3,Sli w0 ((b2,cells [v] 22)::(b3,cells [.int .i64 n] 3)::H) iE v l:=fun b2 b3=>hS.part ja
  simp only[jaX,if_true];refine ze ?_;clear hT T;refine yq17 fun T hT=>?_;refine(CallV.part (CallV.fn (jka (H:=(b2,cells [v] 22)::(b3,cells [.int .i64 n] 3)::H) (n:=l.length) (fun i=>decide (n<=(l[i]?).getD 0)) hl ?_ ?_)) ja).mono ?_
  ·intro i j hij hj hp
   obtain⟨x,hx⟩:=jq (l:=l) (k:=i) bc
   obtain⟨y,hy⟩:=jq hj
   have:=jfZ hc hij hx hy
   simp only[hx,hy,Option.getD_some,decide_eq_true_eq] at hp|-
   omega
  ·intro i hi
   obtain⟨x,hx⟩:=jq hi
   refine(CallV.clo (cap:=[_,_]) (of1_K (F:=H) (n:=n) hS hx)).mono ?_;rintro _ _ ⟨rfl,rfl⟩;exact⟨by simp[hx],rfl⟩
  ·rintro _ _ ⟨i,hi,hlo,hhi,rfl,rfl⟩
   have hf:firstP n l=i:=jjS hi (fun j x hj hx=>by have:=hlo j hj;simpa [hx] using this) (fun x hx=>by have:=hhi i (Nat.le_refl _) (jl hx);simpa [hx] using this)
   by_cases hil:i=l.length
   ·have ho:ofP l n=(0,50):=by simp[ofP,hc,hf,hil]
    have hil':(i:Int)=(l.length:Nat):=by omega
    refine ze ?_;clear hT T;refine yr25 ?_;exact zbd
   ·have hil': ¬(i:Int)=(l.length:Nat):=by omega
    by_cases hn1:n<1
    ·have ho:ofP l n=(0,50):=by simp[ofP,hc,hf,hn1]
     refine ze ?_;clear hT T;refine yr25 ?_;exact zbd
    ·have ho:ofP l n=(((i:Nat):Int),0):=by simp[ofP,hc,hf,hil,hn1]
     refine ze ?_;clear hT T;refine yr27 ?_;exact zbd
theorem jiK {n:Int}: ∀ (l:List Int),(∀ x∈l,0<=x)->(l.map Int.toNat).findIdx (fun(y:Nat)=>decide (n<=(y:Nat)))=firstP n l
 | [],_=>rfl
 |x::l,h=>by
  have ih:=jiK (n:=n) l fun y hy=>h y (.tail _ hy)
  have hx:=h x (.head _)
  rw[List.map_cons,List.findIdx_cons];unfold firstP
  by_cases c:n<=x
  ·rw[if_pos c,decide_eq_true (show n<=((x.toNat:Nat):Int) by omega)];rfl
  ·rw[if_neg c,decide_eq_false (show ¬n<=((x.toNat:Nat):Int) by omega),ih];rfl
theorem jgQ {l:List Int} (h:Jk l=true): ∀ x∈l,0<=x:=by
 simp only[Jk,Bool.and_eq_true] at h;intro x hx
 have:=(jc0 h.2).1 x hx
 omega
theorem jiz {c:Cfg} {t n:Int} (h:Jk c.cl=true) (hn:1<=n):ofP c.cl n=if classI (gOf c t) n=(gOf c t).cl.length then(0,50) else(((classI (gOf c t) n:Nat):Int),0):=by
 have e1:classI (gOf c t) n=firstP n c.cl:=jiK c.cl (jgQ h)
 have e2:(gOf c t).cl.length=c.cl.length:=List.length_map ..
 unfold ofP;rw[h,e1,e2,if_pos rfl]
 by_cases hf:firstP n c.cl=c.cl.length
 ·rw[if_pos (.inl hf),if_pos hf]
 ·rw[if_neg bc,if_neg hf]
theorem CloneI_K {w0:World} {v:Value} {l:List Int} (hS:SlW w0 iE v l) (hl:l.length<=4294967296):
  Call Tryz.prog w0 96 [v] [] (fun r H'=> ∃ o,oOk iE l o/\r=oV o l.length/\H'=oH iE 3 l o):=by
 refine en1 8 Tryz.func96 ?_
 have hS0:=hS
 obtain⟨a,c,rfl,h1,h2,h3⟩:=hS.shape
 cases a with
 |none=>
  have hn:l=[]:=by
   cases l with
   |nil=>rfl
   |cons x r=>obtain⟨b,o,h⟩:=h3 bF;cases h
  subst hn;refine yr20 ?_;exact zaP
 |some a=>
  (iterate 20 first|refine yS ?_|intro _)
  refine KL.e rfl (Eff.appLit (E:=iE) (ys:=l) rfl rfl rfl rfl rfl rfl rfl jK ba be rfl) ?_;rintro _ _ ⟨o',ok',rfl,rfl⟩;refine yr4 ?_;exact zaQ
theorem CloneT_K {w0:World} {v:Value} {l:List Tn} (hS:SlW w0 tnE v l) (hl:l.length<=4294967296):
  Call Tryz.prog w0 97 [v] [] (fun r H'=> ∃ o,oOk tnE l o/\r=oV o l.length/\H'=oH tnE 59 l o):=by
 refine en1 8 Tryz.func97 ?_
 have hS0:=hS
 obtain⟨a,c,rfl,h1,h2,h3⟩:=hS.shape
 cases a with
 |none=>
  have hn:l=[]:=by
   cases l with
   |nil=>rfl
   |cons x r=>obtain⟨b,o,h⟩:=h3 bF;cases h
  subst hn;refine yr20 ?_;exact zaP
 |some a=>
  (iterate 20 first|refine yS ?_|intro _)
  refine KL.e rfl (Eff.appLit (E:=tnE) (ys:=l) rfl rfl rfl rfl rfl rfl rfl jK ba be rfl) ?_;rintro _ _ ⟨o',ok',rfl,rfl⟩;refine yr4 ?_;exact zaQ
theorem Own_K {w0:World} {F:jb} {c:Cfg} {vc vt:Value} (hR:Jl w0 F c vc vt) (h1:c.cl.length<=4294967296) (h2:c.tn.length<=4294967296):
  Call Tryz.prog w0 45 [jA c vc vt] F (fun r H'=> ∃ oc ot,oOk iE c.cl oc/\oOk tnE c.tn ot/\r=jA c (oV oc c.cl.length) (oV ot c.tn.length)/\H'=oH iE 3 c.cl oc++(oH tnE 59 c.tn ot++F)):=by
 have hcl:=hR.cl
 have htn:=hR.tn
 have q1:=hR.one1
 have q2:=hR.one2
 unfold jA jV;refine en1 12 Tryz.func45 ?_
 (iterate 8 first|refine yS ?_|intro _)
 refine zi ?_
 (repeat refine K.seq ?_)
 refine K.dr [] [(0,0),(1,0),(3,0),(4,0),(2,5),(6,0),(5,5),(7,2),(8,0),(9,2)] ja ?_;refine yr5 ?_;refine(CallV.pure fun w hw=>CallV.fn (CloneI_K (hcl w (hw.part ja)) h1)).mono ?_;rintro _ _ ⟨_,⟨oc,kc,rfl,rfl⟩,rfl⟩;refine yr3 ?_;refine(CallV.pure fun w hw=>CallV.fn (CloneT_K (htn w (hw.part ja)) h2)).mono ?_;rintro _ _ ⟨_,⟨ot,kt,rfl,rfl⟩,rfl⟩;refine yr15 ?_;exact KE.fin jd rfl jc ja ⟨oc,ot,kc,kt,rfl,rfl⟩
