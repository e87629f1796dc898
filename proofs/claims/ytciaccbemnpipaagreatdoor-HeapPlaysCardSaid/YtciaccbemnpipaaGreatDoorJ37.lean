/-The walker and contracts, part 37.-/
import Derived.Test.YtciaccbemnpipaaGreatDoorJ35
set_option linter.all false
namespace Go.Proofs.YtciaccbemnpipaaGreatDoor.Sw
set_option maxHeartbeats 8000000
open Go.Proofs.YtciaccbemnpipaaGreatDoor renaming lo -> qL, hi -> qH
open Go.RowKit
set_option maxRecDepth 10000
section
variable {w0 : World} {D : HpD} {nf nk n : Nat} {y y' : CyM} {h : HpP} {s' : CyP} {F : jb}
theorem cLook_K {g:PlG} {long:Nat} {s:CyP} {i n:Nat} (h:CpR g long y s):Cs w0 123 [pt y.T.b, .int .i64 (i:Nat), .int .u32 (n:Nat)] (cycH y++F) (.tuple [.int .i64 (((J2 s.W.T (i:Nat) (n:Nat)).map (·.slot)).getD 0), .int .i64 (if (J2 s.W.T (i:Nat) (n:Nat)).isSome=true then 0 else 130)].toArray):=by
 have hc:=Call.ro (w0:=w0) (A:=jF y.T) (H:=cycH y++F) (fun F=>jmf (F:=F) (i:=i) (n:=n) h.p.tb) bP
 rw[h.p.eT] at hc;exact hc
theorem hyLook_K {i n:Nat} (h1:HpR D nf nk y h):Cs w0 123 [pt D.Tb, .int .i64 (i:Nat), .int .u32 (n:Nat)] (hpH D y h++F) (.tuple [.int .i64 (((J2 h.s.W.T (i:Nat) (n:Nat)).map (·.slot)).getD 0), .int .i64 (if (J2 h.s.W.T (i:Nat) (n:Nat)).isSome=true then 0 else 130)].toArray):=
 h1.lift0 fun A=>by have:=cLook_K (w0:=w0) (F:=A) (i:=i) (n:=n) h1.p;rw [h1.T] at this;exact this
theorem jcD {w:Nat} (hw:w<18446744073709551616) (h1:HpR D nf nk y h):Cs w0 58 [pt D.b, .int .u64 (w:Nat)] (hpH D y h++F) (.tuple [.int .i64 ((hpSlot D.C.tn h.s.W.T w).getD 0), .bool (hpSlot D.C.tn h.s.W.T w).isSome].toArray):=by
 have hget:=fun A=>jjY (w0:=w0) (H:=A) hw
 have hTb:=fun A=>jeM (w0:=w0) (F:=A) h1
 have hL:=fun A=>hyLook_K (w0:=w0) (F:=A) (i:=capI w) (n:=capG w) h1
 unfold capV at hget;unfold hpSlot
 by_cases hg:capG w=0
 ·rw[if_neg (fun q=>q.1 hg)];simp only[if_pos hg] at hget;refine en2 41 Tryz.func58 ?_;refine yr10 ?_;refine zR ?_
  (iterate 11 first|refine yS ?_|intro _)
  refine zE ?_;refine yr22 ?_;exact zQ
 ·simp only[if_neg hg] at hget
  by_cases ht:capT w=D.C.tn
  ·have ht': ¬((capT w:Nat):Int)≠(D.C.tn:Nat):=by omega
   rw[if_pos ⟨hg,ht⟩]
   cases hn:J2 h.s.W.T (capI w:Nat) (capG w:Nat) with
   |none=>
    simp only[hn,Option.map_none,Option.getD_none,Option.isSome_none,Bool.false_eq_true,if_false] at hL|-;refine en2 41 Tryz.func58 ?_;refine yr10 ?_;refine zR ?_;simp only[hpH_app]
    (iterate 11 first|refine yS ?_|intro _)
    refine zE ?_;refine yr17 ?_;refine zcl ?_;refine yr9 ?_;refine je (hTb _) bd ?_;rintro _ _ ⟨rfl,rfl⟩;simp only[hpH_app];refine yr2 ?_;refine je (hL _) bd ?_;rintro _ _ ⟨rfl,rfl⟩;simp only[hpH_app];refine yr18 ?_;exact zQ
   |some e=>
    simp only[hn,Option.map_some,Option.getD_some,Option.isSome_some,if_true] at hL|-;refine en2 41 Tryz.func58 ?_;refine yr10 ?_;refine zR ?_;simp only[hpH_app]
    (iterate 11 first|refine yS ?_|intro _)
    refine zE ?_;refine yr17 ?_;refine zcl ?_;refine yr9 ?_;refine je (hTb _) bd ?_;rintro _ _ ⟨rfl,rfl⟩;simp only[hpH_app];refine yr2 ?_;refine je (hL _) bd ?_;rintro _ _ ⟨rfl,rfl⟩;simp only[hpH_app];refine yr18 ?_;exact zQ
  ·have ht':((capT w:Nat):Int)≠(D.C.tn:Nat):=by omega
   rw[if_neg (fun q=>ht q.2)];refine en2 41 Tryz.func58 ?_;refine yr10 ?_;refine zR ?_;simp only[hpH_app]
   (iterate 11 first|refine yS ?_|intro _)
   refine zE ?_;refine yr22 ?_;exact zQ
theorem jjM {t:Nat} (hD:HpDok D) (h1:HpR D nf nk y h) (hI: ∀ e∈h.s.W.T,1<=e.gen/\e.gen<=2147483648) (ht:t<D.C.g.slots) (hf:(JN h.s.W.T).isSome=true):Call Tryz.prog w0 200 [pt D.b, .int .i64 (t:Nat)] (hpH D y h++F)
  (fun r H'=>r= .int .u64 (jaU D.C.tn h.s.W.T:Nat)/\HpQ D nf nk {h with s:={h.s with W:={h.s.W with T:=jS h.s.W.T (t:Nat)}}} F H'):=by
 have hTb:=fun A=>jeM (w0:=w0) (F:=A) h1
 have hM:=fun A=>h1.lift (F:=A) (fun A=>by have:=cMint_K (w0:=w0) (F:=A) h1.p ht;rw [h1.T] at this;exact this)
 have hl:=h1.p.T1024
 have htn:=hD.C.tn
 obtain⟨i,hi⟩:=Option.isSome_iff_exists.1 hf
 obtain⟨⟨e,g1,g2⟩,_⟩:=jbK hi
 have hil:=jl g1
 have hge:=hI e (List.mem_of_getElem? g1)
 obtain⟨gn,hgn⟩: ∃ gn:Nat,e.gen=gn:=⟨e.gen.toNat,by omega⟩
 have hmv:JT h.s.W.T=(((i:Nat):Int),((gn:Nat):Int),0):=by unfold JT;rw [hi];dsimp only;rw [jcp g1,hgn]
 have hmw:jaU D.C.tn h.s.W.T=capW D.C.tn i gn:=by unfold jaU;rw [hmv];rfl
 simp only[hmv] at hM;rw[hmw]
 have hput:=fun A=>capPut_K (w0:=w0) (H:=A) (t:=D.C.tn) (i:=i) (n:=gn) bc bc ⟨by omega,by omega⟩
 unfold HpQ at hM|-;refine en2 33 Tryz.func200 ?_;simp only[hpH_app];refine yr12 ?_;refine ji (hTb _) bd ?_;refine yr2 ?_;refine je (hM _) bd ?_;rintro _ _ ⟨rfl,y1,h2,rfl⟩;simp only[hpH_app];refine yr19 ?_;refine ji (hput _) bd ?_;refine yr14 ?_;exact zB
theorem cHead_K {g:PlG} {long:Nat} {s:CyP} {n:Nat} {z:jn} (hG:ju w0) (h:CpR g long y s) (hz:g.L[n]?=some z):Cs w0 161 [pt y.B.b, .int .i64 (n:Nat)] (cycH y++F) (headV (headP s.W.x z)):=
 Call.ro (w0:=w0) (A:=jT y.B++(jy y.B.m++planH y.B.p)) (H:=cycH y++F) (fun F=>by
  have:=jdg (w0:=w0) (F:=F) (s:=n) hG h.p.bo bX
  simpa only [List.append_assoc] using this) bP
theorem hyHead_K {n:Nat} {z:jn} (hG:ju w0) (h1:HpR D nf nk y h) (hz:D.C.g.L[n]?=some z):Cs w0 161 [pt D.Bb, .int .i64 (n:Nat)] (hpH D y h++F) (headV (headP h.s.W.x z)):=
 h1.lift0 fun A=>by have:=cHead_K (w0:=w0) (F:=A) hG h1.p hz;rw [h1.B] at this;exact this
theorem jiG {n:Nat} {z:jn} {i:Int} (hG:ju w0) (h1:HpR D nf nk y h) (hz:D.C.g.L[n]?=some z):Cs w0 202 [pt D.b, .int .i64 (n:Nat), .int .i64 i] (hpH D y h++F) (.tuple [.bool (jax h.s.W.x z i).1, .int .i64 (jax h.s.W.x z i).2].toArray):=by
 have hB:=fun A=>jdB (w0:=w0) (F:=A) h1
 have hH:=fun A=>hyHead_K (w0:=w0) (F:=A) hG h1 hz
 have hfd:=fun A (q:HdP)=>jjN (w0:=w0) (H:=A) (h:=q) (i:=i)
 unfold jax
 obtain⟨q,e,hq⟩: ∃ (q:HdP) (e:Int),headV (headP h.s.W.x z)= .tuple [hdV q, .int .i64 e].toArray/\(headP h.s.W.x z).getD ⟨0,0,0⟩=q:=by
  unfold headV
  cases headP h.s.W.x z with
  |none=>exact⟨⟨0,0,0⟩,_,rfl,rfl⟩
  |some q=>exact⟨q,_,rfl,rfl⟩
 rw[hq.2];rw[hq.1] at hH;unfold hdV at*
 obtain⟨c,r,w⟩:=q
 dsimp only at*;refine en3 25 Tryz.func202 ?_;simp only[hpH_app];refine yr13 ?_;refine ji (hB _) bd ?_;refine yr2 ?_;refine ji (hH _) bd ?_
 (iterate 14 first|refine yS ?_|intro _)
 refine jj (hfd _ ⟨c,r,w⟩) ?_;refine yr7 ?_;exact zQ
end
structure PdS where
 y:CyM
 q:HpP
section
variable {w0 : World} {D : HpD} {nf nk n : Nat} {y y' : CyM} {h : HpP} {s' : CyP} {F : jb}
theorem hyHelp_K (hG:ju w0) (h1:HpR D nf nk y h):Call Tryz.prog w0 299 [pt D.yb] (hpH D y h++F) (fun r H'=>r= .bool (jM D.C.g D.C.long h.s).isSome/\HpQ D nf nk {h with s:=(jM D.C.g D.C.long h.s).getD h.s} F H'):=
 h1.lift (n:=0) (F:=F) fun A=>by have:=jjV (w0:=w0) (F:=A) hG h1.p;rw [h1.b] at this;exact this
theorem hppaced_K (hG:ju w0) (hD:HpDok D) (hI:HeI D.C h) (h1:HpR D nf nk y h) (hn:1<=n/\n<=64) (hf:nf<=1000000) (hk:nk<=200000000):
  Call Tryz.prog w0 201 [pt D.b, .int .i64 (n:Nat)] (hpH D y h++F) (fun r H'=>r= .tuple #[]/\HpQ D (nf+1) (nk+200000000) (jdd D.C n h) F H'):=by
 have hC:=hD.C
 have hA:=h1.pace (F:=F) (h1.pb.ask D.C.tr D.C.ast n) (fun A=>pcAsk_K (w0:=w0) (F:=A) (n:=n) (h1.pc hD) hn)
 have m1:JC D.C true h {h with p:=(Jz D.C.tr D.C.ast n h.p).2}:=HpMv.one (.free rfl fun hb=>hb.ask _ _ _)
 have hI1:=hI.mvs hC m1
 have hd:=jft (tr:=D.C.tr) (ast:=D.C.ast) (n:=n) (p:=h.p)
 have hle:=h1.p.le.s
 have hw:=h1.w
 unfold jdd
 have hdd:(Jz D.C.tr D.C.ast n h.p).1=0\/(Jz D.C.tr D.C.ast n h.p).1=1\/(Jz D.C.tr D.C.ast n h.p).1=2:=by
  unfold Jz;dsimp only
  split
  ·exact .inl rfl
  ·split
   ·exact .inr (.inr rfl)
   ·exact .inr (.inl rfl)
 have hac:(Jz D.C.tr D.C.ast n h.p).2.act=h.p.act:=rfl
 obtain⟨due,hdue⟩: ∃ due,due=(Jz D.C.tr D.C.ast n h.p).1:=⟨_,rfl⟩
 obtain⟨p1,hp1⟩: ∃ p1,p1=(Jz D.C.tr D.C.ast n h.p).2:=⟨_,rfl⟩
 simp only[<-hdue,<-hp1] at hA m1 hI1 hd hdd hac|-
 have mT:=je3 (C:=D.C) (wr:=true) p1.debt {h with p:=p1} (Nat.le_refl _)
 have hIT:=hI1.mvs hC mT
 have hTa:(JY D.C p1.debt {h with p:=p1}).p.act=h.p.act:=(je4 _ _).trans hac
 obtain⟨T,hT0⟩: ∃ T,T=JY D.C p1.debt {h with p:=p1}:=⟨_,rfl⟩
 rw[<-hT0] at hIT hTa|-
 have hdebt:=fun A (y:CyM) (q:HpP) (h2:HpR D nf (nk+100000000) y q)=>h2.pace0 (F:=A) (fun A=>pcDebt_K (w0:=w0) (F:=A) (h2.pc hD))
 have hhelp:=fun A (y:CyM) (q:HpP) (h2:HpR D nf (nk+100000000) y q)=>hyHelp_K (w0:=w0) (F:=A) hG h2
 have hpay:=fun A (y:CyM) (q:HpP) (h2:HpR D nf (nk+100000000) y q)=>h2.pace (F:=A) (p':={q.p with debt:=q.p.debt-1}) ⟨h2.pb.s,h2.pb.t,Nat.le_trans (Nat.sub_le _ _) h2.pb.d,h2.pb.c⟩ (fun A=>pcPay_K (w0:=w0) (F:=A) (h2.pc hD))
 unfold HpQ at hA hhelp hpay|-;refine en2 49 Tryz.func201 ?_;simp only[hpH_app];refine yr8 ?_;refine je hA bd ?_;rintro _ _ ⟨rfl,y1,h2,rfl⟩;refine yr7 ?_;refine K.cutT (σ:=CyM) [] jg (fun s kp_=>(0,pt D.b)::(4, .int .u8 (due:Nat))::kp_) (fun s=>hpH D s T++F) (fun s=>HpR D nf (nk+100000000) s T) ?_ ?_
 ·refine yr1 ?_;refine K.loopT (σ:=PdS) [(0,_)] (fun s kp_=>(4, .int .u8 (due:Nat))::kp_) (fun s=>hpH D s.y s.q++F) (fun s=>HpR D nf (nk+100000000) s.y s.q/\HeI D.C s.q/\JY D.C s.q.p.debt s.q=T/\s.q.wk+Jg D.C.g s.q.s<=nk+100000000) (fun s=>s.q.p.debt) (⟨y1,{h with p:=p1}⟩) jg ja (⟨h2.mono (Nat.le_refl _) bc,hI1,hT0.symm,by dsimp only;omega⟩) ?_;rintro⟨y2,q⟩ ⟨r1,r2,r3,r4⟩;dsimp only at r1 r2 r3 r4|-
  cases hqd:q.p.debt with
  |zero=>
   have hd0:=fun A=>hdebt A y2 q r1
   simp only[hqd] at hd0;rw[hqd] at r3
   have r3':q=T:=r3
   subst r3';simp only[hpH_app];refine yr8 ?_;refine zbE ?_;refine yr15 ?_;exact KE.meet y2 jg bd r1
  |succ d=>
   have hd0:=fun A=>hdebt A y2 q r1
   simp only[hqd] at hd0
   have hdp:((d+1:Nat):Int)>0:=by omega
   have hh:=fun A=>hhelp A y2 q r1
   cases hs:jM D.C.g D.C.long q.s with
   |none=>
    have r3':q=T:=by rw[<-r3,hqd];unfold JY;rw [hs]
    subst r3';simp only[hs,Option.isSome_none,Option.getD_none] at hh;simp only[hpH_app];refine yr8 ?_;refine zbE ?_;simp only[hpH_app];refine yr7 ?_;refine je (hh _) bd ?_;rintro _ _ ⟨rfl,y3,h3,rfl⟩;refine yr8 ?_;exact KE.meet y3 jg bd h3
   |some s1=>
    have hmes:=jcm hC.g r2.ok hs
    have e5:((q.wk:Nat):Int)+1=((q.wk+1:Nat):Int):=by omega
    have hI3:HeI D.C ⟨s1,{q.p with debt:=d},q.wk+1⟩:=r2.mvs hC ((HpMv.one (.help hs)).tail (.free (wr:=true) (h:={q with s:=s1}) rfl fun hb=>⟨hb.s,hb.t,by have:=hb.d;show d<=M62;dsimp only at this;omega,hb.c⟩))
    have r3':JY D.C d ⟨s1,{q.p with debt:=d},q.wk+1⟩=T:=by rw[<-r3,hqd];conv=>rhs;unfold JY;rw [hs]
    simp only[hs,Option.isSome_some,Option.getD_some] at hh
    have hwk:=fun(y3:CyM) (h3:HpR D nf (nk+100000000) y3 {q with s:=s1})=>h3.wk (n:=q.wk+1) (nk':=nk+100000000) bc
    have hp:=fun A (y3:CyM) (h3:HpR D nf (nk+100000000) y3 {q with s:=s1})=>hpay A y3 _ (hwk y3 h3)
    simp only[hqd,Nat.add_sub_cancel] at hp;simp only[hpH_app];refine yr8 ?_;refine zbE ?_;simp only[hpH_app];refine yr7 ?_;refine je (hh _) bd ?_;rintro _ _ ⟨rfl,y3,h3,rfl⟩;simp only[hpH_app];refine yr19 ?_;rw[e5];refine yr6 ?_;refine je (hp _ y3 h3) bd ?_;rintro _ _ ⟨⟨z,rfl⟩,y4,h4,rfl⟩;refine yr2 ?_;exact KE.again ⟨y4,⟨s1,{q.p with debt:=d},q.wk+1⟩⟩ jg bd ⟨h4,hI3,r3',by show q.wk+1+Jg D.C.g s1<=_;omega⟩ (by show d<d+1;omega)
 ·clear h2;rintro y1 h2
  have hpa:=hIT.pa
  unfold jcc
  rcases hdd with e|e|e
  ·subst e;rw[if_neg bn,if_neg bn];refine yr22 ?_;exact KE.finN jd rfl jc bd ⟨rfl,y1,h2.mono bc bc,rfl⟩
  ·subst e
   have ha:=hTa.trans (hd.1 rfl)
   have h0:T.s.ph=0:=Classical.byContradiction fun q=>by rw[ha,decide_eq_true q] at hpa;cases hpa
   have hB:=jiH (w0:=w0) (F:=F) hD h2 h0 ha hf
   unfold HpQ at hB;rw[if_pos rfl];refine yr16 ?_;refine je hB bd ?_;rintro _ _ ⟨rfl,y3,h3,rfl⟩;refine yr2 ?_;exact zcm
  ·subst e
   have ha:=hTa.trans (hd.2 rfl)
   have h0:T.s.ph≠0:=of_decide_eq_true (hpa.symm.trans ha)
   have hE:=jhe (F:=F) hG hD h2 h0 ha bc
   unfold HpQ at hE;rw[if_neg bn,if_pos rfl];refine yr23 ?_;refine je hE bd ?_;rintro _ _ ⟨rfl,y3,h3,rfl⟩;refine yr2 ?_;exact zcm
end
section
variable {w0 : World} {D : HpD} {nf nk n : Nat} {y y' : CyM} {h : HpP} {s s' : CyP} {F : jb} {op : OpP} {z : jn}
theorem hpfreeV {G:jb} (nf nk:Nat) (y:CyM) (h:HpP) (h1:HpR D nf nk y h):CallV Tryz.prog w0 (.func (.func 195) #[pt D.b] #[]) [] (hpH D y h++G) (fun r H'=>r= .bool (freeB h.s)/\H'=hpH D y h++G):=
 CallV.bound (first:=[pt D.b]) (jfa h1)
theorem jfw {C:HpC} {h:HpP} {a:Int} (hI:HeI C h) (hn:n<C.g.slots) (hz:C.g.L[n]?=some z) (h1:(jax h.s.W.x z a).2=0) (h2:(jax h.s.W.x z a).1=true) (h3: ¬(refP h.s.W.x C.g.slots z a).1<0): ∃ t:Nat,(refP h.s.W.x C.g.slots z a).1=(t:Nat)/\t<C.g.slots:=by
 have hf:=(jeu h1).1
 rw[h2] at hf
 obtain⟨t,ht⟩: ∃ t:Nat,(refP h.s.W.x C.g.slots z a).1=(t:Nat):=⟨((refP h.s.W.x C.g.slots z a).1).toNat,by omega⟩
 have hr:refO C.g h.s.W.x ((n:Nat):Int) a=some ((t:Nat):Int):=by
  unfold refO;rw [jY hz,if_pos ⟨jei hI.ok.rf hz hf,by omega⟩,ht]
 exact⟨t,ht,jkC hr⟩
theorem hpread_K (hG:ju w0) (hD:HpDok D) (hI:HeI D.C h) (h1:HpR D nf nk y h) (hn:n<D.C.g.slots) (hf:nf<=1000000) (hk:nk<=100000000):Call Tryz.prog w0 115 [pt D.b,opV op, .int .i64 (n:Nat)] (hpH D y h++F) (fun r H'=>r=snV (jaK D.C h (n:Nat) op.a).1/\HpQ D (nf+1) (nk+200000000) (jaK D.C h (n:Nat) op.a).2 F H'):=by
 obtain⟨z,hz⟩:=Je hn
 have hC:=hD.C
 have hgn:=hC.gn
 have htold:=fun A (e:Int)=>ja0 (w0:=w0) (H:=A) (e:=e)
 have hfld:=fun A=>jiG (w0:=w0) (F:=A) (i:=op.a) hG h1 hz
 have hB:=fun A=>jdB (w0:=w0) (F:=A) h1
 have hWd:=fun A=>hyWord_K (w0:=w0) (F:=A) (i:=op.a) hG h1 hz
 have hRf:=fun A=>hyRef_K (w0:=w0) (F:=A) (i:=op.a) hG h1 hz
 have hrm:=fun A=>jjL (w0:=w0) (G:=A) (is:=freeB) hG hD hI h1 hf hk hpfreeV
 have hI2:=hI.mvs hC (jd0 (wr:=true) hC hI (is:=freeB))
 have hfr:=fun A (y1:CyM) (h2:HpR D (nf+1) (nk+200000000) y1 (hpRoom D.C freeB h))=>jfa (w0:=w0) (F:=A) h2
 unfold jaK;rw[jY hz]
 have hlt:=jfw (a:=op.a) hI hn hz
 unfold HpQ at hrm|-
 generalize jax h.s.W.x z op.a=fx at hfld hlt|-
 obtain⟨isr,e⟩:=fx
 dsimp only at hfld hlt|-;unfold opV
 by_cases he:e=0
 ·subst he;rw[if_neg (fun q=>q rfl)]
  cases isr with
  |false=>
   rw[if_pos rfl];refine en3 76 Tryz.func115 ?_
   (iterate 15 first|refine yS ?_|intro _)
   refine zq ?_;simp only[hpH_app];refine yr26 ?_;refine zaL ?_;refine yr8 ?_;refine zah ?_;rintro _ _ ⟨rfl,rfl⟩;simp only[hpH_app];refine yr2 ?_;refine je (hWd _) bd ?_;rintro _ _ ⟨rfl,rfl⟩;simp only[hpH_app];refine yr18 ?_;exact zbe
  |true=>
   rw[if_neg bn]
   by_cases h3:(refP h.s.W.x D.C.g.slots z op.a).1<0
   ·rw[if_pos h3];refine en3 76 Tryz.func115 ?_
    (iterate 15 first|refine yS ?_|intro _)
    refine zq ?_;simp only[hpH_app];refine yr29 ?_;refine zaL ?_;refine yr8 ?_;refine zah ?_;rintro _ _ ⟨rfl,rfl⟩;simp only[hpH_app];refine yr2 ?_;refine zbf ?_;rintro _ _ ⟨rfl,rfl⟩;simp only[hpH_app];refine yr24 ?_;exact zbe
   ·rw[if_neg h3]
    obtain⟨t,ht,htl⟩:=hlt rfl rfl h3
    rw[ht];simp only[ht] at hRf
    have h0t: ¬((t:Nat):Int)<0:=by omega
    cases hb:freeB (hpRoom D.C freeB h).s with
    |false=>
     simp only[hb] at hfr;rw[if_pos rfl];refine en3 76 Tryz.func115 ?_
     (iterate 15 first|refine yS ?_|intro _)
     refine zq ?_;simp only[hpH_app];refine yr29 ?_;refine zaL ?_;refine yr8 ?_;refine zah ?_;rintro _ _ ⟨rfl,rfl⟩;simp only[hpH_app];refine yr2 ?_;refine zbf ?_;rintro _ _ ⟨rfl,rfl⟩;simp only[hpH_app];refine yr25 ?_;refine je (hrm _) bd ?_;rintro _ _ ⟨rfl,y1,h2,rfl⟩;refine yr6 ?_;refine ji (hfr _ y1 h2) ja ?_;refine yr7 ?_;refine zl ?_;refine yr5 ?_;exact zB
    |true=>
     simp only[hb] at hfr;rw[if_neg bn]
     have hT:=jbo (g:=D.C.g) (long:=D.C.long) (s:=(hpRoom D.C freeB h).s) ((t:Nat):Int)
     have hSh:=fun A (y1:CyM) (h2:HpR D (nf+1) (nk+200000000) y1 (hpRoom D.C freeB h))=>jeN (w0:=w0) (F:=A) h2 htl
     have hMi:=fun A (y1:CyM) (h2:HpR D (nf+1) (nk+200000000) y1 {hpRoom D.C freeB h with s:=shdC D.C.g D.C.long (hpRoom D.C freeB h).s (t:Nat)})=>jjM (w0:=w0) (F:=A) hD h2 (by rw[hT];exact fun e he=>⟨(hI2.e e he).1,Int.le_trans (hI2.e e he).2 hgn.2⟩) htl (by rw[hT];exact jcw hb)
     dsimp only at hMi;rw[<-hT];clear hT;unfold HpQ at hSh hMi;refine en3 76 Tryz.func115 ?_
     (iterate 15 first|refine yS ?_|intro _)
     refine zq ?_;simp only[hpH_app];refine yr29 ?_;refine zaL ?_;refine yr8 ?_;refine zah ?_;rintro _ _ ⟨rfl,rfl⟩;simp only[hpH_app];refine yr2 ?_;refine zbf ?_;rintro _ _ ⟨rfl,rfl⟩;simp only[hpH_app];refine yr25 ?_;refine je (hrm _) bd ?_;rintro _ _ ⟨rfl,y1,h2,rfl⟩;refine yr6 ?_;refine ji (hfr _ y1 h2) ja ?_;simp only[hpH_app];refine yr14 ?_;refine je (hSh _ y1 h2) bd ?_;rintro _ _ ⟨rfl,y2,h4,rfl⟩;refine yr7 ?_;refine je (hMi _ y2 h4) ja ?_;rintro _ _ ⟨rfl,y3,h5,rfl⟩;refine yr5 ?_;exact KE.fin jd rfl jc bd ⟨rfl,y3,h5,rfl⟩
 ·rw[if_pos he];refine en3 76 Tryz.func115 ?_
  (iterate 15 first|refine yS ?_|intro _)
  refine zq ?_;refine yr21 ?_;refine zl ?_;refine yr6 ?_;exact zbe
end
section
variable {w0 : World} {D : HpD} {nf nk n : Nat} {y y' : CyM} {h : HpP} {s s' : CyP} {F G : jb} {op : OpP} {z : jn} {b3 b10 b11 sz : Nat}
theorem jj5 (hD:HpDok D) (h1:HpR D nf nk y h) (hsz:sz<=1048576):Call Tryz.prog w0 192 [pt b3,pt b10] (hpH D y h++((b3,cells [pt D.b] 27)::(b10,cells [.int .i64 (sz:Nat)] 3)::G))
  (fun r H'=>r= .bool (fitsB D.C.g sz h.s)/\H'=hpH D y h++((b3,cells [pt D.b] 27)::(b10,cells [.int .i64 (sz:Nat)] 3)::G)):=by
 have hAr:=fun A=>jgj (w0:=w0) (F:=A) h1
 have hUs:=fun A=>jjG (w0:=w0) (F:=A) h1
 have hub:usedL D.C.g.L h.s.A<=1048576:=by have:=jeT h1.p.oka h.s.A;rw [h1.p.eg] at this;exact this
 obtain⟨q,hq,hqq⟩:=hD.t
 have hot:=hD.ot
 have hq':D.c.tn[((D.C.tn:Nat):Int).toNat]?=some q:=hq
 have hlt:=jl hq
 obtain⟨u,hu⟩: ∃ u,usedL D.C.g.L h.s.A=u:=⟨_,rfl⟩
 unfold fitsB;rw[hu] at hub|-;simp only[hu] at hUs
 have e5:((u:Nat):Int)+((sz:Nat):Int)=((u+sz:Nat):Int):=by omega
 by_cases hc:u+sz<=D.C.g.q
 ·have hc':((u+sz:Nat):Int)<=q.quota:=by rw[hqq];omega
  rw[decide_eq_true hc];refine en2 24 Tryz.func192 ?_;simp only[hpH_app];refine yr6 ?_;refine zcn ?_;refine yr18 ?_;refine je (hAr _) bd ?_;rintro _ _ ⟨rfl,rfl⟩;simp only[hpH_app];refine yr2 ?_;refine je (hUs _) bd ?_;rintro _ _ ⟨rfl,rfl⟩;simp only[hpH_app];refine yr7 ?_;exact zQ
 ·have hc': ¬((u+sz:Nat):Int)<=q.quota:=by rw[hqq];omega
  rw[decide_eq_false hc];refine en2 24 Tryz.func192 ?_;simp only[hpH_app];refine yr6 ?_;refine zcn ?_;refine yr18 ?_;refine je (hAr _) bd ?_;rintro _ _ ⟨rfl,rfl⟩;simp only[hpH_app];refine yr2 ?_;refine je (hUs _) bd ?_;rintro _ _ ⟨rfl,rfl⟩;simp only[hpH_app];refine yr7 ?_;exact zQ
def fitV (b3 b10:Nat):Value:= .func (.func 192) #[] #[pt b3,pt b10]
theorem alboth_K (hD:HpDok D) (h1:HpR D nf nk y h) (hsz:sz<=1048576):Call Tryz.prog w0 194 [pt b11,pt b3] (hpH D y h++((b3,cells [pt D.b] 27)::(b10,cells [.int .i64 (sz:Nat)] 3)::(b11,cells [fitV b3 b10] 31)::G))
  (fun r H'=>r= .bool (fitsB D.C.g sz h.s&&freeB h.s)/\H'=hpH D y h++((b3,cells [pt D.b] 27)::(b10,cells [.int .i64 (sz:Nat)] 3)::(b11,cells [fitV b3 b10] 31)::G)):=by
 have hf:=fun A=>jj5 (w0:=w0) (G:=A) (b3:=b3) (b10:=b10) hD h1 hsz
 have hfr:=fun A=>jfa (w0:=w0) (F:=A) h1
 unfold fitV
 obtain⟨fb,hfb⟩: ∃ fb,fitsB D.C.g sz h.s=fb:=⟨_,rfl⟩
 rw[hfb];simp only[hfb] at hf
 cases fb with
 |false=>
  rw[Bool.false_and];refine en2 9 Tryz.func194 ?_;refine yr9 ?_;refine(CallV.part (CallV.clo (args:=[]) (cap:=[pt b3,pt b10]) (hf _)) ja).mono ?_;rintro _ _ ⟨rfl,rfl⟩;refine yr8 ?_;exact zd
 |true=>
  rw[Bool.true_and];refine en2 9 Tryz.func194 ?_;refine yr9 ?_;refine(CallV.part (CallV.clo (args:=[]) (cap:=[pt b3,pt b10]) (hf _)) ja).mono ?_;rintro _ _ ⟨rfl,rfl⟩;refine yr3 ?_;refine ji (hfr _) ja ?_;refine yr5 ?_;exact zd
end
section
variable {w0 : World} {D : HpD} {nf nk n : Nat} {y y' : CyM} {h : HpP} {s s' : CyP} {F G : jb} {op : OpP} {z : jn} {b3 b10 b11 sz : Nat}
theorem class_get (hD:HpDok D) {k:Nat} (hk:k<D.C.g.m):D.c.cl[((k:Nat):Int).toNat]?=some ((D.C.g.y k:Nat):Int):=by
 have hc:Jk D.c.cl=true:=by have:=hD.c;unfold cfgP at this;rw [Bool.and_eq_true] at this;exact this.1
 rw[hD.g,gOf_m] at hk
 obtain⟨v,hv⟩:=jq hk
 have hn:=jgQ hc v (List.mem_of_getElem? hv)
 rw[Int.toNat_natCast,hv,hD.g,gOf_y hv]
 congr 1
 omega
theorem ofP_D (hD:HpDok D) {n:Int} (hn:1<=n):ofP D.c.cl n=if classI D.C.g n=D.C.g.cl.length then(0,50) else(((classI D.C.g n:Nat):Int),0):=by
 have hc:Jk D.c.cl=true:=by have:=hD.c;unfold cfgP at this;rw [Bool.and_eq_true] at this;exact this.1
 rw[hD.g];exact jiz hc hn
theorem cl_len (hD:HpDok D):D.c.cl.length<=8:=by
 have:=hD.C.g.m.2
 rw[hD.g,gOf_m] at this;exact this
def al1 (h:HpP) (A:List Bool):HpP:={h with s:={h.s with A:=A}}
def al2 (h:HpP) (x:List Int):HpP:={h with s:={h.s with W:={h.s.W with x:=x}}}
def al3 (h:HpP) (j:Nat):HpP:={h with s:={h.s with m:=Jd h.s.m j}}
def al4 (h:HpP) (j:Nat):HpP:={h with s:={h.s with W:={h.s.W with T:=jS h.s.W.T (j:Nat)}}}
theorem alTake_K {k:Int} {j:Nat} {A':List Bool} (hG:ju w0) (h1:HpR D nf nk y h) (ht:jX D.C.g h.s.A k=(((j:Nat):Int),0,A')):Call Tryz.prog w0 196 [pt D.ab, .int .i64 k] (hpH D y h++F) (fun r H'=>r= .tuple [.int .i64 (j:Nat), .int .i64 0].toArray/\ ∃ y',HpR D nf nk y' (al1 h A')/\H'=hpH D y' (al1 h A')++F):=by
 have:=hyTake_K (F:=F) (k:=k) hG h1
 rw[ht] at this;exact this
theorem alMake_K {hd:HdP} (hG:ju w0) (h1:HpR D nf nk y h) (hz:D.C.g.L[n]?=some z):Call Tryz.prog w0 198 [pt D.Bb, .int .i64 (n:Nat), .agg [.int .i64 hd.c, .int .i64 hd.r, .int .i64 hd.w].toArray] (hpH D y h++F) (fun r H'=>r= .int .i64 (makeP h.s.W.x z hd).1/\ ∃ y',HpR D nf nk y' (al2 h (makeP h.s.W.x z hd).2)/\H'=hpH D y' (al2 h (makeP h.s.W.x z hd).2)++F):=hyMake_K hG h1 hz
theorem alBlack_K (h1:HpR D nf nk y h) (hn:n<D.C.g.slots):Call Tryz.prog w0 199 [pt D.yb, .int .i64 (n:Nat)] (hpH D y h++F) (fun r H'=>r= .int .i64 0/\ ∃ y',HpR D nf nk y' (al3 h n)/\H'=hpH D y' (al3 h n)++F):=hyBlack_K h1 hn
theorem alMint_K {t:Nat} {T:List jk} (hD:HpDok D) (h1:HpR D nf nk y h) (hT:h.s.W.T=T) (hI: ∀ e∈T,1<=e.gen/\e.gen<=2147483648) (ht:t<D.C.g.slots) (hf:(JN T).isSome=true):Call Tryz.prog w0 200 [pt D.b, .int .i64 (t:Nat)] (hpH D y h++F)
  (fun r H'=>r= .int .u64 (jaU D.C.tn T:Nat)/\ ∃ y',HpR D nf nk y' (al4 h t)/\H'=hpH D y' (al4 h t)++F):=by
 subst hT;exact jjM hD h1 hI ht hf
theorem hpalloc_K {sl:Int} (hG:ju w0) (hD:HpDok D) (hI:HeI D.C h) (h1:HpR D nf 0 y h) (hf:nf<=900000):Call Tryz.prog w0 114 [pt D.b,opV op, .int .i64 sl] (hpH D y h++F) (fun r H'=>r=snV (hpAlloc D.C h op.a op.b).1/\HpQ D (nf+2) 400000000 (hpAlloc D.C h op.a op.b).2 F H'):=by
 have hC:=hD.C
 have hoc:=hD.oc
 have hgn:=hC.gn
 have hcl8:=cl_len hD
 have hcl9:D.c.cl.length<=4294967296:=by omega
 have htold:=fun A (e:Int)=>ja0 (w0:=w0) (H:=A) (e:=e)
 have hneed:=fun A=>Need_K (w0:=w0) (H:=A) (h:=⟨0,op.a,op.b⟩)
 unfold hdV jaj at hneed;dsimp only at hneed;unfold hpAlloc;unfold HpQ;unfold opV
 by_cases hm:Jb ⟨0,op.a,op.b⟩=false
 ·rw[if_pos hm];simp only[hm,Bool.false_eq_true,if_false] at hneed;refine en3 111 Tryz.func114 ?_;refine yr3 ?_;intro b3;refine yr1 ?_;intro b4;refine yr1 ?_;intro b6;refine yr10 ?_;intro b7;refine yr7 ?_;refine zp ?_;refine yr18 ?_;refine zl ?_;refine yr5 ?_;exact zW
 ·rw[if_neg hm]
  have hm':=jbi hm
  have hmay:=jb6 hm'
  dsimp only at hmay;simp only[hm',if_true] at hneed
  have hofp:=ofP_D hD (n:=op.a+op.b+1) bc
  have hof:=fun A v (hS:Sli w0 A iE v D.c.cl) (hvc:v.cells=[v].toArray)=>classOf_K (w0:=w0) (n:=op.a+op.b+1) hS hvc bc
  rw[hofp] at hof
  by_cases hk:classI D.C.g (op.a+op.b+1)=D.C.g.cl.length
  ·rw[if_pos hk];simp only[if_pos hk] at hof;refine en3 111 Tryz.func114 ?_;refine yr3 ?_;intro b3;refine yr1 ?_;intro b4;refine yr1 ?_;intro b6;refine yr10 ?_;intro b7;refine yr7 ?_;refine zp ?_;simp only[hpH_app];refine yr27 ?_;refine zbg ?_;refine yr18 ?_;refine zl ?_;refine yr5 ?_;exact zbe
  ·rw[if_neg hk];simp only[if_neg hk] at hof
   have hkm:=jdw hk
   have hyk:=hC.g.y _ hkm
   have hpg:=hC.g.pg
   have hget:=class_get hD hkm
   have hIR:=hI.mvs hC (jew (wr:=true) hC hI (k:=classI D.C.g (op.a+op.b+1)))
   have htk:=fun h2=>jg0 hC hIR hm' hk h2
   have hmv:=fun h2 h3=>mk_mv (wr:=true) hC hIR hm' hk h2 h3
   have hsz:D.C.g.y (classI D.C.g (op.a+op.b+1))<=1048576:=by omega
   have hrm:=fun A (b3 b10 b11:Nat)=>jjL (w0:=w0) (fv:= .func (.func 194) #[] #[pt b11,pt b3]) (G:=(b3,cells [pt D.b] 27)::(b10,cells [.int .i64 (D.C.g.y (classI D.C.g (op.a+op.b+1)):Nat)] 3)::(b11,cells [fitV b3 b10] 31)::A) (is:=fun s=>fitsB D.C.g (D.C.g.y (classI D.C.g (op.a+op.b+1))) s&&freeB s) hG hD hI h1 bc bc (fun nf nk y h h1=>CallV.clo (args:=[]) (cap:=[pt b11,pt b3]) (alboth_K hD h1 hsz))
   change ∀ (A:jb) (b3 b10 b11:Nat),Call _ _ _ _ _ (fun r H'=>r= .tuple #[]/\HpQ D (nf+1) (0+200000000) (allocR D.C h (classI D.C.g (op.a+op.b+1))) _ H') at hrm
   obtain⟨k,hkk⟩: ∃ k,classI D.C.g (op.a+op.b+1)=k:=⟨_,rfl⟩
   simp only[hkk] at hrm hIR htk hmv hof hyk hkm hget hsz|-
   obtain⟨R,hR⟩: ∃ R,allocR D.C h k=R:=⟨_,rfl⟩
   simp only[hR] at hrm hIR htk hmv|-;clear hofp hR
   obtain⟨sz,hsz'⟩: ∃ sz,D.C.g.y k=sz:=⟨_,rfl⟩
   simp only[hsz'] at hrm hyk hget hsz htk hmv|-
   have hft:=fun A (b3 b10:Nat) (y1:CyM) (h2:HpR D (nf+1) (0+200000000) y1 R)=>jj5 (w0:=w0) (G:=A) (b3:=b3) (b10:=b10) hD h2 hsz
   have hfr:=fun A (y1:CyM) (h2:HpR D (nf+1) (0+200000000) y1 R)=>jfa (w0:=w0) (F:=A) h2
   have hklt:k<D.c.cl.length:=jl hget
   unfold HpQ at hrm;unfold fitV at hrm
   cases hb1:fitsB D.C.g sz R.s with
   |false=>
    rw[if_pos rfl];simp only[hb1] at hft;refine en3 111 Tryz.func114 ?_;refine yr3 ?_;intro b3;refine yr1 ?_;intro b4;refine yr1 ?_;intro b6;refine yr10 ?_;intro b7;refine yr7 ?_;refine zp ?_;simp only[hpH_app];refine yr27 ?_;refine zbg ?_;refine yr18 ?_;refine zbF ?_;refine yr10 ?_;intro b10;refine yr9 ?_;intro b11;refine yr8 ?_;refine zbG ?_;rintro _ _ ⟨rfl,y1,h2,rfl⟩;refine yr8 ?_;refine zbH ?_;rintro _ _ ⟨rfl,rfl⟩;refine yr8 ?_;refine zl ?_;refine yr6 ?_;exact zco
   |true=>
    rw[if_neg bn];simp only[hb1] at hft
    cases hb2:freeB R.s with
    |false=>
     rw[if_pos rfl];simp only[hb2] at hfr;refine en3 111 Tryz.func114 ?_;refine yr3 ?_;intro b3;refine yr1 ?_;intro b4;refine yr1 ?_;intro b6;refine yr10 ?_;intro b7;refine yr7 ?_;refine zp ?_;simp only[hpH_app];refine yr27 ?_;refine zbg ?_;refine yr18 ?_;refine zbF ?_;refine yr10 ?_;intro b10;refine yr9 ?_;intro b11;refine yr8 ?_;refine zbG ?_;rintro _ _ ⟨rfl,y1,h2,rfl⟩;refine yr8 ?_;refine zbH ?_;rintro _ _ ⟨rfl,rfl⟩;refine yr9 ?_;refine ji (hfr _ y1 h2) ja ?_;refine yr8 ?_;refine zl ?_;refine yr6 ?_;exact zco
    |true=>
     rw[if_neg bn];simp only[hb2] at hfr
     obtain⟨j,z,ht,_,hz,_,_,hmk2,hlk⟩:=htk hb1
     have hjl:j<D.C.g.slots:=by rw[<-jak];exact jl hz
     have hge: ∀ e∈R.s.W.T,1<=e.gen/\e.gen<=2147483648:=fun e he=>⟨(hIR.e e he).1,Int.le_trans (hIR.e e he).2 hgn.2⟩
     have hI4:=hIR.mv hC (hmv hb1 hb2)
     have hR4:({R with s:=mkC D.C.g R.s (k:Nat) ⟨(k:Nat),op.a,op.b⟩}:HpP)=al4 (al3 (al2 (al1 R (R.s.A.set j true)) (makeP R.s.W.x z ⟨(k:Nat),op.a,op.b⟩).2) j) j:=by
      unfold mkC;rw[ht];dsimp only;rw[jY hz,Int.toNat_natCast]
      rfl
     rw[hR4] at hI4|-;rw[ht];dsimp only;rw[jY hz]
     have hAr:=fun A (y1:CyM) (h2:HpR D (nf+1) (0+200000000) y1 R)=>jgj (w0:=w0) (F:=A) h2
     have hTk:=fun A (y1:CyM) (h2:HpR D (nf+1) (0+200000000) y1 R)=>alTake_K (w0:=w0) (F:=A) hG h2 ht
     obtain⟨R1,hR1⟩: ∃ R1,al1 R (R.s.A.set j true)=R1:=⟨_,rfl⟩
     have hT1:R1.s.W=R.s.W:=by rw[<-hR1];rfl
     rw[hR1] at hI4 hR4|-;simp only[hR1] at hTk
     have hBd:=fun A (y1:CyM) (h2:HpR D (nf+1) (0+200000000) y1 R1)=>jdB (w0:=w0) (F:=A) h2
     have hMk:=fun A (y1:CyM) (h2:HpR D (nf+1) (0+200000000) y1 R1)=>alMake_K (w0:=w0) (F:=A) (hd:=⟨(k:Nat),op.a,op.b⟩) hG h2 hz
     rw[hT1] at hMk
     obtain⟨R2,hR2⟩: ∃ R2,al2 R1 (makeP R.s.W.x z ⟨(k:Nat),op.a,op.b⟩).2=R2:=⟨_,rfl⟩
     have hT2:R2.s.W.T=R.s.W.T:=by rw[<-hR2];show R1.s.W.T=_;rw [hT1]
     rw[hR2] at hI4 hR4|-;simp only[hR2] at hMk
     have hBl:=fun A (y1:CyM) (h2:HpR D (nf+1) (0+200000000) y1 R2)=>alBlack_K (w0:=w0) (F:=A) h2 hjl
     obtain⟨R3,hR3⟩: ∃ R3,al3 R2 j=R3:=⟨_,rfl⟩
     have hT3:R3.s.W.T=R.s.W.T:=by rw[<-hR3];exact hT2
     rw[hR3] at hI4 hR4|-;simp only[hR3] at hBl
     have hMi:=fun A (y1:CyM) (h2:HpR D (nf+1) (0+200000000) y1 R3)=>alMint_K (w0:=w0) (F:=A) (T:=R.s.W.T) hD h2 hT3 hge hjl (jcw hb2)
     obtain⟨R4,hR4'⟩: ∃ R4,al4 R3 j=R4:=⟨_,rfl⟩
     rw[hR4'] at hI4|-;simp only[hR4'] at hMi
     have hPc:=fun A (y1:CyM) (h2:HpR D (nf+1) (0+200000000) y1 R4)=>hppaced_K (w0:=w0) (F:=A) (n:=sz) hG hD hI4 h2 ⟨by omega,by omega⟩ bc bc
     have hPl:=fun A (y1:CyM) (h2:HpR D (nf+1+1) (0+200000000+200000000) y1 (jdd D.C sz R4))=>jc6 (w0:=w0) (F:=A) h2
     have hAd:=fun A (y1:CyM) (h2:HpR D (nf+1+1) (0+200000000+200000000) y1 (jdd D.C sz R4))=>jc7 (w0:=w0) (F:=A) h2 hz
     unfold HpQ at hPc;clear hR1 hR2 hR3 hR4 hR4' hI4 hIR hI hmv htk;refine en3 111 Tryz.func114 ?_;refine yr3 ?_;intro b3;refine yr1 ?_;intro b4;refine yr1 ?_;intro b6;refine yr10 ?_;intro b7;refine yr7 ?_;refine zp ?_;simp only[hpH_app];refine yr27 ?_;refine zbg ?_;refine yr18 ?_;refine zbF ?_;refine yr10 ?_;intro b10;refine yr9 ?_;intro b11;refine yr8 ?_;refine zbG ?_;rintro _ _ ⟨rfl,y1,h2,rfl⟩;refine yr8 ?_;refine zbH ?_;rintro _ _ ⟨rfl,rfl⟩;refine yr9 ?_;refine ji (hfr _ y1 h2) ja ?_;simp only[hpH_app];refine yr8 ?_;refine zi ?_
     (repeat refine K.seq ?_)
     refine K.dr _ [(0,0),(1,0),(2,0),(3,0),(5,1),(6,1),(4,2),(7,4),(8,0),(9,0),(10,0),(11,0),(12,0)] Part.all ?_;refine yr7 ?_;refine je (hAr _ y1 h2) bd ?_;rintro _ _ ⟨rfl,rfl⟩;simp only[hpH_app];refine yr2 ?_;refine je (hTk _ y1 h2) bd ?_;rintro _ _ ⟨rfl,y2,h3,rfl⟩;refine yr6 ?_;simp only[hpH_app];refine yr1 ?_;refine zi ?_
     (repeat refine K.seq ?_)
     refine K.dr _ [(0,0),(1,0),(2,0),(3,0),(5,1),(6,1),(4,2),(7,4)] Part.all ?_;refine yr7 ?_;refine je (hBd _ y2 h3) bd ?_;rintro _ _ ⟨rfl,rfl⟩;simp only[hpH_app];refine yr2 ?_;refine je (hMk _ y2 h3) bd ?_;rintro _ _ ⟨rfl,y3,h4,rfl⟩;refine yr1 ?_;simp only[hpH_app];refine yr9 ?_;refine je (hBl _ y3 h4) bd ?_;rintro _ _ ⟨rfl,y4,h5,rfl⟩;refine yr7 ?_;refine je (hMi _ y4 h5) ja ?_;rintro _ _ ⟨rfl,y5,h6,rfl⟩;refine yr8 ?_;refine je (hPc _ y5 h6) ja ?_;rintro _ _ ⟨rfl,y6,h7,rfl⟩;simp only[hpH_app];refine yr9 ?_;refine ji (hPl _ y6 h7) bd ?_;refine yr2 ?_;refine ji (hAd _ y6 h7) bd ?_;refine yr16 ?_;exact KE.fin jd rfl jc bd ⟨rfl,y6,h7,rfl⟩
