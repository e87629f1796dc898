/-Cycle:CyclePlays:whatever is done. -/
import Derived.Test.YtldomapkmopomaaGreatDoorD1
import Derived.Test.YtldomapkmopomaaGreatDoorJ42
namespace Go.Proofs.YtldomapkmopomaaGreatDoor.Sw
set_option maxHeartbeats 8000000 open Go.Proofs.YtldomapkmopomaaGreatDoor renaming lo → qL, hi → qH
open Go.RowKit
set_option linter.unusedVariables false
set_option linter.unusedSimpArgs false
set_option maxRecDepth 10000
set_option maxHeartbeats 16000000 in
theorem jhB {w0:World} {F:jb} {c:Cfg} {vc vt vL vS vK uL uS uK:Value} {x z:jaj} (hG:jw w0) (hR:j1 w0 F c vc vt) (hC:Sli w0 [] iE vc c.cl) (hvc:vc.oneCell'=true) (hx:J8 w0 x vL vS vK) (hz:J8 w0 z uL uS uK):
  Call Tryz.prog w0 9 [jt c vc vt, .agg [vL,vS,vK].toArray, .agg [uL,uS,uK].toArray] F (fun r H'=>r= .bool true∧H'=F):=by
 obtain⟨okk,hokk⟩: ∃ okk,okY c=okk:=⟨_,rfl⟩
 have hawake:=fun A=>jcn (w0:=w0) (F:=A) hG
 have hgx:=fun A=>jbD (F:=A) hx
 have hgz:=fun A=>jbD (F:=A) hz
 have ox1:=hx.o1
 have ox2:=hx.o2
 have ox3:=hx.o3
 have oz1:=hz.o1
 have oz2:=hz.o2
 have oz3:=hz.o3
 cases okk with
 |false=>
  have hno:=fun A (hp:Part A F)=>jcm (hR.part hp) hokk
  obtain⟨cl,page,tn,workers,grey,gens⟩:=c
  simp only[jt,jJ] at hno⊢;unfold wc0 cy0 at hno;refine Call.enter3 (n:=141) (by kernel_rfl) Tryz.func9 rfl rfl rfl ?_;refine yr2 ?_;refine zbU ?_;intro b3 b4 b5;refine yq6 fun T hT=>?_;refine zbR ?_;rintro _ _ ⟨rfl,rfl⟩;refine za ?_;clear hT T;refine yr3 ?_;refine zf ?_;intro b7;refine yq22 fun T hT=>?_;refine zE ?_;rintro _ _ ⟨rfl,rfl⟩;refine za ?_;clear hT T;refine yr5 ?_;exact zd
 |true=>
  obtain⟨R0,g,long,nw,caps,-,hnw8,hlong,hmade⟩:=jcj hG hR hokk hC hvc
  obtain⟨cl,page,tn,workers,grey,gens⟩:=c
  simp only[jt,jJ] at hmade⊢
  obtain⟨z0,hz0⟩: ∃ z0,newC g caps nw=z0:=⟨_,rfl⟩
  have p0:z0.ph=0:=by rw[←hz0];rfl
  rw[hz0] at hmade;clear hokk hR hz0
  obtain⟨gx,hgx1⟩: ∃ gx,greatX x=gx:=⟨_,rfl⟩
  obtain⟨gz,hgz1⟩: ∃ gz,greatX z=gz:=⟨_,rfl⟩
  simp only[hgx1,hgz1] at hgx hgz;refine Call.enter3 (n:=141) (by kernel_rfl) Tryz.func9 rfl rfl rfl ?_;refine yr2 ?_;refine zbU ?_;intro b3 b4 b5;refine yq6 fun T hT=>?_;refine zbS ?_;rintro _ _ ⟨X,hX,hXn,rfl,rfl⟩
  obtain⟨q1,q2,q3,q4,q5,q6,q7,q8,q9,r1,r2,r3,r4,r5⟩:=hX.d.c
  unfold wcL;refine za ?_;clear hT T
  cases gx with
  |true=>
   refine yr3 ?_;refine zf ?_;intro b7;refine yq13 fun T hT=>?_;refine zat ?_;rintro _ _ ⟨rfl,rfl⟩;refine za ?_;clear hT T;refine yq10 fun T hT=>?_;refine zE ?_;rintro _ _ ⟨rfl,rfl⟩;refine za ?_;clear hT T;refine yr5 ?_;exact zd
  |false=>
   cases gz with
   |true=>
    refine yr3 ?_;refine zf ?_;intro b7;refine yq13 fun T hT=>?_;refine zat ?_;rintro _ _ ⟨rfl,rfl⟩;refine za ?_;clear hT T;refine yq5 fun T hT=>?_;refine(CallV.fn (hgz _)).mono ?_;rintro _ _ ⟨rfl,rfl⟩;refine za ?_;clear hT T;refine yq6 fun T hT=>?_;refine zE ?_;rintro _ _ ⟨rfl,rfl⟩;refine za ?_;clear hT T;refine yr5 ?_;exact zd
   |false=>
    obtain⟨lx1,lx2⟩:=jaR hgx1
    obtain⟨lz1,lz2⟩:=jaR hgz1
    refine yr3 ?_;refine zf ?_;intro b7;refine yq13 fun T hT=>?_;refine zat ?_;rintro _ _ ⟨rfl,rfl⟩;refine za ?_;clear hT T;refine yq5 fun T hT=>?_;refine(CallV.fn (hgz _)).mono ?_;rintro _ _ ⟨rfl,rfl⟩;refine za ?_;clear hT T;refine yq10 fun T hT=>?_
    have okg:=hX.okg
    have hmx:=fun A=>ja8 (F:=A) hG hX hXn hx hgx1
    unfold wcL at hmx;refine zcm ?_;rintro _ _ ⟨X1,hX1,n1,-,-,rfl,rfl⟩
    have p1:(mixC g long nw x z0).ph=0:=jcU p0
    obtain⟨z1,hz1⟩: ∃ z1,mixC g long nw x z0=z1:=⟨_,rfl⟩
    rw[hz1] at hX1 p1;clear hX hmx q1 q2 q3 q4 q5 q6 q7 q8 q9 r1 r2 r3 r4 r5
    obtain⟨q1,q2,q3,q4,q5,q6,q7,q8,q9,r1,r2,r3,r4,r5⟩:=hX1.d.c
    have hsm:=fun A=>jeF (F:=A) hG hX1
    have hbq:=fun A=>wdBegin_K (F:=A) hX1 p1
    have hby:=fun A=>jdl (w0:=w0) (F:=A) hX1.p p1 (Nat.le_trans hX1.f (by decide))
    rw[hz1];clear hz1
    obtain⟨z2,hz2⟩: ∃ z2,beginC g z1=z2:=⟨_,rfl⟩
    have p2:1≤z2.ph:=by rw[←hz2];exact Nat.le_refl 1
    have l2:z2.W.T.length=z1.W.T.length:=by rw[←hz2];rfl
    simp only[hz2] at hbq hby;clear hz2;unfold wcL at hsm;unfold wcH at hsm⊢;unfold cyL at hbq;simp only[List.append_assoc] at hsm⊢;refine za ?_;clear hT T;refine yq16 fun T hT=>?_;refine(CallV.part (CallV.fn (hsm _)) ja).mono ?_;refine zc ?_;clear hT T;refine yq12 fun T hT=>?_;refine(CallV.part (CallV.fn (hbq _)) ja).mono ?_;rintro _ _ ⟨d2,N2,hD2,rfl,rfl⟩
    have oo2:=hD2.c
    obtain⟨u1,u2,u3,u4,u5,u6,u7,u8,u9,t1,t2,t3,t4,t5⟩:=oo2
    unfold cyL;refine za ?_;clear hT T;refine yr3 ?_;refine zf ?_;intro b9;refine yq9 fun T hT=>?_;refine(CallV.part (CallV.fn (hby _)) ja).mono ?_;rintro _ _ ⟨rfl,y2,hp2,ht2,rfl⟩
    obtain⟨hX2,n2⟩:=hX1.both hp2 ht2 hD2 l2 n1
    have e1:=ht2.b
    have e2:=ht2.mb
    have hmz:=fun A=>ja8 (F:=A) hG hX2 n2 hz hgz1
    have p3:1≤(mixC g long nw z z2).ph:=mix_ph1 p2
    obtain⟨z3,hz3⟩: ∃ z3,mixC g long nw z z2=z3:=⟨_,rfl⟩
    simp only[hz3] at hmz p3;clear hz3;unfold wcL at hmz;dsimp only at hmz;rw[e1,e2] at hmz;unfold wcH at hmz;simp only[List.append_assoc] at hmz;refine za ?_;clear hT T;refine yq18 fun T hT=>?_;refine(CallV.part (CallV.fn (hmz _)) ja).mono ?_;rintro _ _ ⟨X3,hX3,n3,e3,e4,rfl,rfl⟩;clear hmz hsm hbq hby hX2 hp2 ht2 hD2 q1 q2 q3 q4 q5 q6 q7 q8 q9 r1 r2 r3 r4 r5 u1 u2 u3 u4 u5 u6 u7 u8 u9 t1 t2 t3 t4 t5 e1 e2 e3 e4
    obtain⟨q1,q2,q3,q4,q5,q6,q7,q8,q9,r1,r2,r3,r4,r5⟩:=hX3.d.c
    have hsm:=fun A=>jeF (F:=A) hG hX3
    have hfq:=fun A=>wdFinish_K (F:=A) hX3 (by omega)
    have hfy:=fun A=>wyFinish_K (w0:=w0) (F:=A) hG hX3.p (by omega)
    obtain⟨z4,hz4⟩: ∃ z4,(finC g long z3).2=z4:=⟨_,rfl⟩
    obtain⟨k4,hk4⟩: ∃ k4,(finC g long z3).1=k4:=⟨_,rfl⟩
    have p4:z4.ph=3:=by rw[←hz4];exact jbY okg hX3.p.i (by omega)
    have l4:z4.W.T.length=z3.W.T.length:=by rw[←hz4];exact fin_T okg hX3.p.i
    simp only[hz4,hk4] at hfq hfy;clear hz4 hk4;unfold wcL at hsm;unfold wcH at hsm;unfold cyL at hfq;simp only[List.append_assoc] at hsm;refine za ?_;clear hT T;refine yq16 fun T hT=>?_;refine(CallV.part (CallV.fn (hsm _)) ja).mono ?_;refine zc ?_;clear hT T;refine yq12 fun T hT=>?_;refine(CallV.part (CallV.fn (hfq _)) ja).mono ?_;rintro _ _ ⟨d4,N4,hD4,rfl,rfl⟩
    obtain⟨u1,u2,u3,u4,u5,u6,u7,u8,u9,t1,t2,t3,t4,t5⟩:=hD4.c
    unfold cyL;refine za ?_;clear hT T;refine yq13 fun T hT=>?_;refine(CallV.part (CallV.fn (hfy _)) ja).mono ?_;rintro _ _ ⟨rfl,y4,hp4,ht4,rfl⟩
    obtain⟨hX4,n4⟩:=hX3.both hp4 ht4 hD4 l4 n3
    have e1:=ht4.b
    have e2:=ht4.mb
    have hsm4:=fun A=>jeF (F:=A) hG hX4
    have hpq:=fun A=>jhG (F:=A) hX4 p4
    have hpy:=fun A=>jgm (F:=A) hG hX4.p p4
    rw[hX4.gens] at hpy
    obtain⟨z5,hz5⟩: ∃ z5,publishC g gens z4=z5:=⟨_,rfl⟩
    have l5:z5.W.T.length=z4.W.T.length:=by rw[←hz5];exact publish_T
    simp only[hz5] at hpq hpy;clear hz5;unfold wcL at hsm4;unfold wcH at hsm4;unfold cyL at hpq;dsimp only at hsm4 hpq hpy;rw[e1,e2] at hsm4;rw[e1] at hpy;simp only[List.append_assoc] at hsm4 hpq hpy;refine za ?_;clear hT T;refine yq32 fun T hT=>?_;refine(CallV.part (CallV.fn (hsm4 _)) ja).mono ?_;refine zc ?_;clear hT T;refine yq12 fun T hT=>?_;refine(CallV.part (CallV.fn (hpq _)) ja).mono ?_;rintro _ _ ⟨d5,N5,hD5,rfl,rfl⟩;dsimp only at hD5
    obtain⟨u1,u2,u3,u4,u5,u6,u7,u8,u9,t1,t2,t3,t4,t5⟩:=hD5.c
    unfold cyL;dsimp only;simp only[List.append_assoc];refine za ?_;clear hT T;refine yq15 fun T hT=>?_;refine(CallV.part (CallV.fn (hpy _)) ja).mono ?_;rintro _ _ ⟨rfl,y5,hp5,ht5,rfl⟩
    obtain⟨hX5,n5⟩:=hX4.both hp5 ht5 hD5 l5 n4
    have hsm5:=fun A=>jeF (F:=A) hG hX5
    have e3:=ht5.b
    have e4:=ht5.mb
    unfold wcL at hsm5;unfold wcH at hsm5;dsimp only at hsm5 e3 e4;rw[e3,e4,e1,e2] at hsm5;simp only[List.append_assoc] at hsm5;refine za ?_;clear hT T;refine yq41 fun T hT=>?_;refine(CallV.part (CallV.fn (hsm5 _)) ja).mono ?_;refine zc ?_;clear hT T;refine yq3 fun T hT=>?_;refine zE ?_;rintro _ _ ⟨rfl,rfl⟩;refine za ?_;clear hT T;refine yr5 ?_;exact zd
end Go.Proofs.YtldomapkmopomaaGreatDoor.Sw
