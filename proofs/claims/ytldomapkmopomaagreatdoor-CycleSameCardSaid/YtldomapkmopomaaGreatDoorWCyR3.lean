/-Cycle:CycleSame:whoever steps. -/
import Derived.Test.YtldomapkmopomaaGreatDoorD1
import Derived.Test.YtldomapkmopomaaGreatDoorJ62
import Derived.Test.YtldomapkmopomaaGreatDoorJ65
namespace Go.Proofs.YtldomapkmopomaaGreatDoor.Sw
set_option maxHeartbeats 8000000 open Go.Proofs.YtldomapkmopomaaGreatDoor renaming lo → qL, hi → qH
open Go.RowKit
set_option linter.unusedVariables false
set_option linter.unusedSimpArgs false
set_option maxRecDepth 10000
structure SmA where
 i:Nat
set_option maxHeartbeats 16000000 in
theorem jhS {w0:World} {F:jb} {c:Cfg} {vc vt vL vS vK uL uS uK:Value} {x z:jaj} (hG:jw w0) (hR:j1 w0 F c vc vt) (hC:Sli w0 [] iE vc c.cl) (hvc:vc.oneCell'=true) (hx:J8 w0 x vL vS vK) (hz:J8 w0 z uL uS uK):
  Call Tryz.prog w0 4 [jt c vc vt, .agg [vL,vS,vK].toArray, .agg [uL,uS,uK].toArray] F (fun r H'=>r= .bool true∧H'=F):=by
 obtain⟨okk,hokk⟩: ∃ okk,okY c=okk:=⟨_,rfl⟩
 have hawake:=fun A=>jcn (w0:=w0) (F:=A) hG
 have hgx:=fun A=>jbD (F:=A) hx
 have ox1:=hx.o1
 have ox2:=hx.o2
 have ox3:=hx.o3
 have hgz:=fun A=>jbD (F:=A) hz
 have oz1:=hz.o1
 have oz2:=hz.o2
 have oz3:=hz.o3
 cases okk with
 |false=>
  have hno:=fun A (hp:Part A F)=>jcm (hR.part hp) hokk
  obtain⟨cl,page,tn,workers,grey,gens⟩:=c
  simp only[jt,jJ] at hno⊢;unfold wc0 cy0 at hno;refine Call.enter3 (n:=237) (by kernel_rfl) Tryz.func4 rfl rfl rfl ?_;refine yr2 ?_;refine zbU ?_;intro b3 b4 b5;refine yq6 fun T hT=>?_;refine zbR ?_;rintro _ _ ⟨rfl,rfl⟩;refine za ?_;clear hT T;refine yr3 ?_;refine zf ?_;intro b7;refine yq7 fun T hT=>?_;refine zbR ?_;rintro _ _ ⟨rfl,rfl⟩;refine za ?_;clear hT T;refine yr3 ?_;refine zf ?_;intro b9;refine yq27 fun T hT=>?_;refine zE ?_;rintro _ _ ⟨rfl,rfl⟩;refine za ?_;clear hT T;refine yr5 ?_;exact zd
 |true=>
  obtain⟨R0,g,long,nw,caps,-,hnw8,hlong,hmade⟩:=jcj hG hR hokk hC hvc
  obtain⟨cl,page,tn,workers,grey,gens⟩:=c
  simp only[jt,jJ] at hmade⊢
  obtain⟨z0,hz0⟩: ∃ z0,newC g caps nw=z0:=⟨_,rfl⟩
  have p0:z0.ph=0:=by rw[←hz0];rfl
  have hT0:je g→CyT g z0:=fun ok=>by rw[←hz0];exact jdI ok
  rw[hz0] at hmade;clear hokk hR hz0
  obtain⟨gx,hgx1⟩: ∃ gx,greatX x=gx:=⟨_,rfl⟩
  obtain⟨gz,hgz1⟩: ∃ gz,greatX z=gz:=⟨_,rfl⟩
  simp only[hgx1,hgz1] at hgx hgz;refine Call.enter3 (n:=237) (by kernel_rfl) Tryz.func4 rfl rfl rfl ?_;refine yr2 ?_;refine zbU ?_;intro b3 b4 b5;refine yq6 fun T hT=>?_;refine zbS ?_;rintro _ _ ⟨X,hX,hXn,rfl,rfl⟩
  obtain⟨q1,q2,q3,q4,q5,q6,q7,q8,q9,r1,r2,r3,r4,r5⟩:=hX.d.c
  unfold wcL;refine za ?_;clear hT T;refine yr3 ?_;refine zf ?_;intro b7;refine yq7 fun T hT=>?_;refine zbS ?_;rintro _ _ ⟨Y,hY,hYn,rfl,rfl⟩
  obtain⟨s1,s2,s3,s4,s5,s6,s7,s8,s9,t1,t2,t3,t4,t5⟩:=hY.d.c
  unfold wcL;refine za ?_;clear hT T
  cases gx with
  |true=>
   refine yr3 ?_;refine zf ?_;intro b9;refine yq13 fun T hT=>?_;refine zat ?_;rintro _ _ ⟨rfl,rfl⟩;refine za ?_;clear hT T;refine yq15 fun T hT=>?_;refine zE ?_;rintro _ _ ⟨rfl,rfl⟩;refine za ?_;clear hT T;refine yr5 ?_;exact zd
  |false=>
   cases gz with
   |true=>
    refine yr3 ?_;refine zf ?_;intro b9;refine yq13 fun T hT=>?_;refine zat ?_;rintro _ _ ⟨rfl,rfl⟩;refine za ?_;clear hT T;refine yq5 fun T hT=>?_;refine(CallV.fn (hgz _)).mono ?_;rintro _ _ ⟨rfl,rfl⟩;refine za ?_;clear hT T;refine yq11 fun T hT=>?_;refine zE ?_;rintro _ _ ⟨rfl,rfl⟩;refine za ?_;clear hT T;refine yr5 ?_;exact zd
   |false=>
    have hL:Sli w0 F jaM vL x.L:=Sli.old hx.L
    obtain⟨lx1,lx2⟩:=jaR hgx1
    obtain⟨lz1,lz2⟩:=jaR hgz1
    refine yr3 ?_;refine zf ?_;intro b9;refine yq13 fun T hT=>?_;refine zat ?_;rintro _ _ ⟨rfl,rfl⟩;refine za ?_;clear hT T;refine yq5 fun T hT=>?_;refine(CallV.fn (hgz _)).mono ?_;rintro _ _ ⟨rfl,rfl⟩;refine za ?_;clear hT T;refine KL.v rfl (Val.pickF rfl rfl rfl) ?_;refine KL.v rfl (Val.move rfl) ?_;refine KL.yes rfl rfl ?_;refine KL.v rfl (Val.fieldAddr0 (k:=1) rfl rfl) ?_;refine KL.yes rfl rfl ?_;refine KL.v rfl (Val.loadP rfl rfl (jA.cell jq rfl)) ?_;refine KL.yes rfl rfl ?_;refine KL.v rfl (Val.eqlPN rfl rfl rfl) ?_;refine KL.v rfl (Val.pickF rfl rfl rfl) ?_;refine KL.nil (KE.next (K.condF rfl (K.skip (KE.next (K.seq (K.region ?_))))));refine KL.v rfl (Val.fieldAddr0 (k:=0) rfl rfl) ?_;refine KL.v rfl (Val.loadP rfl rfl (jA.cell jq rfl)) ?_;refine KL.v rfl (Val.lenSl rfl rfl Jm) ?_;refine KL.v rfl (Val.quoN rfl rfl (by simp only[Go.Proofs.YtldomapkmopomaaGreatDoor.lo,Go.Proofs.YtldomapkmopomaaGreatDoor.hi];omega)) ?_;refine KL.v rfl (Val.assign rfl) ?_;refine KL.nil (KE.next ?_)
    obtain⟨half,hhalf⟩: ∃ half,x.L.length/2=half:=⟨_,rfl⟩
    have hdiv:((x.L.length:Nat):Int)/2=((half:Nat):Int):=by omega
    rw[hdiv]
    have hle:half≤x.L.length:=by omega
    have okg:=hX.okg
    have mx1:J8 w0 ⟨(x.L.take half).drop 0,[],[]⟩ (j5 vL 0 half jaM.sz) (.slice none 0 0) (.slice none 0 0):=(hx.part hx (Nat.zero_le half) hle).one
    have hmo1:=mx1.o1
    have gg1:greatX ⟨(x.L.take half).drop 0,[],[]⟩=false:=great_one hgx1 (by rw[List.length_drop,List.length_take];omega)
    have hmx:=fun A=>ja8 (F:=A) hG hX hXn mx1 gg1
    have hmy:=fun A=>ja8 (F:=A) hG hY hYn mx1 gg1
    have p1:(mixC g long nw ⟨(x.L.take half).drop 0,[],[]⟩ z0).ph=0:=jcU p0
    have T1:CyT g (mixC g long nw ⟨(x.L.take half).drop 0,[],[]⟩ z0):=mix_T okg hX.p.i p0 (hT0 okg)
    obtain⟨z1,hz1⟩: ∃ z1,mixC g long nw ⟨(x.L.take half).drop 0,[],[]⟩ z0=z1:=⟨_,rfl⟩
    simp only[hz1] at hmx hmy p1 T1;clear hz1;unfold wcL at hmx hmy;refine yr7 ?_;refine zf ?_;intro b12;refine yq7 fun T hT=>?_;refine zcm ?_;rintro _ _ ⟨X1,hX1,n1,-,-,rfl,rfl⟩;clear hmx q1 q2 q3 q4 q5 q6 q7 q8 q9 r1 r2 r3 r4 r5
    obtain⟨q1,q2,q3,q4,q5,q6,q7,q8,q9,r1,r2,r3,r4,r5⟩:=hX1.d.c
    refine za ?_;clear hT T;refine yq10 fun T hT=>?_;refine(CallV.part (CallV.fn (hmy _)) ja).mono ?_;rintro _ _ ⟨Y1,hY1,k1,-,-,rfl,rfl⟩;clear hmy s1 s2 s3 s4 s5 s6 s7 s8 s9 t1 t2 t3 t4 t5 hX hY
    obtain⟨s1,s2,s3,s4,s5,s6,s7,s8,s9,t1,t2,t3,t4,t5⟩:=hY1.d.c
    unfold wcH;simp only[List.append_assoc]
    have hbx:=fun A=>jdl (w0:=w0) (F:=A) hX1.p p1 (Nat.le_trans hX1.f (by decide))
    have hby:=fun A=>jdl (w0:=w0) (F:=A) hY1.p p1 (Nat.le_trans hY1.f (by decide))
    have hqx:=fun A=>jd6 (F:=A) hX1.d okg hX1.p.i p1
    have hqy:=fun A=>jd6 (F:=A) hY1.d okg hX1.p.i p1
    have mx2:J8 w0 ⟨(x.L.take x.L.length).drop half,x.S,x.K⟩ (j5 vL half x.L.length jaM.sz) vS vK:=hx.part hx hle (Nat.le_refl _)
    have mz2:J8 w0 ⟨(x.L.take x.L.length).drop half,z.S,z.K⟩ (j5 vL half x.L.length jaM.sz) uS uK:=hx.part hz hle (Nat.le_refl _)
    have hmo2:=mx2.o1
    have gx2:greatX ⟨(x.L.take x.L.length).drop half,x.S,x.K⟩=false:=jgF hgx1 hgx1 (by rw[List.length_drop,List.length_take];omega)
    have gz2:greatX ⟨(x.L.take x.L.length).drop half,z.S,z.K⟩=false:=jgF hgx1 hgz1 (by rw[List.length_drop,List.length_take];omega)
    have hE:=(EqI.refl (jcP okg hlong hX1.p.i p1) (show 1≤(beginC g z1).ph from Nat.le_refl 1) (CyI.begin hX1.p.i p1 T1)).mix (nw:=nw) (m:=⟨(x.L.take x.L.length).drop half,x.S,x.K⟩) (m':=⟨(x.L.take x.L.length).drop half,z.S,z.K⟩) okg rfl
    have hE4:=hE.fin okg
    obtain⟨z2,hz2⟩: ∃ z2,beginC g z1=z2:=⟨_,rfl⟩
    have l2:z2.W.T.length=z1.W.T.length:=by rw[←hz2];rfl
    simp only[hz2] at hbx hby hqx hqy hE hE4;clear hz2;unfold cyL at hqx hqy;refine za ?_;clear hT T;refine yq11 fun T hT=>?_;refine(CallV.part (CallV.fn (hbx _)) ja).mono ?_;rintro _ _ ⟨rfl,y2,hp2,ht2,rfl⟩;refine za ?_;clear hT T;refine yq7 fun T hT=>?_;refine(CallV.part (CallV.fn (hby _)) ja).mono ?_;rintro _ _ ⟨rfl,yy2,hpp2,htt2,rfl⟩;refine za ?_;clear hT T;refine yq12 fun T hT=>?_;refine(CallV.part (CallV.fn (hqx _)) ja).mono ?_;rintro _ _ ⟨d2,N2,hD2,rfl,rfl⟩
    obtain⟨hX2,n2⟩:=hX1.both hp2 ht2 hD2 l2 n1
    have e1:=ht2.b
    have e2:=ht2.mb
    obtain⟨u1,u2,u3,u4,u5,u6,u7,u8,u9,w1,w2,w3,w4,w5⟩:=hD2.c
    unfold cyL;refine za ?_;clear hT T;refine yq11 fun T hT=>?_;refine(CallV.part (CallV.fn (hqy _)) ja).mono ?_;rintro _ _ ⟨dd2,NN2,hDD2,rfl,rfl⟩
    obtain⟨hY2,k2⟩:=hY1.both hpp2 htt2 hDD2 l2 k1
    have f1:=htt2.b
    have f2:=htt2.mb
    obtain⟨v1,v2,v3,v4,v5,v6,v7,v8,v9,x1,x2,x3,x4,x5⟩:=hDD2.c
    have hmx:=fun A=>ja8 (F:=A) hG hX2 n2 mx2 gx2
    have hmy:=fun A=>ja8 (F:=A) hG hY2 k2 mz2 gz2
    obtain⟨z3,hz3⟩: ∃ z3,mixC g long nw ⟨(x.L.take x.L.length).drop half,x.S,x.K⟩ z2=z3:=⟨_,rfl⟩
    obtain⟨zz3,hzz3⟩: ∃ zz3,mixC g long nw ⟨(x.L.take x.L.length).drop half,z.S,z.K⟩ z2=zz3:=⟨_,rfl⟩
    simp only[hz3,hzz3] at hmx hmy hE hE4;clear hz3 hzz3;unfold wcL at hmx hmy;dsimp only at hmx hmy;rw[e1,e2] at hmx;rw[f1,f2] at hmy;unfold wcH at hmx hmy;simp only[List.append_assoc] at hmx hmy;unfold cyL
    have hL:Sli w0 F jaM vL x.L:=Sli.old hx.L
    refine za ?_;clear hT T;refine yr7 ?_;refine zw ?_;refine zfZ ?_;refine zcO ?_;refine za2 ?_;refine zaG ?_;refine zed ?_;refine zbv ?_;refine zdg ?_;refine zaL ?_;refine zay ?_;refine zi fun T hT=>?_;refine zcm ?_;rintro _ _ ⟨X3,hX3,n3,-,-,rfl,rfl⟩
    obtain⟨q1,q2,q3,q4,q5,q6,q7,q8,q9,r1,r2,r3,r4,r5⟩:=hX3.d.c
    refine zh ?_;clear hT T;refine zam ?_;refine zbT ?_;refine yr1 ?_;refine zw ?_;refine zfZ ?_;refine zcO ?_;refine za2 ?_;refine zaG ?_;refine zed ?_;refine zbv ?_;refine zdg ?_;refine zaL ?_;refine zay ?_;refine zi fun T hT=>?_;refine(CallV.part (CallV.fn (hmy _)) ja).mono ?_;rintro _ _ ⟨Y3,hY3,k3,-,-,rfl,rfl⟩
    obtain⟨s1,s2,s3,s4,s5,s6,s7,s8,s9,t1,t2,t3,t4,t5⟩:=hY3.d.c
    obtain⟨pb,hpb⟩: ∃ pb,X3.y.b=pb:=⟨_,rfl⟩
    obtain⟨pm,hpm⟩: ∃ pm,X3.y.B.m.b=pm:=⟨_,rfl⟩
    obtain⟨qb,hqb⟩: ∃ qb,Y3.y.b=qb:=⟨_,rfl⟩
    obtain⟨qm,hqm⟩: ∃ qm,Y3.y.B.m.b=qm:=⟨_,rfl⟩
    have hA3:CwR R0 g long nw gens 2 pb pm X3.y.B.b X3.y.T.b X3.y.a.b X3.y z3:=⟨hX3.p,hpb,hpm,rfl,rfl,rfl,n3,hX3.gens,hX3.f,hX3.t,hX3.mem⟩
    have hB3:CwR R0 g long nw gens 2 qb qm Y3.y.B.b Y3.y.T.b Y3.y.a.b Y3.y zz3:=⟨hY3.p,hqb,hqm,rfl,rfl,rfl,k3,hY3.gens,hY3.f,hY3.t,hY3.mem⟩
    have hva:Sli w0 X3.D boE X3.d.va z3.A:=hX3.d.A.a
    have hAl:z3.A.length=g.slots:=hX3.p.i.A
    have hTT:Sli w0 X3.D wE X3.d.z.vt (z3.W.T.map docE):=hX3.d.W.T
    have hTl:(z3.W.T.map docE).length≤60:=by rw[List.length_map];exact hX3.n
    have hsl:=okg.slots
    obtain⟨z4,hz4⟩: ∃ z4,(finC g long z3).2=z4:=⟨_,rfl⟩
    obtain⟨zz4,hzz4⟩: ∃ zz4,(finC g long zz3).2=zz4:=⟨_,rfl⟩
    have p4:z4.ph=3:=by rw[←hz4];exact jbY okg hX3.p.i (by have:=hE.p;omega)
    have pp4:zz4.ph=3:=by rw[←hzz4];exact jbY okg hY3.p.i (by have:=hE.p';omega)
    rw[hz4,hzz4] at hE4
    obtain⟨f1,f2,f3,f4⟩:=hE4.publish p4 pp4 gens
    obtain⟨z5,hz5⟩: ∃ z5,publishC g gens z4=z5:=⟨_,rfl⟩
    obtain⟨zz5,hzz5⟩: ∃ zz5,publishC g gens zz4=zz5:=⟨_,rfl⟩
    rw[hz5,hzz5] at f1 f2;refine zh ?_;clear hT T;refine zam ?_;refine zbT ?_;rw[hpb,hpm,hqb,hqm];refine yq5 fun T hT=>?_;refine(CallV.part (CallV.fn (jbM hG hA3 (by have:=hE.p;omega) rfl hz4)) ja).mono ?_;rintro _ _ ⟨rfl,y4,hA4,rfl⟩;refine za ?_;clear hT T;refine yq6 fun T hT=>?_;refine(CallV.part (CallV.fn (jbM hG hB3 (by have:=hE.p';omega) rfl hzz4)) ja).mono ?_;rintro _ _ ⟨rfl,yy4,hB4,rfl⟩;refine za ?_;clear hT T;refine yq6 fun T hT=>?_;refine(CallV.part (CallV.fn (jce hG hA4 p4 rfl rfl hz5)) ja).mono ?_;rintro _ _ ⟨rfl,y5,hA5,rfl⟩;refine za ?_;clear hT T;refine yq13 fun T hT=>?_;refine(CallV.part (CallV.fn (jce hG hB4 pp4 f3 f4 hzz5)) ja).mono ?_;rintro _ _ ⟨rfl,yy5,hB5,rfl⟩;refine za ?_;clear hT T;refine yr47 ?_;refine K.loopT (σ:=SmA) [(7,_),(9,_)] (fun s kp_=>(19, .int .i64 (s.i:Nat))::kp_) (fun s=>cycH y5++(cycH yy5++(X3.D++(Y3.D++((b7,cells (.pointer (some ⟨pm,0,none⟩):: .pointer (some ⟨pb,0,none⟩)::(wcL g long X3 z3).drop 2) 57)::(b9,cells (.pointer (some ⟨qm,0,none⟩):: .pointer (some ⟨qb,0,none⟩)::(wcL g long Y3 zz3).drop 2) 57)::F))))) (fun s=>s.i≤z3.A.length) (fun s=>z3.A.length-s.i) (⟨0⟩) jg ja (Nat.zero_le _) ?_;rintro⟨i⟩ hi;dsimp only at hi⊢
    generalize (wcL g long Y3 zz3).drop 2=M2
    simp only[wcL,List.drop_succ_cons,List.drop_zero]
    by_cases hlt:i<z3.A.length
    ·have hh1:=fun A=>jc0 (F:=A) (t:=i) (w0:=w0) hA5
     have hh2:=fun A=>jc0 (F:=A) (t:=i) (w0:=w0) hB5
     have hc1:=fun A=>jfK (w0:=w0) (F:=A) (t:=i) hA5.p
     have hc2:=fun A=>jfK (w0:=w0) (F:=A) (t:=i) hB5.p
     have hp1:=fun A=>jcO (w0:=w0) (F:=A) (y:=y5)
     have hp2:=fun A=>jcO (w0:=w0) (F:=A) (y:=yy5)
     rw[f1] at hh2;rw[f2] at hc2;rw[hA5.b] at hp1;rw[hB5.b] at hp2
     obtain⟨a,ha⟩: ∃ a,(z5.A[i]?).getD false=a:=⟨_,rfl⟩
     obtain⟨c,hc⟩: ∃ c,(z5.W.N[i]?).getD 0=c:=⟨_,rfl⟩
     rw[ha] at hh1 hh2;rw[hc] at hc1 hc2;refine yr18 ?_;refine K.drawn _ [(0,0),(1,0),(3,1),(5,1),(6,1),(8,1),(2,2),(4,2),(7,2),(9,2),(10,0),(11,0),(12,0),(13,0),(15,1),(17,1),(18,1),(20,1),(14,2),(16,2),(19,2),(21,2),(22,0),(23,0)] (by kernel_rfl) (by kernel_rfl) (by kernel_rfl) (by kernel_rfl) (by kernel_rfl) (by kernel_rfl) Part.all ?_;refine zB ?_;refine zm ?_;refine zbZ ?_;refine zx ?_;refine zm ?_;refine zi fun T hT=>?_;refine(CallV.part (CallV.fn (jbx hA5)) ja).mono ?_;refine zl ?_;clear hT T;refine zi fun T hT=>?_;refine(CallV.part (CallV.fn (hh1 _)) ja).mono ?_;refine zl ?_;clear hT T;refine zi fun T hT=>?_;refine(CallV.part (CallV.fn (jbx hB5)) ja).mono ?_;refine zl ?_;clear hT T;refine zi fun T hT=>?_;refine(CallV.part (CallV.fn (hh2 _)) ja).mono ?_;refine zl ?_;clear hT T;refine KD.v0 rfl rfl (Val.neqB rfl rfl rfl) ?_;refine zg ?_;rw[jdn];refine zac ?_;refine zcE ?_;refine KD.y1 rfl rfl rfl rfl (Val.fieldAddr0 (k:=1) rfl rfl) ?_;refine za3 ?_;refine zcE ?_;refine zv fun T hT=>?_;refine(CallV.part (CallV.fn (hp1 _)) ja).mono ?_;refine zl ?_;clear hT T;refine zv fun T hT=>?_;refine(CallV.part (CallV.fn (hc1 _)) ja).mono ?_;refine zl ?_;clear hT T;refine zv fun T hT=>?_;refine(CallV.part (CallV.fn (hp2 _)) ja).mono ?_;refine zl ?_;clear hT T;refine zv fun T hT=>?_;refine(CallV.part (CallV.fn (hc2 _)) ja).mono ?_;refine zl ?_;clear hT T;refine zcf ?_;refine zI ?_;refine yr10 ?_;exact KE.again ⟨i+1⟩ jg ja hlt (by show z3.A.length-(i+1)<z3.A.length-i;omega)
    ·refine yr25 ?_;refine K.loopT (σ:=SmA) [(7,_),(9,_)] (fun s kp_=>(20, .int .i64 (s.i:Nat))::kp_) (fun s=>cycH y5++(cycH yy5++(X3.D++(Y3.D++((b7,cells (.pointer (some ⟨pm,0,none⟩):: .pointer (some ⟨pb,0,none⟩)::(wcL g long X3 z3).drop 2) 57)::(b9,cells (.pointer (some ⟨qm,0,none⟩):: .pointer (some ⟨qb,0,none⟩)::M2) 57)::F))))) (fun s=>s.i≤(z3.W.T.map docE).length) (fun s=>(z3.W.T.map docE).length-s.i) (⟨0⟩) jg ja (Nat.zero_le _) ?_;rintro⟨j⟩ hj;dsimp only at hj⊢;simp only[wcL,List.drop_succ_cons,List.drop_zero]
     by_cases hlt2:j<(z3.W.T.map docE).length
     ·have hs1:=fun A=>jgb (w0:=w0) (F:=A) (i:=j) hA5.p
      have hs2:=fun A=>jgb (w0:=w0) (F:=A) (i:=j) hB5.p
      rw[f2,hB5.T] at hs2;rw[hA5.T] at hs1
      obtain⟨a,ha⟩: ∃ a,(slotT z5.W.T (j:Nat)).getD 0=a:=⟨_,rfl⟩
      obtain⟨c,hc⟩: ∃ c,(slotT z5.W.T (j:Nat)).isSome=c:=⟨_,rfl⟩
      rw[ha,hc] at hs1 hs2;refine yq22 fun T hT=>?_;refine(CallV.part (CallV.fn (jfj hA5)) ja).mono ?_;refine zc ?_;clear hT T;refine yq1 fun T hT=>?_;refine zdZ ?_;refine zc ?_;clear hT T;refine yq11 fun T hT=>?_;refine(CallV.part (CallV.fn (jfj hB5)) ja).mono ?_;refine zc ?_;clear hT T;refine yq1 fun T hT=>?_;refine(CallV.part (CallV.fn (hs2 _)) ja).mono ?_;refine zc ?_;clear hT T;refine yr22 ?_;rw[jdn];refine yr9 ?_;exact KE.again ⟨j+1⟩ jg ja hlt2 (by show(z3.W.T.map docE).length-(j+1)<(z3.W.T.map docE).length-j;omega)
     ·obtain⟨m5,hm5⟩: ∃ m5,y5.B.m.R.flatten=m5:=⟨_,rfl⟩
      have hmm5:yy5.B.m.R.flatten=m5:=by rw[hB5.R,f2,←hm5,hA5.R]
      have hmn:m5.length≤4294967296:=by have:=hA5.p.p.bo.m.n;rw [←hm5];omega
      refine yr20 ?_;refine K.drawn _ [(0,0),(1,0),(3,1),(4,1),(2,2),(5,2),(6,2),(7,0),(8,2),(9,0),(10,0)] (by kernel_rfl) (by kernel_rfl) (by kernel_rfl) (by kernel_rfl) (by kernel_rfl) (by kernel_rfl) Part.all ?_;refine zQ ?_;refine zeY ?_;refine zi fun T hT=>?_;refine(CallV.part (CallV.fn (jct hA5)) ja).mono ?_;rintro _ _ ⟨o5,ko5,rfl,rfl⟩;rw[hm5] at ko5⊢;refine zh ?_;clear hT T;refine zi fun T hT=>?_;refine(CallV.part (CallV.fn (jct hB5)) ja).mono ?_;rintro _ _ ⟨oo5,koo5,rfl,rfl⟩;rw[hmm5] at koo5⊢;refine zh ?_;clear hT T;refine zi fun T hT=>?_;refine(CallV.fn (Same3_K (l:=m5) (m:=m5) (Sli.own jh ko5 rfl) (Sli.own jh koo5 rfl) hmn)).mono ?_;rintro _ _ ⟨rfl,rfl⟩;rw[decide_eq_true rfl];refine zh ?_;clear hT T;refine zg ?_;refine zv fun T hT=>?_;refine zE ?_;rintro _ _ ⟨rfl,rfl⟩;refine zh ?_;clear hT T;refine zaA ?_;refine zy ?_;refine yr2 ?_;exact zd
end Go.Proofs.YtldomapkmopomaaGreatDoor.Sw
