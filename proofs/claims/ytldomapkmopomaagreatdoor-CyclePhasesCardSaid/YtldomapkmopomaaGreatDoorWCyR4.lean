/-Cycle:CyclePhases:phases,in order. -/
import Derived.Test.YtldomapkmopomaaGreatDoorD1
import Derived.Test.YtldomapkmopomaaGreatDoorJ42
namespace Go.Proofs.YtldomapkmopomaaGreatDoor.Sw
set_option maxHeartbeats 8000000 open Go.Proofs.YtldomapkmopomaaGreatDoor renaming lo → qL, hi → qH
open Go.RowKit
set_option linter.unusedVariables false
set_option linter.unusedSimpArgs false
set_option maxRecDepth 10000
structure PhA where
 i:Nat
 n:Nat
 y:CyM
 z:CyP
set_option maxHeartbeats 16000000 in
theorem jhu {w0:World} {F:jb} {c:Cfg} {vc vt vL vS vK:Value} {x:jaj} (hG:jw w0) (hR:j1 w0 F c vc vt) (hC:Sli w0 [] iE vc c.cl) (hvc:vc.oneCell'=true) (hx:J8 w0 x vL vS vK):
  Call Tryz.prog w0 7 [jt c vc vt, .agg [vL,vS,vK].toArray] F (fun r H'=>r= .bool true∧H'=F):=by
 obtain⟨okk,hokk⟩: ∃ okk,okY c=okk:=⟨_,rfl⟩
 have hawake:=fun A=>jcn (w0:=w0) (F:=A) hG
 have hgx:=fun A=>jbD (F:=A) hx
 have ox1:=hx.o1
 have ox2:=hx.o2
 have ox3:=hx.o3
 cases okk with
 |false=>
  have hno:=fun A (hp:Part A F)=>jcm (hR.part hp) hokk
  obtain⟨cl,page,tn,workers,grey,gens⟩:=c
  simp only[jt,jJ] at hno⊢;unfold wc0 cy0 at hno;refine Call.enter2 (n:=203) (by kernel_rfl) Tryz.func7 rfl rfl rfl ?_;refine yr2 ?_;refine zH ?_;intro b2 b3;refine yq6 fun T hT=>?_;refine zbR ?_;rintro _ _ ⟨rfl,rfl⟩;refine za ?_;clear hT T;refine yr3 ?_;refine zf ?_;intro b5;refine yq18 fun T hT=>?_;refine zE ?_;rintro _ _ ⟨rfl,rfl⟩;refine za ?_;clear hT T;refine yr5 ?_;exact zd
 |true=>
  obtain⟨R0,g,long,nw,caps,-,hnw8,hlong,hmade⟩:=jcj hG hR hokk hC hvc
  obtain⟨cl,page,tn,workers,grey,gens⟩:=c
  simp only[jt,jJ] at hmade⊢
  obtain⟨z0,hz0⟩: ∃ z0,newC g caps nw=z0:=⟨_,rfl⟩
  have p0:z0.ph=0:=by rw[←hz0];rfl
  have hT0:je g→CyT g z0:=fun ok=>by rw[←hz0];exact jdI ok
  rw[hz0] at hmade;clear hokk hR hz0
  obtain⟨gx,hgx1⟩: ∃ gx,greatX x=gx:=⟨_,rfl⟩
  simp only[hgx1] at hgx;refine Call.enter2 (n:=203) (by kernel_rfl) Tryz.func7 rfl rfl rfl ?_;refine yr2 ?_;refine zH ?_;intro b2 b3;refine yq6 fun T hT=>?_;refine zbS ?_;rintro _ _ ⟨X,hX,hXn,rfl,rfl⟩
  obtain⟨q1,q2,q3,q4,q5,q6,q7,q8,q9,r1,r2,r3,r4,r5⟩:=hX.d.c
  unfold wcL;refine za ?_;clear hT T
  cases gx with
  |true=>
   refine yr3 ?_;refine zf ?_;intro b5;refine yq13 fun T hT=>?_;refine zat ?_;rintro _ _ ⟨rfl,rfl⟩;refine za ?_;clear hT T;refine yq6 fun T hT=>?_;refine zE ?_;rintro _ _ ⟨rfl,rfl⟩;refine za ?_;clear hT T;refine yr5 ?_;exact zd
  |false=>
   obtain⟨lx1,lx2⟩:=jaR hgx1
   refine yr3 ?_;refine zf ?_;intro b5;refine yq13 fun T hT=>?_;refine zat ?_;rintro _ _ ⟨rfl,rfl⟩;refine za ?_;clear hT T;refine yq12 fun T hT=>?_
   have okg:=hX.okg
   have hmx:=fun A=>ja8 (F:=A) hG hX hXn hx.one (by unfold greatX;simp;omega)
   unfold wcL at hmx;refine zcm ?_;rintro _ _ ⟨X1,hX1,n1,-,-,rfl,rfl⟩
   have p1:(mixC g long nw ⟨x.L,[],[]⟩ z0).ph=0:=jcU p0
   have T1:CyT g (mixC g long nw ⟨x.L,[],[]⟩ z0):=mix_T okg hX.p.i p0 (hT0 okg)
   obtain⟨z1,hz1⟩: ∃ z1,mixC g long nw ⟨x.L,[],[]⟩ z0=z1:=⟨_,rfl⟩
   rw[hz1] at hX1 p1 T1;clear hX hmx q1 q2 q3 q4 q5 q6 q7 q8 q9 r1 r2 r3 r4 r5
   obtain⟨q1,q2,q3,q4,q5,q6,q7,q8,q9,r1,r2,r3,r4,r5⟩:=hX1.d.c
   rw[hz1];clear hz1;unfold wcH;simp only[List.append_assoc]
   obtain⟨pb,hpb⟩: ∃ pb,X1.y.b=pb:=⟨_,rfl⟩
   obtain⟨pm,hpm⟩: ∃ pm,X1.y.B.m.b=pm:=⟨_,rfl⟩
   have hA1:CwR R0 g long nw gens 1 pb pm X1.y.B.b X1.y.T.b X1.y.a.b X1.y z1:=⟨hX1.p,hpb,hpm,rfl,rfl,rfl,n1,hX1.gens,hX1.f,hX1.t,hX1.mem⟩
   rw[hpb,hpm];refine za ?_;clear hT T;refine yq10 fun T hT=>?_;refine(CallV.part (CallV.fn (jgq hA1 p1)) ja).mono ?_;refine zc ?_;clear hT T;refine yq11 fun T hT=>?_;refine(CallV.part (CallV.fn (jdO hA1 (by omega))) ja).mono ?_;refine zc ?_;clear hT T;refine yq26 fun T hT=>?_;refine(CallV.part (CallV.fn (awPhase_K hA1)) ja).mono ?_;refine zc ?_;clear hT T;refine yq9 fun T hT=>?_
   obtain⟨z2,hz2⟩: ∃ z2,beginC g z1=z2:=⟨_,rfl⟩
   have p2:z2.ph=1:=by rw[←hz2];rfl
   have s2:z2.st=0:=by rw[←hz2];rfl
   refine(CallV.part (CallV.fn (jdo hA1 p1 (by decide) hz2)) ja).mono ?_;rintro _ _ ⟨rfl,y2,hA2,rfl⟩;refine za ?_;clear hT T;refine yq12 fun T hT=>?_;refine(CallV.part (CallV.fn (awPhase_K hA2)) ja).mono ?_;refine zc ?_;clear hT T;refine yr11 ?_;refine K.loopT (σ:=PhA) [(3,_),(5,_)] (fun s kp_=>(14, .int .i64 (s.i:Nat))::(13, .int .i64 (s.n:Nat))::(12, .int .u8 (s.z.ph:Nat))::kp_) (fun s=>cycH s.y++(X1.D++((b5,cells (.pointer (some ⟨pm,0,none⟩):: .pointer (some ⟨pb,0,none⟩)::(wcL g long X1 z1).drop 2) 57)::(b3,cells [vL,vS,vK] 98)::F))) (fun s=>s.i≤x.S.length∧CwR R0 g long nw gens 2 pb pm X1.y.B.b X1.y.T.b X1.y.a.b s.y s.z∧(1≤s.z.ph∧s.z.ph≤2)∧s.z.st=s.n) (fun s=>x.S.length-s.i) (⟨0,0,y2,z2⟩) jg ja (⟨Nat.zero_le _,hA2,(by show 1≤z2.ph∧z2.ph≤2;omega),s2⟩) ?_;rintro⟨i,n,y3,z3⟩ ⟨hi,hA3,hp3,hn3⟩;dsimp only at hi hA3 hp3 hn3⊢;subst hn3
   generalize (wcL g long X1 z1).drop 2=L2
   have hS:Sli w0 F stpE vS x.S:=Sli.old hx.S
   by_cases hlt:i<x.S.length
   ·obtain⟨p,hp⟩:=jn hlt
    have hpo:=hx.ok.S p (List.mem_of_getElem? hp)
    have hu:0≤((p.u:Nat):Int)∧((p.u:Nat):Int)<256:=by omega
    obtain⟨pk,pu⟩:=p
    dsimp only at hu
    have okz:=hA3.p.i
    obtain⟨o,ho⟩: ∃ o,stepC g long nw z3 (if pk<0 then 0 else pk) (pu:Nat)=o:=⟨_,rfl⟩
    refine yr16 ?_;refine K.drawn [] [(0,0),(1,0),(2,0),(3,0),(4,0),(5,0),(6,0),(7,0),(8,0),(9,0),(10,0),(11,0),(12,0),(13,0),(14,0),(15,2),(16,0)] (by kernel_rfl) (by kernel_rfl) (by kernel_rfl) (by kernel_rfl) (by kernel_rfl) (by kernel_rfl) Part.nil ?_;refine zB ?_;refine zB ?_;refine zaD ?_;refine zcy ?_;refine zJ ?_;refine KD.v0 rfl rfl (Val.max rfl rfl) ?_;refine zB ?_;refine zaD ?_;refine zb6 ?_;refine zJ ?_;refine zi fun T hT=>?_;refine(CallV.part (CallV.fn (jer (b:=o.isSome) (s':=o.getD z3) (hd:=if pk<0 then 0 else pk) (v:=(pu:Nat)) hG hA3 hu (by rw[ho]) (by rw[ho]))) ja).mono ?_;rintro _ _ ⟨rfl,y4,hA4,rfl⟩;refine zh ?_;clear hT T
    cases o with
    |none=>
     have hn3:z3.ph≠3:=by omega
     have hA4:CwR R0 g long nw gens 2 pb pm X1.y.B.b X1.y.T.b X1.y.a.b y4 z3:=hA4
     dsimp only[Option.isSome];refine zy ?_;refine yq14 fun T hT=>?_;refine zeV ?_;clear hT T;refine yq7 fun T hT=>?_;refine(CallV.part (CallV.fn (jdO hA4 hn3)) ja).mono ?_;refine zc ?_;clear hT T;refine yq21 fun T hT=>?_;refine(CallV.part (CallV.fn (jcH hA4)) ja).mono ?_;refine zc ?_;clear hT T;refine yq29 fun T hT=>?_;refine(CallV.part (CallV.fn (jeY hA4 (by omega))) ja).mono ?_;refine zc ?_;clear hT T;refine yr35 ?_;exact KE.again ⟨i+1,z3.st,y4,z3⟩ jg ja ⟨hlt,hA4,by show 1≤z3.ph∧z3.ph≤2;omega,rfl⟩ (by show x.S.length-(i+1)<x.S.length-i;omega)
    |some z4=>
     obtain⟨st4,ph4⟩:=step_st ho
     have ok4:=step_cy okg okz ho
     have h43:=ok4.ph
     have hng: ¬((z4.ph:Nat):Int)>3:=by omega
     have hnl: ¬((z4.ph:Nat):Int)<((z3.ph:Nat):Int):=by omega
     have hA4:CwR R0 g long nw gens 2 pb pm X1.y.B.b X1.y.T.b X1.y.a.b y4 z4:=hA4
     have hle4:=hA4.p.le.s
     dsimp only[Option.isSome]
     by_cases h3:z4.ph=3
     ·refine zy ?_;refine yq18 fun T hT=>?_;refine zeV ?_;clear hT T;refine yq7 fun T hT=>?_
      obtain⟨z5,hz5⟩: ∃ z5,publishC g gens z4=z5:=⟨_,rfl⟩
      have p5:z5.ph=0:=by rw[←hz5];rfl
      have s5:z5.st=z4.st:=by rw[←hz5];rfl
      refine(CallV.part (CallV.fn (jce hG hA4 h3 rfl rfl hz5)) ja).mono ?_;rintro _ _ ⟨rfl,y5,hA5,rfl⟩;refine za ?_;clear hT T;refine yq21 fun T hT=>?_;refine(CallV.part (CallV.fn (jcH hA5)) ja).mono ?_;refine zc ?_;clear hT T;refine yq29 fun T hT=>?_
      obtain⟨z6,hz6⟩: ∃ z6,beginC g z5=z6:=⟨_,rfl⟩
      have p6:z6.ph=1:=by rw[←hz6];rfl
      have s6:z6.st=0:=by rw[←hz6];rfl
      refine(CallV.part (CallV.fn (jdo hA5 p5 (by decide) hz6)) ja).mono ?_;rintro _ _ ⟨rfl,y6,hA6,rfl⟩;refine za ?_;clear hT T;refine yq28 fun T hT=>?_;refine(CallV.part (CallV.fn (awPhase_K hA6)) ja).mono ?_;refine zc ?_;clear hT T;refine yq7 fun T hT=>?_;refine(CallV.part (CallV.fn (jcH hA6)) ja).mono ?_;refine zc ?_;clear hT T;refine yq5 fun T hT=>?_;refine zE ?_;rintro _ _ ⟨rfl,rfl⟩;refine za ?_;clear hT T;refine yr11 ?_;exact zd
     ·have hn3:=h3
      refine zy ?_;refine yq18 fun T hT=>?_;refine zeV ?_;clear hT T;refine yq7 fun T hT=>?_;refine(CallV.part (CallV.fn (jdO hA4 hn3)) ja).mono ?_;refine zc ?_;clear hT T;refine yq21 fun T hT=>?_;refine(CallV.part (CallV.fn (jcH hA4)) ja).mono ?_;refine zc ?_;clear hT T;refine yq29 fun T hT=>?_;refine(CallV.part (CallV.fn (jeY hA4 (by omega))) ja).mono ?_;refine zc ?_;clear hT T;refine yr35 ?_;exact KE.again ⟨i+1,z4.st,y4,z4⟩ jg ja ⟨hlt,hA4,by show 1≤z4.ph∧z4.ph≤2;omega,rfl⟩ (by show x.S.length-(i+1)<x.S.length-i;omega)
   ·have okz:=hA3.p.i
    obtain⟨z4,hz4⟩: ∃ z4,(finC g long z3).2=z4:=⟨_,rfl⟩
    obtain⟨k4,hk4⟩: ∃ k4,(finC g long z3).1=k4:=⟨_,rfl⟩
    have hr:=jbU.ok okg okz
    have p4:z4.ph=3:=by rw[←hz4];exact jbY okg okz (by omega)
    have hend:helpC g long z4=none:=by rw[←hz4];exact finC_end okg okz
    have st4:z4.st=z3.st+k4:=by rw[←hz4,←hk4];exact hr.st
    have hle4:=(hr.le hA3.p.le).s
    rw[hz4] at hle4
    have hf2:finC g long z4=(0,z4):=fin_is okg (by rw[←hz4];exact hr.ok) .refl hend
    refine yq20 fun T hT=>?_;refine(CallV.part (CallV.fn (jbM hG hA3 (by omega) hk4 hz4)) ja).mono ?_;rintro _ _ ⟨rfl,y4,hA4,rfl⟩;refine za ?_;clear hT T;refine yq11 fun T hT=>?_;refine(CallV.part (CallV.fn (jbM (n:=0) (s':=z4) hG hA4 (by omega) (by rw[hf2]) (by rw[hf2]))) ja).mono ?_;rintro _ _ ⟨rfl,y5,hA5,rfl⟩;refine za ?_;clear hT T;refine yq29 fun T hT=>?_;refine(CallV.part (CallV.fn (jcH hA5)) ja).mono ?_;refine zc ?_;clear hT T;refine yq15 fun T hT=>?_;refine(CallV.part (CallV.fn (awPhase_K hA5)) ja).mono ?_;refine zc ?_;clear hT T;refine yq7 fun T hT=>?_;refine zE ?_;rintro _ _ ⟨rfl,rfl⟩;refine za ?_;clear hT T;refine yr5 ?_;exact zd
end Go.Proofs.YtldomapkmopomaaGreatDoor.Sw
