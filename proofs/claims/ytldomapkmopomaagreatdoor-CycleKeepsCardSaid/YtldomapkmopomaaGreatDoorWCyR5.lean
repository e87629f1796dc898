/-Cycle:CycleKeeps:what is reached is not altered. -/
import Derived.Test.YtldomapkmopomaaGreatDoorD1
import Derived.Test.YtldomapkmopomaaGreatDoorJ42
import Derived.Test.YtldomapkmopomaaGreatDoorJ44
namespace Go.Proofs.YtldomapkmopomaaGreatDoor.Sw
set_option maxHeartbeats 8000000 open Go.Proofs.YtldomapkmopomaaGreatDoor renaming lo → qL, hi → qH
open Go.RowKit
set_option linter.unusedVariables false
set_option linter.unusedSimpArgs false
set_option maxRecDepth 10000
structure KpA where
 i:Nat
 y:CyM
 z:CyP
structure KpB where
 y:CyM
 z:CyP
structure KpC where
 j:Nat
set_option maxHeartbeats 16000000 in
theorem jhC {w0:World} {F:jb} {c:Cfg} {vc vt vL vS vK:Value} {x:jaj} (hG:jw w0) (hR:j1 w0 F c vc vt) (hC:Sli w0 [] iE vc c.cl) (hvc:vc.oneCell'=true) (hx:J8 w0 x vL vS vK):
  Call Tryz.prog w0 6 [jt c vc vt, .agg [vL,vS,vK].toArray] F (fun r H'=>r= .bool true∧H'=F):=by
 obtain⟨okk,hokk⟩: ∃ okk,okY c=okk:=⟨_,rfl⟩
 have hawake:=fun A=>jcn (w0:=w0) (F:=A) hG
 have hgx:=fun A=>jbD (F:=A) hx
 have ox1:=hx.o1
 have ox2:=hx.o2
 have ox3:=hx.o3
 cases okk with
 |false=>
  have hno:=fun A (hp:Part A F)=>jcm (hR.part hp) hokk
  obtain⟨cl,page,tn,workers,grey,gens⟩:=c
  simp only[jt,jJ] at hno⊢;unfold wc0 cy0 at hno;refine Call.enter2 (n:=147) (by kernel_rfl) Tryz.func6 rfl rfl rfl ?_;refine yr2 ?_;refine zH ?_;intro b2 b3;refine yq6 fun T hT=>?_;refine zbR ?_;rintro _ _ ⟨rfl,rfl⟩;refine za ?_;clear hT T;refine yr3 ?_;refine zf ?_;intro b5;refine yq18 fun T hT=>?_;refine zE ?_;rintro _ _ ⟨rfl,rfl⟩;refine za ?_;clear hT T;refine yr5 ?_;exact zd
 |true=>
  obtain⟨R0,g,long,nw,caps,-,hnw8,hlong,hmade⟩:=jcj hG hR hokk hC hvc
  obtain⟨cl,page,tn,workers,grey,gens⟩:=c
  simp only[jt,jJ] at hmade⊢
  obtain⟨z0,hz0⟩: ∃ z0,newC g caps nw=z0:=⟨_,rfl⟩
  have p0:z0.ph=0:=by rw[←hz0];rfl
  have hT0:je g→CyT g z0:=fun ok=>by rw[←hz0];exact jdI ok
  rw[hz0] at hmade;clear hokk hR hz0
  obtain⟨gx,hgx1⟩: ∃ gx,greatX x=gx:=⟨_,rfl⟩
  simp only[hgx1] at hgx;refine Call.enter2 (n:=147) (by kernel_rfl) Tryz.func6 rfl rfl rfl ?_;refine yr2 ?_;refine zH ?_;intro b2 b3;refine yq6 fun T hT=>?_;refine zbS ?_;rintro _ _ ⟨X,hX,hXn,rfl,rfl⟩
  obtain⟨q1,q2,q3,q4,q5,q6,q7,q8,q9,r1,r2,r3,r4,r5⟩:=hX.d.c
  unfold wcL;refine za ?_;clear hT T
  cases gx with
  |true=>
   refine yr3 ?_;refine zf ?_;intro b5;refine yq13 fun T hT=>?_;refine zat ?_;rintro _ _ ⟨rfl,rfl⟩;refine za ?_;clear hT T;refine yq6 fun T hT=>?_;refine zE ?_;rintro _ _ ⟨rfl,rfl⟩;refine za ?_;clear hT T;refine yr5 ?_;exact zd
  |false=>
   obtain⟨lx1,lx2⟩:=jaR hgx1
   refine yr3 ?_;refine zf ?_;intro b5;refine yq13 fun T hT=>?_;refine zat ?_;rintro _ _ ⟨rfl,rfl⟩;refine za ?_;clear hT T;refine yq12 fun T hT=>?_
   have okg:=hX.okg
   have hmx:=fun A=>ja8 (F:=A) hG hX hXn hx.one (by unfold greatX;simp;omega)
   unfold wcL at hmx;refine zcm ?_;rintro _ _ ⟨X1,hX1,n1,-,-,rfl,rfl⟩
   have p1:(mixC g long nw ⟨x.L,[],[]⟩ z0).ph=0:=jcU p0
   have T1:CyT g (mixC g long nw ⟨x.L,[],[]⟩ z0):=mix_T okg hX.p.i p0 (hT0 okg)
   obtain⟨z1,hz1⟩: ∃ z1,mixC g long nw ⟨x.L,[],[]⟩ z0=z1:=⟨_,rfl⟩
   rw[hz1] at hX1 p1 T1;clear hX hmx q1 q2 q3 q4 q5 q6 q7 q8 q9 r1 r2 r3 r4 r5
   obtain⟨q1,q2,q3,q4,q5,q6,q7,q8,q9,r1,r2,r3,r4,r5⟩:=hX1.d.c
   rw[hz1];clear hz1;unfold wcH;simp only[List.append_assoc]
   obtain⟨pb,hpb⟩: ∃ pb,X1.y.b=pb:=⟨_,rfl⟩
   obtain⟨pm,hpm⟩: ∃ pm,X1.y.B.m.b=pm:=⟨_,rfl⟩
   have hA1:CwR R0 g long nw gens 1 pb pm X1.y.B.b X1.y.T.b X1.y.a.b X1.y z1:=⟨hX1.p,hpb,hpm,rfl,rfl,rfl,n1,hX1.gens,hX1.f,hX1.t,hX1.mem⟩
   rw[hpb,hpm]
   have hre:=fun A=>jeZ (F:=A) hX1
   unfold kwL at hre
   have hPL:Sli w0 X1.D slE X1.v.L g.L:=hX1.d.A.p.L
   have okz1:=hX1.p.i
   have hI2:=CyI.begin okz1 p1 T1
   obtain⟨z2,hz2⟩: ∃ z2,beginC g z1=z2:=⟨_,rfl⟩
   have p2:z2.ph=1:=by rw[←hz2];rfl
   have x2:z2.W.x=z1.W.x:=by rw[←hz2];rfl
   rw[hz2] at hI2;refine za ?_;clear hT T;refine yq11 fun T hT=>?_;refine(CallV.part (CallV.fn (hre _)) ja).mono ?_;rintro _ _ ⟨out,o,hol,hoi,hoo,rfl,rfl⟩;refine za ?_;clear hT T;refine yq7 fun T hT=>?_;refine(CallV.part (CallV.fn (jct hA1)) ja).mono ?_;rintro _ _ ⟨o1,ko1,rfl,rfl⟩;refine za ?_;clear hT T;refine yq8 fun T hT=>?_;refine(CallV.part (CallV.fn (jdo hA1 p1 (by decide) hz2)) ja).mono ?_;rintro _ _ ⟨rfl,y2,hA2,rfl⟩;refine za ?_;clear hT T;refine yr13 ?_
   have hsl:=okg.slots
   obtain⟨m1,hm1⟩: ∃ m1,X1.y.B.m.R.flatten=m1:=⟨_,rfl⟩
   rw[hm1] at ko1⊢;refine K.loopT (σ:=KpA) [(3,_),(5,_),(7,_),(8,_)] (fun s kp_=>(9, .int .i64 (s.i:Nat))::kp_) (fun s=>cycH s.y++(oH uE 116 m1 o1++(oH boE 4 out o++(X1.D++((b5,cells (.pointer (some ⟨pm,0,none⟩):: .pointer (some ⟨pb,0,none⟩)::(wcL g long X1 z1).drop 2) 57)::(b3,cells [vL,vS,vK] 98)::F))))) (fun s=>s.i≤x.S.length+1∧CwR R0 g long nw gens 2 pb pm X1.y.B.b X1.y.T.b X1.y.a.b s.y s.z∧(∀ t:Nat,RchM g z1.W t→j0 g z1.W.x s.z.W.x t)∧(s.i≤x.S.length→1≤s.z.ph∧CyI g (RchM g z1.W) z1.A s.z)) (fun s=>x.S.length+1-s.i) (⟨0,y2,z2⟩) jg ja (⟨Nat.zero_le _,hA2,(fun t _=>by show j0 g _ z2.W.x t;rw [x2];exact j0.refl),fun _=>⟨by show 1≤z2.ph;omega,hI2⟩⟩) ?_;rintro⟨i,y3,z3⟩ ⟨hi,hA3,hs3,hI3⟩;dsimp only at hi hA3 hs3 hI3⊢;simp only[wcL,List.drop_succ_cons,List.drop_zero]
   have hS:Sli w0 F stpE vS x.S:=Sli.old hx.S
   by_cases hle:i≤x.S.length
   ·by_cases h200:i<200
    ·obtain⟨h1,hI⟩:=hI3 hle
     have okz:=hA3.p.i
     refine yr21 ?_;refine K.cutT (σ:=KpB) [(3,_),(5,_),(7,_),(8,_),(9,_)] jg (fun s kp_=>kp_) (fun s=>cycH s.y++(oH uE 116 m1 o1++(oH boE 4 out o++(X1.D++((b5,cells (.pointer (some ⟨pm,0,none⟩):: .pointer (some ⟨pb,0,none⟩)::(wcL g long X1 z1).drop 2) 57)::(b3,cells [vL,vS,vK] 98)::F))))) (fun s=>CwR R0 g long nw gens 2 pb pm X1.y.B.b X1.y.T.b X1.y.a.b s.y s.z∧(∀ t:Nat,RchM g z1.W t→j0 g z1.W.x s.z.W.x t)∧(i+1≤x.S.length→1≤s.z.ph∧CyI g (RchM g z1.W) z1.A s.z)) ?_ ?_
     ·by_cases hlt:i<x.S.length
      ·obtain⟨p,hp⟩:=jn hlt
       have hpo:=hx.ok.S p (List.mem_of_getElem? hp)
       have hu:0≤((p.u:Nat):Int)∧((p.u:Nat):Int)<256:=by omega
       obtain⟨k1,k2,k3⟩:=jfq (nw:=nw) okg okz h1 hI (p:=p)
       have hs4: ∀ t:Nat,RchM g z1.W t→j0 g z1.W.x ((stpC g long nw z3 p).getD z3).W.x t:=fun t ht=>(hs3 t ht).trans (k3.w t (.inl ht))
       obtain⟨pk,pu⟩:=p
       dsimp only at hu
       by_cases hh:pk<0
       ·have hq:stpC g long nw z3 ⟨pk,pu⟩=helpC g long z3:=by unfold stpC;exact if_pos hh
        refine yq25 fun T hT=>?_;refine(CallV.part (CallV.fn (jfL (s':=(stpC g long nw z3 ⟨pk,pu⟩).getD z3) hG hA3 rfl (by rw[hq]))) ja).mono ?_;rintro _ _ ⟨rfl,y4,hA4,rfl⟩;refine za ?_;clear hT T;refine yr1 ?_;exact KE.meet ⟨y4,_⟩ jg ja ⟨hA4,hs4,fun _=>⟨k1,k2⟩⟩
       ·have hq:stpC g long nw z3 ⟨pk,pu⟩=stepC g long nw z3 pk (pu:Nat):=by unfold stpC;exact if_neg hh
        refine yr22 ?_;refine K.drawn [] [(0,0),(1,0),(2,0),(3,0),(4,0),(5,0),(6,0),(7,0),(8,0),(9,0),(10,0),(11,0),(12,0),(13,0),(14,2)] (by kernel_rfl) (by kernel_rfl) (by kernel_rfl) (by kernel_rfl) (by kernel_rfl) (by kernel_rfl) Part.nil ?_;refine zB ?_;refine zB ?_;refine zaD ?_;refine zcy ?_;refine zJ ?_;refine zB ?_;refine zaD ?_;refine zb6 ?_;refine zJ ?_;refine zi fun T hT=>?_;refine(CallV.part (CallV.fn (jer (s':=(stpC g long nw z3 ⟨pk,pu⟩).getD z3) (hd:=pk) (v:=(pu:Nat)) hG hA3 hu rfl (by rw[hq]))) ja).mono ?_;rintro _ _ ⟨rfl,y4,hA4,rfl⟩;refine zh ?_;clear hT T;refine zp ?_;exact KE.meet ⟨y4,_⟩ jg ja ⟨hA4,hs4,fun _=>⟨k1,k2⟩⟩
      ·have hr:=fin_W okg okz hI
       have h3:=jbY okg okz (show z3.ph≠0 by omega)
       obtain⟨z5,hz5⟩: ∃ z5,(finC g long z3).2=z5:=⟨_,rfl⟩
       rw[hz5] at hr h3;refine yq14 fun T hT=>?_;refine(CallV.part (CallV.fn (jbM hG hA3 (show z3.ph≠0 by omega) rfl hz5)) ja).mono ?_;rintro _ _ ⟨rfl,y4,hA4,rfl⟩;refine za ?_;clear hT T;refine yq5 fun T hT=>?_;refine(CallV.part (CallV.fn (jce hG hA4 h3 rfl rfl rfl)) ja).mono ?_;rintro _ _ ⟨rfl,y5,hA5,rfl⟩;refine za ?_;clear hT T;refine yr1 ?_;exact KE.meet ⟨y5,_⟩ jg ja ⟨hA5,(fun t ht=>(hs3 t ht).trans (hr.w t (.inl ht))),fun e=>absurd e (by omega)⟩
     ·rintro⟨y4,z4⟩ ⟨hA4,hs4,hI4⟩;dsimp only at hA4 hs4 hI4⊢;clear hs3 hI3 hA3 okz h1 hI
      have hkw: ∀ (t k:Nat) (q:ju),t<g.slots→out[t]?=some true→g.L[t]?=some q→k<q.size→ ∃ v,m1[q.addr+k]?=some v∧y4.B.m.R.flatten[q.addr+k]?=some v:=fun t k q ht ho hq hk=>by
       rw[←hm1];exact hA1.word hA4 (hs4 t ((hoi t ht).1 ho)) hq hk
      refine yq4 fun T hT=>?_;refine(CallV.part (CallV.fn (jct hA4)) ja).mono ?_;rintro _ _ ⟨o4,ko4,rfl,rfl⟩
      obtain⟨m4,hm4⟩: ∃ m4,y4.B.m.R.flatten=m4:=⟨_,rfl⟩
      rw[hm4] at ko4 hkw⊢;refine za ?_;clear hT T;refine yr9 ?_;refine K.loopT (σ:=KpC) [(3,_),(5,_),(7,_),(8,_),(9,_),(10,_)] (fun s kp_=>(11, .int .i64 (s.j:Nat))::kp_) (fun s=>oH uE 116 m4 o4++(cycH y4++(oH uE 116 m1 o1++(oH boE 4 out o++(X1.D++((b5,cells (.pointer (some ⟨pm,0,none⟩):: .pointer (some ⟨pb,0,none⟩)::(wcL g long X1 z1).drop 2) 57)::(b3,cells [vL,vS,vK] 98)::F)))))) (fun s=>s.j≤out.length) (fun s=>out.length-s.j) (⟨0⟩) jg ja (Nat.zero_le _) ?_;rintro⟨j⟩ hj;dsimp only at hj⊢;simp only[wcL,List.drop_succ_cons,List.drop_zero]
      by_cases hj2:j<out.length
      ·obtain⟨b,hb⟩:=jn hj2
       obtain⟨q,hq⟩:=Jg (g:=g) (show j<g.slots by omega)
       have hfit:=okg.fits hq
       have hjl:=jl hq
       have hkj:=hkw j
       refine yr25 ?_;refine zf ?_;intro b12;refine yr9 ?_;refine K.loopT (σ:=KpC) [(3,_),(5,_),(7,_),(8,_),(9,_),(10,_),(11,_),(12,_)] (fun s kp_=>(13, .int .i64 (s.j:Nat))::kp_) (fun s=>(b12,cells (slE.enc q) 115)::(oH uE 116 m4 o4++(cycH y4++(oH uE 116 m1 o1++(oH boE 4 out o++(X1.D++((b5,cells (.pointer (some ⟨pm,0,none⟩):: .pointer (some ⟨pb,0,none⟩)::(wcL g long X1 z1).drop 2) 57)::(b3,cells [vL,vS,vK] 98)::F))))))) (fun s=>s.j≤q.size) (fun s=>q.size-s.j) (⟨0⟩) jg ja (Nat.zero_le _) ?_;rintro⟨k⟩ hk;dsimp only at hk⊢
       have hwd:=okg.words
       cases b with
       |false=>
        by_cases hk2:k<q.size
        ·refine yr31 ?_;exact zeU
        ·refine yr27 ?_;exact zeU
       |true=>
        by_cases hk2:k<q.size
        ·obtain⟨v,e1,e4⟩:=hkj k q (by omega) hb hq hk2
         have hl1:=jl e1
         have hl4:=jl e4
         refine yr25 ?_;refine K.drawn [] [(0,0),(1,0),(2,0),(3,0),(4,0),(5,0),(6,0),(7,0),(8,0),(9,0),(10,0),(11,0),(12,0),(13,0),(14,0),(15,0),(16,0),(17,0),(18,0),(19,0),(20,0),(21,0),(22,0),(23,0)] (by kernel_rfl) (by kernel_rfl) (by kernel_rfl) (by kernel_rfl) (by kernel_rfl) (by kernel_rfl) Part.nil ?_;refine z8 ?_;refine zg ?_;refine KD.v0 rfl rfl (Val.add rfl rfl (by simp only[Go.Proofs.YtldomapkmopomaaGreatDoor.lo,Go.Proofs.YtldomapkmopomaaGreatDoor.hi];omega)) ?_;refine zg ?_;refine zcI ?_;refine zcb ?_;refine zA ?_;refine zal ?_;refine zR ?_;refine zf0 ?_;refine KD.y0 rfl rfl rfl rfl (Val.idxSl rfl rfl rfl (Sli.own jh (by assumption) jG) rfl jr) ?_;refine zf1 ?_;refine zC ?_;refine zal ?_;refine zR ?_;refine zf0 ?_;refine KD.y0 rfl rfl rfl rfl (Val.idxSl rfl rfl rfl (Sli.own jh (by assumption) jG) rfl jr) ?_;refine zf1 ?_;refine zcf ?_;refine zI ?_;refine yr10 ?_;exact KE.again ⟨k+1⟩ jg ja hk2 (by show q.size-(k+1)<q.size-k;omega)
        ·refine yr27 ?_;exact zeU
      ·refine yr21 ?_;exact KE.again ⟨i+1,y4,z4⟩ jg ja ⟨(by show i+1≤x.S.length+1;omega),hA4,hs4,fun e=>hI4 e⟩ (by show x.S.length+1-(i+1)<x.S.length+1-i;omega)
    ·have h200': ¬((i:Nat):Int)<200:=by omega
     refine yq24 fun T hT=>?_;refine zE ?_;rintro _ _ ⟨rfl,rfl⟩;refine za ?_;clear hT T;refine yr4 ?_;exact zd
   ·refine yq22 fun T hT=>?_;refine zE ?_;rintro _ _ ⟨rfl,rfl⟩;refine za ?_;clear hT T;refine yr4 ?_;exact zd
end Go.Proofs.YtldomapkmopomaaGreatDoor.Sw
