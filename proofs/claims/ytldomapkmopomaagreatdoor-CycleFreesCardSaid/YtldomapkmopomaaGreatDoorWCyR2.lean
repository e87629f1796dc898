/-Cycle:CycleFrees:what is freed. -/
import Derived.Test.YtldomapkmopomaaGreatDoorJ43
import Derived.Test.YtldomapkmopomaaGreatDoorD1
import Derived.Test.YtldomapkmopomaaGreatDoorJ42
import Derived.Test.YtldomapkmopomaaGreatDoorJ47
namespace Go.Proofs.YtldomapkmopomaaGreatDoor.Sw
set_option maxHeartbeats 8000000 open Go.Proofs.YtldomapkmopomaaGreatDoor renaming lo → qL, hi → qH
open Go.RowKit
set_option linter.unusedVariables false
set_option linter.unusedSimpArgs false
set_option maxRecDepth 10000
structure FrA where
 i:Nat
structure FrB where
 k:Nat
structure FrC where
 g:Bool
set_option maxHeartbeats 16000000 in
theorem jhD {w0:World} {F:jb} {c:Cfg} {vc vt vL vS vK uL uS uK:Value} {x z:jaj} (hG:jw w0) (hR:j1 w0 F c vc vt) (hC:Sli w0 [] iE vc c.cl) (hvc:vc.oneCell'=true) (hx:J8 w0 x vL vS vK) (hz:J8 w0 z uL uS uK):
    Call Tryz.prog w0 8 [jt c vc vt, .agg [vL,vS,vK].toArray, .agg [uL,uS,uK].toArray] F (fun r H'=>r= .bool true∧H'=F):=by
  obtain⟨okk,hokk⟩: ∃ okk,okY c=okk:=⟨_,rfl⟩
  have hawake:=fun A=>jcn (w0:=w0) (F:=A) hG
  have hgx:=fun A=>jbD (F:=A) hx
  have ox1:=hx.o1
  have ox2:=hx.o2
  have ox3:=hx.o3
  have hgz:=fun A=>jbD (F:=A) hz
  have oz1:=hz.o1
  have oz2:=hz.o2
  have oz3:=hz.o3
  cases okk with
  |false=>
    have hno:=fun A (hp:Part A F)=>jcm (hR.part hp) hokk
    obtain⟨cl,page,tn,workers,grey,gens⟩:=c
    simp only[jt,jJ] at hno⊢;unfold wc0 cy0 at hno;refine Call.enter3 (n:=187) (by kernel_rfl) Tryz.func8 rfl rfl rfl ?_;refine yr2 ?_;refine zbU ?_;intro b3 b4 b5;refine yq6 fun T hT=>?_;refine zbR ?_;rintro _ _ ⟨rfl,rfl⟩;refine za ?_;clear hT T;refine yr3 ?_;refine zf ?_;intro b7;refine yq22 fun T hT=>?_;refine zE ?_;rintro _ _ ⟨rfl,rfl⟩;refine za ?_;clear hT T;refine yr5 ?_;exact zd
  |true=>
    obtain⟨R0,g,long,nw,caps,-,hnw8,hlong,hmade⟩:=jcj hG hR hokk hC hvc
    obtain⟨cl,page,tn,workers,grey,gens⟩:=c
    simp only[jt,jJ] at hmade⊢
    obtain⟨z0,hz0⟩: ∃ z0,newC g caps nw=z0:=⟨_,rfl⟩
    have p0:z0.ph=0:=by rw[←hz0];rfl
    have hT0:je g→CyT g z0:=fun ok=>by rw[←hz0];exact jdI ok
    rw[hz0] at hmade;clear hokk hR hz0
    obtain⟨gx,hgx1⟩: ∃ gx,greatX x=gx:=⟨_,rfl⟩
    obtain⟨gz,hgz1⟩: ∃ gz,greatX z=gz:=⟨_,rfl⟩
    simp only[hgx1,hgz1] at hgx hgz;refine Call.enter3 (n:=187) (by kernel_rfl) Tryz.func8 rfl rfl rfl ?_;refine yr2 ?_;refine zbU ?_;intro b3 b4 b5;refine yq6 fun T hT=>?_;refine zbS ?_;rintro _ _ ⟨X,hX,hXn,rfl,rfl⟩
    obtain⟨q1,q2,q3,q4,q5,q6,q7,q8,q9,r1,r2,r3,r4,r5⟩:=hX.d.c
    unfold wcL;refine za ?_;clear hT T
    cases gx with
    |true=>
      refine yr3 ?_;refine zf ?_;intro b7;refine yq13 fun T hT=>?_;refine zat ?_;rintro _ _ ⟨rfl,rfl⟩;refine za ?_;clear hT T;refine yq10 fun T hT=>?_;refine zE ?_;rintro _ _ ⟨rfl,rfl⟩;refine za ?_;clear hT T;refine yr5 ?_;exact zd
    |false=>
      cases gz with
      |true=>
        refine yr3 ?_;refine zf ?_;intro b7;refine yq13 fun T hT=>?_;refine zat ?_;rintro _ _ ⟨rfl,rfl⟩;refine za ?_;clear hT T;refine yq5 fun T hT=>?_;refine(CallV.fn (hgz _)).mono ?_;rintro _ _ ⟨rfl,rfl⟩;refine za ?_;clear hT T;refine yq6 fun T hT=>?_;refine zE ?_;rintro _ _ ⟨rfl,rfl⟩;refine za ?_;clear hT T;refine yr5 ?_;exact zd
      |false=>
        obtain⟨lx1,lx2⟩:=jaR hgx1
        obtain⟨lz1,lz2⟩:=jaR hgz1
        refine yr3 ?_;refine zf ?_;intro b7;refine yq13 fun T hT=>?_;refine zat ?_;rintro _ _ ⟨rfl,rfl⟩;refine za ?_;clear hT T;refine yq5 fun T hT=>?_;refine(CallV.fn (hgz _)).mono ?_;rintro _ _ ⟨rfl,rfl⟩;refine za ?_;clear hT T;refine yq10 fun T hT=>?_
        have okg:=hX.okg
        have hmx:=fun A=>ja8 (F:=A) hG hX hXn hx hgx1
        unfold wcL at hmx;refine zcm ?_;rintro _ _ ⟨X1,hX1,n1,-,-,rfl,rfl⟩
        have p1:(mixC g long nw x z0).ph=0:=jcU p0
        have T1:CyT g (mixC g long nw x z0):=mix_T okg hX.p.i p0 (hT0 okg)
        obtain⟨z1,hz1⟩: ∃ z1,mixC g long nw x z0=z1:=⟨_,rfl⟩
        rw[hz1] at hX1 p1 T1;clear hX hmx q1 q2 q3 q4 q5 q6 q7 q8 q9 r1 r2 r3 r4 r5
        obtain⟨q1,q2,q3,q4,q5,q6,q7,q8,q9,r1,r2,r3,r4,r5⟩:=hX1.d.c
        rw[hz1];clear hz1;unfold wcH;simp only[List.append_assoc]
        have hA1:CwR R0 g long nw gens 1 X1.y.b X1.y.B.m.b X1.y.B.b X1.y.T.b X1.y.a.b X1.y z1:=⟨hX1.p,rfl,rfl,rfl,rfl,rfl,n1,hX1.gens,hX1.f,hX1.t,hX1.mem⟩
        have hre:=fun A=>jeZ (F:=A) hX1
        have hbq:=fun A=>jd6 (F:=A) hX1.d okg hX1.p.i p1
        have hby:=fun A=>jdl (w0:=w0) (F:=A) hX1.p p1 (Nat.le_trans hX1.f (by decide))
        have hI2:=CyI.begin hX1.p.i p1 T1
        have hs2:=jhk (s:=z1) okg
        have hwd:=okg.words
        have hsl:=okg.slots
        have hF2:FrI g long (RchM g z1.W) z1.A (21*(g.words+z1.W.T.length)) z1.W.T.length (beginC g z1):=⟨jcP okg hlong hX1.p.i p1,by show 1≤1;exact Nat.le_refl 1,hI2,by have:=jdP okg;omega,rfl⟩
        have hF3:=hF2.mix (nw:=nw) (x:=z) okg
        have hF4:=hF3.fin okg
        obtain⟨z2,hz2⟩: ∃ z2,beginC g z1=z2:=⟨_,rfl⟩
        have l2:z2.W.T.length=z1.W.T.length:=by rw[←hz2];rfl
        simp only[hz2] at hbq hby hF3 hF4;clear hz2 hI2 hs2 hF2;unfold kwL at hre;unfold cyL at hbq;refine za ?_;clear hT T;refine yq11 fun T hT=>?_;refine(CallV.part (CallV.fn (hre _)) ja).mono ?_;rintro _ _ ⟨out,o,hol,hoi,hoo,rfl,rfl⟩;refine za ?_;clear hT T;refine yq7 fun T hT=>?_;refine(CallV.part (CallV.fn (jbx hA1)) ja).mono ?_;refine zc ?_;clear hT T;refine zz fun T hT=>?_;refine(CallV.part (CallV.fn (jhn hA1)) ja).mono ?_;rintro _ _ ⟨ta,hta,htaA,rfl,rfl⟩;refine za ?_;clear hT T;refine yq8 fun T hT=>?_;refine(CallV.part (CallV.fn (hby _)) ja).mono ?_;rintro _ _ ⟨rfl,y2,hp2,ht2,rfl⟩;refine za ?_;clear hT T;refine yq10 fun T hT=>?_;refine(CallV.part (CallV.fn (hbq _)) ja).mono ?_;rintro _ _ ⟨d2,N2,hD2,rfl,rfl⟩
        obtain⟨hX2,n2⟩:=hX1.both hp2 ht2 hD2 l2 n1
        have e1:=ht2.b
        have e2:=ht2.mb
        obtain⟨u1,u2,u3,u4,u5,u6,u7,u8,u9,t1,t2,t3,t4,t5⟩:=hD2.c
        have hmz:=fun A=>ja8 (F:=A) hG hX2 n2 hz hgz1
        obtain⟨z3,hz3⟩: ∃ z3,mixC g long nw z z2=z3:=⟨_,rfl⟩
        simp only[hz3] at hmz hF3 hF4;clear hz3;unfold wcL at hmz;dsimp only at hmz;rw[e1,e2] at hmz;unfold wcH at hmz;simp only[List.append_assoc] at hmz;unfold cyL;refine za ?_;clear hT T;refine yq11 fun T hT=>?_;refine(CallV.part (CallV.fn (hmz _)) ja).mono ?_;rintro _ _ ⟨X3,hX3,n3,-,-,rfl,rfl⟩;clear hmz hbq hby hre hX2 hp2 ht2 hD2 q1 q2 q3 q4 q5 q6 q7 q8 q9 r1 r2 r3 r4 r5 u1 u2 u3 u4 u5 u6 u7 u8 u9 t1 t2 t3 t4 t5 e1 e2
        obtain⟨q1,q2,q3,q4,q5,q6,q7,q8,q9,r1,r2,r3,r4,r5⟩:=hX3.d.c
        have hPL:Sli w0 X3.D slE X3.v.L g.L:=hX3.d.A.p.L
        have hTT:Sli w0 X3.D wE X3.d.z.vt (z3.W.T.map docE):=hX3.d.W.T
        have hTl:(z3.W.T.map docE).length=z1.W.T.length:=by rw[List.length_map];exact hF3.n
        obtain⟨pb,hpb⟩: ∃ pb,X3.y.b=pb:=⟨_,rfl⟩
        obtain⟨pm,hpm⟩: ∃ pm,X3.y.B.m.b=pm:=⟨_,rfl⟩
        have hA3:CwR R0 g long nw gens 2 pb pm X3.y.B.b X3.y.T.b X3.y.a.b X3.y z3:=⟨hX3.p,hpb,hpm,rfl,rfl,rfl,n3,hX3.gens,hX3.f,hX3.t,hX3.mem⟩
        rw[hpb,hpm]
        obtain⟨z4,hz4⟩: ∃ z4,(finC g long z3).2=z4:=⟨_,rfl⟩
        have p4:z4.ph=3:=by rw[←hz4];exact jbY okg hX3.p.i (by have:=hF3.p;omega)
        rw[hz4] at hF4
        obtain⟨z5,hz5⟩: ∃ z5,publishC g gens z4=z5:=⟨_,rfl⟩
        have s5 : z5.st ≤ 21 * (g.words + z1.W.T.length) := by have := hF4.K; have e : z5.st = z4.st := by rw [← hz5]; rfl
                                                               omega
        refine za ?_;clear hT T;refine yq10 fun T hT=>?_;refine(CallV.part (CallV.fn (jbM hG hA3 (by have:=hF3.p;omega) rfl hz4)) ja).mono ?_;rintro _ _ ⟨rfl,y4,hA4,rfl⟩;refine za ?_;clear hT T;refine yq6 fun T hT=>?_;refine(CallV.part (CallV.fn (jbx hA4)) ja).mono ?_;refine zc ?_;clear hT T;refine zz fun T hT=>?_;refine(CallV.part (CallV.fn (jhn hA4)) ja).mono ?_;rintro _ _ ⟨th,hth,hthA,rfl,rfl⟩;refine za ?_;clear hT T;refine yq7 fun T hT=>?_;refine(CallV.part (CallV.fn (jce hG hA4 p4 rfl rfl hz5)) ja).mono ?_;rintro _ _ ⟨rfl,y5,hA5,rfl⟩;refine za ?_;clear hT T;refine yq13 fun T hT=>?_;refine(CallV.part (CallV.fn (jct hA5)) ja).mono ?_;rintro _ _ ⟨o5,ko5,rfl,rfl⟩
        obtain⟨m5,hm5⟩: ∃ m5,y5.B.m.R.flatten=m5:=⟨_,rfl⟩
        rw[hm5] at ko5⊢;refine za ?_;clear hT T;refine yr10 ?_;refine K.loopT (σ:=FrA) [(7,_),(9,_),(10,_),(11,_),(14,_),(15,_)] (fun s kp_=>(16, .int .i64 (s.i:Nat))::kp_) (fun s=>oH uE 116 m5 o5++(cycH y5++(jz th++(jz ta++(oH boE 4 out o++(X3.D++((b7,cells (.pointer (some ⟨pm,0,none⟩):: .pointer (some ⟨pb,0,none⟩)::(wcL g long X3 z3).drop 2) 57)::F))))))) (fun s=>s.i≤out.length) (fun s=>out.length-s.i) (⟨0⟩) jg ja (Nat.zero_le _) ?_;rintro⟨i⟩ hi;dsimp only at hi⊢
        by_cases hlt:i<out.length
        · generalize hL2 : (wcL g long X3 z3).drop 2 = L2
          obtain⟨b,hb⟩:=jn hlt
          have hbS:b=true↔RchM g z1.W i:=by have:=hoi i (by omega);rw [hb] at this;simpa using this
          have hbits:=frees_bits hA4.p.i hF4.I p4 gens (t:=i) (by omega) hbS
          rw[hz5] at hbits
          have hh:=fun A=>jc0 (F:=A) (t:=i) (w0:=w0) hA5
          have hg1:=fun A=>Get_K (w0:=w0) (F:=A) (i:=(i:Nat)) hta
          have hg4:=fun A=>Get_K (w0:=w0) (F:=A) (i:=(i:Nat)) hth
          simp only[jcX,htaA,hthA] at hg1 hg4
          obtain⟨a0,ha0⟩: ∃ a0,(z1.A[i]?).getD false=a0:=⟨_,rfl⟩
          obtain⟨a4,ha4⟩: ∃ a4,(z4.A[i]?).getD false=a4:=⟨_,rfl⟩
          obtain⟨a5,ha5⟩: ∃ a5,(z5.A[i]?).getD false=a5:=⟨_,rfl⟩
          rw[ha0] at hg1;rw[ha4] at hg4;rw[ha5] at hh;rw[ha0,ha4,ha5] at hbits;refine yr14 ?_;refine K.cutT (σ:=FrC) [(7,_),(9,_),(10,_),(11,_),(14,_),(15,_),(16,_)] jg (fun s kp_=>(17, .bool s.g)::kp_) (fun s=>oH uE 116 m5 o5++(cycH y5++(jz th++(jz ta++(oH boE 4 out o++(X3.D++((b7,cells (.pointer (some ⟨pm,0,none⟩):: .pointer (some ⟨pb,0,none⟩)::L2) 57)::F))))))) (fun s=>(a0&&!b)=s.g) ?_ ?_
          · cases a0 with
            |false=>
              refine yq3 fun T hT=>?_;refine(CallV.part (CallV.fn (hg1 _)) ja).mono ?_;refine zc ?_;clear hT T;refine yr9 ?_;exact KE.meet ⟨false⟩ jg ja rfl
            |true=>
              cases b with
              |true=>
                refine yq3 fun T hT=>?_;refine(CallV.part (CallV.fn (hg1 _)) ja).mono ?_;refine zc ?_;clear hT T;refine yr14 ?_;exact KE.meet ⟨false⟩ jg ja rfl
              |false=>
                refine yq3 fun T hT=>?_;refine(CallV.part (CallV.fn (hg1 _)) ja).mono ?_;refine zc ?_;clear hT T;refine yr14 ?_;exact KE.meet ⟨true⟩ jg ja rfl
          · rintro ⟨go⟩ hgo
            dsimp only at hgo⊢
            have key:(go=false∧a5=a4)∨(go=true∧a4=true∧a5=false∧jaE g z4.W.x i):=by
              rcases hbits with⟨e0,e5⟩|⟨e0,e1,e4,e5⟩|⟨e0,e1,e4,e5,ez⟩
              ·left;subst e0;exact⟨hgo.symm,e5⟩
              ·left;subst e0 e1 e4 e5;exact⟨hgo.symm,rfl⟩
              ·right;subst e0 e1;exact⟨hgo.symm,e4,e5,ez⟩
            have hzk:go=true→jaE g z4.W.x i:=fun e=>by
              rcases key with⟨k1,_⟩|⟨_,_,_,ez⟩
              ·rw[k1] at e;cases e
              ·exact ez
            refine K.cutT (σ:=Unit) [(7,_),(9,_),(10,_),(11,_),(14,_),(15,_),(16,_),(17,_)] jg (fun s kp_=>kp_) (fun s=>oH uE 116 m5 o5++(cycH y5++(jz th++(jz ta++(oH boE 4 out o++(X3.D++((b7,cells (.pointer (some ⟨pm,0,none⟩):: .pointer (some ⟨pb,0,none⟩)::L2) 57)::F))))))) (fun s=>True) ?_ ?_
            · rcases key with ⟨rfl, e54⟩ | ⟨rfl, rfl, rfl, ez⟩
              · rw [← e54] at hg4
                cases a5 with
                |true=>
                  refine yq4 fun T hT=>?_;refine(CallV.part (CallV.fn (jbx hA5)) ja).mono ?_;refine zc ?_;clear hT T;refine yq1 fun T hT=>?_;refine(CallV.part (CallV.fn (hh _)) ja).mono ?_;refine zc ?_;clear hT T;refine yr1 ?_;refine yq1 fun T hT=>?_;refine(CallV.part (CallV.fn (hg4 _)) ja).mono ?_;refine zc ?_;clear hT T;refine yr23 ?_;exact zbY
                |false=>
                  refine yq4 fun T hT=>?_;refine(CallV.part (CallV.fn (jbx hA5)) ja).mono ?_;refine zc ?_;clear hT T;refine yq1 fun T hT=>?_;refine(CallV.part (CallV.fn (hh _)) ja).mono ?_;refine zc ?_;clear hT T;refine yr1 ?_;refine yq1 fun T hT=>?_;refine(CallV.part (CallV.fn (hg4 _)) ja).mono ?_;refine zc ?_;clear hT T;refine yr21 ?_;exact zbY
              · refine yq4 fun T hT => ?_
                refine(CallV.part (CallV.fn (jbx hA5)) ja).mono ?_;refine zc ?_;clear hT T;refine yq1 fun T hT=>?_;refine(CallV.part (CallV.fn (hh _)) ja).mono ?_;refine zc ?_;clear hT T;refine yr1 ?_;refine yq1 fun T hT=>?_;refine(CallV.part (CallV.fn (hg4 _)) ja).mono ?_;refine zc ?_;clear hT T;refine yq17 fun T hT=>?_;refine(CallV.part (CallV.fn (hg4 _)) ja).mono ?_;refine zc ?_;clear hT T;refine yr9 ?_;exact zbY
            rintro _ _
            obtain⟨q,hq⟩:=Jg (g:=g) (show i<g.slots by omega)
            have hqi:=jl hq
            have hfit:=okg.fits hq
            have hwd:=okg.words
            have hzr: ∀ k,k<q.size→go=true→m5[q.addr+k]?=some 0:=fun k hk e=>by
              rw[←hm5];exact hA5.zero (by rw[show z5.W.x=z4.W.x from by rw[←hz5];rfl];exact hzk e) hq hk
            clear hgo hbits key hzk hh hg1 hg4 hA3 hA4 hA5 hF3 hF4 hX3 hTT hTl hgx hgz hG hawake hbS s5 hC hvc hx hz;subst hL2;simp only[wcL,List.drop_succ_cons,List.drop_zero];refine yr6 ?_;refine K.loopT (σ:=FrB) [(7,_),(9,_),(10,_),(11,_),(14,_),(15,_),(16,_),(17,_)] (fun s kp_=>(18, .int .i64 (s.k:Nat))::kp_) (fun s=>oH uE 116 m5 o5++(cycH y5++(jz th++(jz ta++(oH boE 4 out o++(X3.D++((b7,cells (.pointer (some ⟨pm,0,none⟩):: .pointer (some ⟨pb,0,none⟩)::(wcL g long X3 z3).drop 2) 57)::F))))))) (fun s=>s.k≤q.size) (fun s=>q.size-s.k) (⟨0⟩) jg ja (Nat.zero_le _) ?_;rintro⟨k⟩ hk;dsimp only at hk⊢;simp only[wcL,List.drop_succ_cons,List.drop_zero]
            generalize cycH y5=HC
            generalize jz th=HT
            generalize jz ta=HA
            cases go with
            |false=>
              refine yr32 ?_;exact KE.again ⟨i+1⟩ jg ja hlt (by show out.length-(i+1)<out.length-i;omega)
            |true=>
              by_cases hk2:k<q.size
              · have e5 := hzr k hk2 rfl
                have hlm:=jl e5
                refine yr75 ?_;refine yr8 ?_;exact KE.again ⟨k+1⟩ jg ja hk2 (by show q.size-(k+1)<q.size-k;omega)
              · refine yr44 ?_
                exact KE.again ⟨i+1⟩ jg ja hlt (by show out.length-(i+1)<out.length-i;omega)
        · simp only [wcL, List.drop_succ_cons, List.drop_zero]
          have hTb:(z3.W.T.map docE).length≤60:=by rw[List.length_map];exact hX3.n
          generalize jz th=HT
          generalize jz ta=HA
          have hst5:((z5.st:Nat):Int)≤21*(((g.words:Nat):Int)+(((z3.W.T.map docE).length:Nat):Int)):=by omega
          refine yr16 ?_;refine K.drawn _ [(0,0),(1,0),(2,0),(3,0),(4,0),(6,1),(7,1),(8,1),(9,1),(10,1),(11,1),(12,1),(13,1),(14,1),(15,1),(16,1),(17,1),(18,1),(19,1),(5,2),(20,0),(21,0),(22,0),(23,2),(24,0),(25,0)] (by kernel_rfl) (by kernel_rfl) (by kernel_rfl) (by kernel_rfl) (by kernel_rfl) (by kernel_rfl) Part.all ?_;refine zg ?_;refine zaC ?_;refine zg ?_;refine zac ?_;refine zd0 ?_;refine KD.y1 rfl rfl rfl rfl (Val.fieldAddr (k:=6) rfl rfl) ?_;refine KD.y1 rfl rfl rfl rfl (Val.fieldAddrZ rfl rfl) ?_;refine KD.y1 rfl rfl rfl rfl (Val.fieldAddr (k:=2) rfl rfl) ?_;refine KD.y1 rfl rfl rfl rfl (Val.fieldAddr (k:=3) rfl rfl) ?_;refine za3 ?_;refine zd0 ?_;refine KD.y1 rfl rfl rfl rfl (Val.fieldAddr (k:=6) rfl rfl) ?_;refine KD.y1 rfl rfl rfl rfl (Val.fieldAddr (k:=7) rfl rfl) ?_;refine KD.y1 rfl rfl rfl rfl (Val.fieldAddrZ rfl rfl) ?_;refine za3 ?_;refine KD.y1 rfl rfl rfl rfl (Val.lenSl rfl rfl Jm) ?_;refine KD.y1 rfl rfl rfl rfl (Val.add rfl rfl (by simp only[Go.Proofs.YtldomapkmopomaaGreatDoor.lo,Go.Proofs.YtldomapkmopomaaGreatDoor.hi];omega)) ?_;refine KD.y1 rfl rfl rfl rfl (Val.mul rfl rfl (by simp only[Go.Proofs.YtldomapkmopomaaGreatDoor.lo,Go.Proofs.YtldomapkmopomaaGreatDoor.hi];omega)) ?_;refine zv fun T hT=>?_;refine(CallV.part (CallV.fn (jcH hA5)) ja).mono ?_;refine zl ?_;clear hT T;refine zea ?_;refine zT ?_;refine zv fun T hT=>?_;refine zE ?_;rintro _ _ ⟨rfl,rfl⟩;refine zh ?_;clear hT T;refine zaA ?_;refine zy ?_;refine yr2 ?_;exact zd
end Go.Proofs.YtldomapkmopomaaGreatDoor.Sw
