/-Cycle:CycleTwice:twice,and what is left. -/
import Derived.Test.YtldomapkmopomaaGreatDoorD1
import Derived.Test.YtldomapkmopomaaGreatDoorJ42
namespace Go.Proofs.YtldomapkmopomaaGreatDoor.Sw
set_option maxHeartbeats 8000000 open Go.Proofs.YtldomapkmopomaaGreatDoor renaming lo → qL, hi → qH
open Go.RowKit
set_option linter.unusedVariables false
set_option linter.unusedSimpArgs false
set_option maxRecDepth 10000
structure TwA where
 i:Nat
set_option maxHeartbeats 16000000 in
theorem jhA {w0:World} {F:jb} {c:Cfg} {vc vt vL vS vK:Value} {x:jaj} (hG:jw w0) (hR:j1 w0 F c vc vt) (hC:Sli w0 [] iE vc c.cl) (hvc:vc.oneCell'=true) (hx:J8 w0 x vL vS vK):
  Call Tryz.prog w0 5 [jt c vc vt, .agg [vL,vS,vK].toArray] F (fun r H'=>r= .bool true∧H'=F):=by
 obtain⟨okk,hokk⟩: ∃ okk,okY c=okk:=⟨_,rfl⟩
 have hawake:=fun A=>jcn (w0:=w0) (F:=A) hG
 have hgx:=fun A=>jbD (F:=A) hx
 have ox1:=hx.o1
 have ox2:=hx.o2
 have ox3:=hx.o3
 cases okk with
 |false=>
  have hno:=fun A (hp:Part A F)=>jcm (hR.part hp) hokk
  obtain⟨cl,page,tn,workers,grey,gens⟩:=c
  simp only[jt,jJ] at hno⊢;unfold wc0 cy0 at hno;refine Call.enter2 (n:=73) (by kernel_rfl) Tryz.func5 rfl rfl rfl ?_;refine yr2 ?_;refine zH ?_;intro b2 b3;refine yq6 fun T hT=>?_;refine zbR ?_;rintro _ _ ⟨rfl,rfl⟩;refine za ?_;clear hT T;refine yr3 ?_;refine zf ?_;intro b5;refine yq18 fun T hT=>?_;refine zE ?_;rintro _ _ ⟨rfl,rfl⟩;refine za ?_;clear hT T;refine yr5 ?_;exact zd
 |true=>
  obtain⟨R0,g,long,nw,caps,-,hnw8,hlong,hmade⟩:=jcj hG hR hokk hC hvc
  obtain⟨cl,page,tn,workers,grey,gens⟩:=c
  simp only[jt,jJ] at hmade⊢
  obtain⟨z0,hz0⟩: ∃ z0,newC g caps nw=z0:=⟨_,rfl⟩
  have p0:z0.ph=0:=by rw[←hz0];rfl
  have hT0:je g→CyT g z0:=fun ok=>by rw[←hz0];exact jdI ok
  rw[hz0] at hmade;clear hokk hR hz0
  obtain⟨gx,hgx1⟩: ∃ gx,greatX x=gx:=⟨_,rfl⟩
  simp only[hgx1] at hgx;refine Call.enter2 (n:=73) (by kernel_rfl) Tryz.func5 rfl rfl rfl ?_;refine yr2 ?_;refine zH ?_;intro b2 b3;refine yq6 fun T hT=>?_;refine zbS ?_;rintro _ _ ⟨X,hX,hXn,rfl,rfl⟩
  obtain⟨q1,q2,q3,q4,q5,q6,q7,q8,q9,r1,r2,r3,r4,r5⟩:=hX.d.c
  unfold wcL;refine za ?_;clear hT T
  cases gx with
  |true=>
   refine yr3 ?_;refine zf ?_;intro b5;refine yq13 fun T hT=>?_;refine zat ?_;rintro _ _ ⟨rfl,rfl⟩;refine za ?_;clear hT T;refine yq6 fun T hT=>?_;refine zE ?_;rintro _ _ ⟨rfl,rfl⟩;refine za ?_;clear hT T;refine yr5 ?_;exact zd
  |false=>
   obtain⟨lx1,lx2⟩:=jaR hgx1
   refine yr3 ?_;refine zf ?_;intro b5;refine yq13 fun T hT=>?_;refine zat ?_;rintro _ _ ⟨rfl,rfl⟩;refine za ?_;clear hT T;refine yq12 fun T hT=>?_
   have okg:=hX.okg
   have hmx:=fun A=>ja8 (F:=A) hG hX hXn hx.one (by unfold greatX;simp;omega)
   unfold wcL at hmx;refine zcm ?_;rintro _ _ ⟨X1,hX1,n1,-,-,rfl,rfl⟩
   have p1:(mixC g long nw ⟨x.L,[],[]⟩ z0).ph=0:=jcU p0
   have T1:CyT g (mixC g long nw ⟨x.L,[],[]⟩ z0):=mix_T okg hX.p.i p0 (hT0 okg)
   obtain⟨z1,hz1⟩: ∃ z1,mixC g long nw ⟨x.L,[],[]⟩ z0=z1:=⟨_,rfl⟩
   rw[hz1] at hX1 p1 T1;clear hX hmx q1 q2 q3 q4 q5 q6 q7 q8 q9 r1 r2 r3 r4 r5
   obtain⟨q1,q2,q3,q4,q5,q6,q7,q8,q9,r1,r2,r3,r4,r5⟩:=hX1.d.c
   rw[hz1];clear hz1;unfold wcH;simp only[List.append_assoc]
   obtain⟨pb,hpb⟩: ∃ pb,X1.y.b=pb:=⟨_,rfl⟩
   obtain⟨pm,hpm⟩: ∃ pm,X1.y.B.m.b=pm:=⟨_,rfl⟩
   have hA1:CwR R0 g long nw gens 1 pb pm X1.y.B.b X1.y.T.b X1.y.a.b X1.y z1:=⟨hX1.p,hpb,hpm,rfl,rfl,rfl,n1,hX1.gens,hX1.f,hX1.t,hX1.mem⟩
   rw[hpb,hpm]
   have hre:=fun A=>jeZ (F:=A) hX1
   unfold kwL at hre
   obtain⟨a1,a2,a3,a4⟩:=whole_ok okg hlong hX1.p.i p1 T1 gens
   obtain⟨e1,e2⟩:=jhF okg hlong hX1.p.i p1 T1 gens gens
   obtain⟨z4,hz4⟩: ∃ z4,wholeC g long gens z1=z4:=⟨_,rfl⟩
   have p4:z4.ph=0:=by rw[←hz4];rfl
   obtain⟨z7,hz7⟩: ∃ z7,wholeC g long gens z4=z7:=⟨_,rfl⟩
   rw[hz4] at a1 a2 a3 e1 e2;rw[hz7] at e2
   have hw1:=fun A (L:List Value)=>whole_K (F:=A) (L2:=L) hG hlong hA1 p1 (by decide)
   rw[hz4] at hw1
   obtain⟨fr,hfr⟩: ∃ fr,freedC g long z1=fr:=⟨_,rfl⟩
   rw[hfr] at hw1;refine za ?_;clear hT T;refine yq11 fun T hT=>?_;refine(CallV.part (CallV.fn (hre _)) ja).mono ?_;rintro _ _ ⟨out,o,hol,hoi,hoo,rfl,rfl⟩;refine za ?_;clear hT T;refine yq6 fun T hT=>?_;refine(CallV.part (CallV.fn (hw1 _ _)) ja).mono ?_;rintro _ _ ⟨rfl,y4,hA4,rfl⟩
   have hw4:=fun A (L:List Value)=>whole_K (F:=A) (L2:=L) hG hlong hA4 p4 (by decide)
   rw[hz7,e1] at hw4;refine za ?_;clear hT T;refine yq7 fun T hT=>?_;refine(CallV.part (CallV.fn (jct hA4)) ja).mono ?_;rintro _ _ ⟨o4,ko4,rfl,rfl⟩;refine za ?_;clear hT T;refine yr10 ?_;clear hw1 hre
   obtain⟨m4,hm4⟩: ∃ m4,y4.B.m.R.flatten=m4:=⟨_,rfl⟩
   have hmn:m4.length≤4294967296:=by have:=hA4.p.p.bo.m.n;rw [←hm4];omega
   rw[hm4] at ko4⊢
   have hsl:=okg.slots
   have hbit: ∀ (i:Nat) (b:Bool),out[i]?=some b→(z4.A[i]?).getD false=b:=fun i b hb=>by
    have hlt:=jl hb
    have hA:=a3 i
    have hO:=hoi i (by omega)
    rw[hb] at hO
    cases b with
    |true=>rw [hA.2 (hO.1 rfl)];rfl
    |false=>
     rcases bit_some (l:=z4.A) (t:=i) (by rw[a1.A];omega) with e|e
     ·exact absurd (hO.2 (hA.1 e)) (by simp)
     ·rw[e];rfl
   refine K.loopT (σ:=TwA) [(5,_),(7,_),(8,_),(9,_)] (fun s kp_=>(10, .int .i64 (s.i:Nat))::kp_) (fun s=>oH uE 116 m4 o4++(cycH y4++(oH boE 4 out o++(X1.D++((b5,cells (.pointer (some ⟨pm,0,none⟩):: .pointer (some ⟨pb,0,none⟩)::(wcL g long X1 z1).drop 2) 57)::F))))) (fun s=>s.i≤out.length) (fun s=>out.length-s.i) (⟨0⟩) jg ja (Nat.zero_le _) ?_;rintro⟨i⟩ hi;dsimp only at hi⊢
   by_cases hlt:i<out.length
   ·generalize (wcL g long X1 z1).drop 2=L2
    obtain⟨b,hb⟩:=jn hlt
    have hbb:=hbit i b hb
    have hh:=fun A=>jc0 (F:=A) (t:=i) (w0:=w0) hA4
    rw[hbb] at hh;refine yr15 ?_;refine K.drawn _ [(0,0),(1,0),(3,1),(5,1),(6,1),(7,1),(8,1),(2,2),(4,2),(9,0)] (by kernel_rfl) (by kernel_rfl) (by kernel_rfl) (by kernel_rfl) (by kernel_rfl) (by kernel_rfl) Part.all ?_;refine zB ?_;refine zm ?_;refine zm ?_;refine zm ?_;refine KD.v1 rfl rfl (Val.idxSl rfl rfl rfl (Sli.own jh (by assumption) jG) rfl jr) ?_;refine zc9 ?_;refine zi fun T hT=>?_;refine(CallV.part (CallV.fn (jbx hA4)) ja).mono ?_;refine zl ?_;clear hT T;refine zi fun T hT=>?_;refine(CallV.part (CallV.fn (hh _)) ja).mono ?_;refine zl ?_;clear hT T;refine KD.v0 rfl rfl (Val.neqB rfl rfl rfl) ?_;refine zp ?_;refine yr1 ?_;rw[jdn];refine K.condF rfl (K.skip ?_);refine KE.blkN ?_;refine KE.next (K.region ?_);refine KL.v rfl (Val.move rfl) ?_;refine KL.v rfl (Val.add rfl rfl (by simp only[Go.Proofs.YtldomapkmopomaaGreatDoor.lo,Go.Proofs.YtldomapkmopomaaGreatDoor.hi];omega)) ?_;refine KL.v rfl (Val.assign rfl) ?_;refine KL.nil ?_;exact KE.again ⟨i+1⟩ jg ja hlt (by show out.length-(i+1)<out.length-i;omega)
   ·simp only[wcL,List.drop_succ_cons,List.drop_zero];refine yq23 fun T hT=>?_;refine(CallV.part (CallV.fn (hw4 _ _)) ja).mono ?_;rintro _ _ ⟨rfl,y7,hA7,rfl⟩
    have hm7:y7.B.m.R.flatten=m4:=by rw[hA7.R,e2,←hm4,hA4.R]
    refine za ?_;clear hT T;refine yq9 fun T hT=>?_;refine(CallV.part (CallV.fn (jct hA7)) ja).mono ?_;rintro _ _ ⟨o7,ko7,rfl,rfl⟩;rw[hm7] at ko7⊢;refine za ?_;clear hT T;refine yq3 fun T hT=>?_;refine(CallV.fn (Same3_K (l:=m4) (m:=m4) (Sli.own jh ko7 rfl) (Sli.own jh ko4 rfl) hmn)).mono ?_;rintro _ _ ⟨rfl,rfl⟩;rw[decide_eq_true rfl];refine za ?_;clear hT T;refine yq3 fun T hT=>?_;refine zE ?_;rintro _ _ ⟨rfl,rfl⟩;refine za ?_;clear hT T;refine yr5 ?_;exact zd
end Go.Proofs.YtldomapkmopomaaGreatDoor.Sw
