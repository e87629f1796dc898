/-Cycle:CycleNone:no cycle. -/
import Derived.Test.YtldomapkmopomaaGreatDoorJ45
import Derived.Test.YtldomapkmopomaaGreatDoorD1
import Derived.Test.YtldomapkmopomaaGreatDoorJ51
import Derived.Test.YtldomapkmopomaaGreatDoorJ52
import Derived.Test.YtldomapkmopomaaGreatDoorJ46
namespace Go.Proofs.YtldomapkmopomaaGreatDoor.Sw
set_option maxHeartbeats 8000000 open Go.Proofs.YtldomapkmopomaaGreatDoor renaming lo → qL, hi → qH
open Go.RowKit
set_option linter.unusedVariables false
set_option linter.unusedSimpArgs false
set_option maxRecDepth 10000
set_option maxHeartbeats 16000000 in
theorem jhT {w0:World} {F:jb} {c o:Cfg} {vc vt wc wt:Value} {x:J6} (hG:jw w0) (hR:j1 w0 F c vc vt) (hRo:j1 w0 F o wc wt) (hC:Sli w0 [] iE vc c.cl) (hvc:vc.oneCell'=true) (hwc:wc.oneCell'=true) (hu:x.u<256):
  Call Tryz.prog w0 3 [jt c vc vt,jt o wc wt, .agg (stpL x).toArray] F (fun r H'=>r= .bool true∧H'=F):=by
 obtain⟨okk,hokk⟩: ∃ okk,okY c=okk:=⟨_,rfl⟩
 have hawake:=fun A=>jcn (w0:=w0) (F:=A) hG
 obtain⟨xh,xu⟩:=x
 unfold stpL;dsimp only at hu⊢
 cases okk with
 |false=>
  have hno:=fun A (hp:Part A F)=>jcm (hR.part hp) hokk
  obtain⟨cl,page,tn,workers,grey,gens⟩:=c
  obtain⟨ol,opage,otn,oworkers,ogrey,ogens⟩:=o
  simp only[jt,jJ] at hno⊢;unfold wc0 cy0 at hno;refine Call.enter3 (n:=253) (by kernel_rfl) Tryz.func3 rfl rfl rfl ?_;refine yr2 ?_;refine zbU ?_;intro b3 b4 b5;refine yq6 fun T hT=>?_;refine zbR ?_;rintro _ _ ⟨rfl,rfl⟩;refine za ?_;clear hT T;refine yr3 ?_;refine zf ?_;intro b7;refine yq14 fun T hT=>?_;refine zE ?_;rintro _ _ ⟨rfl,rfl⟩;refine za ?_;clear hT T;refine yr5 ?_;exact zd
 |true=>
  have hcp:jT c=true:=by
   have h:=hokk
   unfold okY at h;simp only[Bool.and_eq_true,decide_eq_true_eq] at h;exact h.1.2.2
  have hcfg:=jar hcp
  have htn:thereP c ((c.tn.length:Nat):Int) 0=false:=by
   unfold thereP;rw[hcp]
   have:JX [0,((c.tn.length:Nat):Int),(c.tn.length:Nat)-1,0,0,(c.cl.length:Nat)-1]=false:=by
    simp only[JX,Bool.and_eq_false_iff,decide_eq_false_iff_not]
    omega
   rw[this];rfl
  have ht0:thereP c 0 0=true:=jaS (i:=0) (j:=0) hcp (by have:=hcfg.tn;omega) (by have:=hcfg.cl;omega)
  obtain⟨R0,g,long,nw,caps,hgc,hnw8,hlong,hmade⟩:=jcj hG hR hokk hC hvc
  have hreg:regionP c 0=(((g.words:Nat):Int),0):=by rw[hgc];exact(g_at ht0).region
  obtain⟨bt,hbt⟩: ∃ bt,thereP o 0 0=bt:=⟨_,rfl⟩
  obtain⟨rn,re,hrn⟩: ∃ rn re,regionP o 0=(rn,re):=⟨_,_,rfl⟩
  have hro:(bt=false→re=2)∧(bt=true→rn=(((gOf o 0).words:Nat):Int)∧re=0):=by
   constructor
   ·intro e;rw[e] at hbt;unfold regionP at hrn;rw[hbt] at hrn;exact(congrArg Prod.snd hrn).symm
   ·intro e;rw[e] at hbt
    have:=(g_at hbt).region
    rw[hrn] at this;exact⟨congrArg Prod.fst this,congrArg Prod.snd this⟩
  have c1:=fun A=>cyNew_nil (w0:=w0) (F:=A) (c:=c) (vc:=vc) (vt:=vt)
  have c2: ∀ H {y s} (h:CpR g long y s) (hm:y.B.m.R=R0.set 0 s.W.x),Part H (cycH y++F)→Call Tryz.prog w0 12 [jt c vc vt, .int .i64 ((c.tn.length:Nat):Int), .pointer (some ⟨y.B.m.b,0,none⟩)] H (fun r H'=>r= .tuple [.pointer none, .int .i64 2].toArray∧H'=H):=fun H {y s} h hm hp=>
   Call.ro (A:=cycH y++F) (fun A=>by rw[List.append_assoc];exact cyNew_no2 (F:=F++A) h hm (hR.part ja) htn) hp
  have c3:=fun A (hp:Part A F)=>jcE (t:=0) (hRo.part hp)
  have c4:=fun A (hp:Part A F)=>jcE (t:=0) (hR.part hp)
  have c5:=fun A (hp:Part A F)=>Small_K (hRo.part hp)
  have c6: ∀ H {y s} (h:CpR g long y s) (hm:y.B.m.R=R0.set 0 s.W.x) (h0:s.W.x=List.replicate g.words 0) (ht:thereP o 0 0=true),Part H (cycH y++F)→Call Tryz.prog w0 12 [jt o wc wt, .int .i64 0, .pointer (some ⟨y.B.m.b,0,none⟩)] H (fun r H'=>(∃ v:Value,r= .tuple [v, .int .i64 (if (gOf o 0).words=g.words then 0 else 2)].toArray)∧H'=H):=fun H {y s} h hm h0 ht hp=>
   Call.ro (A:=cycH y++F) (R:=fun r=> ∃ v:Value,r= .tuple [v, .int .i64 (if (gOf o 0).words=g.words then 0 else 2)].toArray) (fun A=>by rw[List.append_assoc];exact(cyNew_any (F:=F++A) hG h hm h0 (hRo.part ja) ht).mono (by rintro _ _ ⟨v,h1,h2⟩;exact⟨⟨v,h1⟩,h2⟩)) hp
  simp only[hreg] at c4;simp only[hrn] at c3
  obtain⟨gw,hgw⟩: ∃ gw,(gOf o 0).words=gw:=⟨_,rfl⟩
  obtain⟨so,hso⟩: ∃ so,smallP o=so:=⟨_,rfl⟩
  simp only[hgw] at c6 hro;simp only[hso] at c5;rw[hbt] at c6
  have hTn:=hR.tn
  have hTo:=hRo.tn
  have l1:=hR.len1
  have l2:=hR.len2
  clear hreg hrn hcfg ht0 hgc htn hcp hbt hgw hso hR hRo
  obtain⟨cl,page,tn,workers,grey,gens⟩:=c
  obtain⟨ol,opage,otn,oworkers,ogrey,ogens⟩:=o
  simp only[jt,jJ,prV] at hmade c1 c2 c3 c4 c5 c6⊢;dsimp only at hTn hTo l1 l2
  obtain⟨z0,hz0⟩: ∃ z0,newC g caps nw=z0:=⟨_,rfl⟩
  have p0:z0.ph=0:=by rw[←hz0];rfl
  have x0:z0.W.x=List.replicate g.words 0:=by rw[←hz0];rfl
  rw[hz0] at hmade;clear hokk hz0;refine Call.enter3 (n:=253) (by kernel_rfl) Tryz.func3 rfl rfl rfl ?_;refine yr2 ?_;refine zbU ?_;intro b3 b4 b5;refine yq6 fun T hT=>?_;refine zbS ?_;rintro _ _ ⟨X,hX,hXn,rfl,rfl⟩
  obtain⟨q1,q2,q3,q4,q5,q6,q7,q8,q9,r1,r2,r3,r4,r5⟩:=hX.d.c
  have okg:=hX.okg
  have hsl:=okg.slots
  have c2:=fun A=>c2 A hX.p hX.mem
  have c6:=fun A=>c6 A hX.p hX.mem x0
  have hA:CwR R0 g long nw gens 1 X.y.b X.y.B.m.b X.y.B.b X.y.T.b X.y.a.b X.y z0:=⟨hX.p,rfl,rfl,rfl,rfl,rfl,hXn,hX.gens,hX.f,hX.t,hX.mem⟩
  have hva:Sli w0 X.D boE X.d.va z0.A:=hX.d.A.a
  have hAl:z0.A.length=g.slots:=hX.p.i.A
  unfold wcL wcH;simp only[List.append_assoc];refine za ?_;clear hT T;refine yr3 ?_;refine zf ?_;intro b7;refine yq17 fun T hT=>?_;refine(CallV.fn (c1 _)).mono ?_;rintro _ _ ⟨rfl,rfl⟩;refine za ?_;clear hT T;refine yq15 fun T hT=>?_;refine(CallV.fn (c2 _ ja)).mono ?_;rintro _ _ ⟨rfl,rfl⟩;refine za ?_;clear hT T;refine yq10 fun T hT=>?_;refine(CallV.fn (c3 _ ja)).mono ?_;rintro _ _ ⟨rfl,rfl⟩;refine za ?_;clear hT T;refine yq10 fun T hT=>?_;refine(CallV.fn (c4 _ ja)).mono ?_;rintro _ _ ⟨rfl,rfl⟩;refine za ?_;clear hT T;refine yr7 ?_;refine K.cutT (σ:=Unit) [(5,_),(7,_),(10,_),(12,_)] jg (fun s kp_=>kp_) (fun s=>cycH X.y++(X.D++((b7,cells (wcL g long X z0) 57)::(b5,cells [.int .i64 xh, .int .u8 (xu:Nat)] 27)::F))) (fun s=>True) ?_ ?_
  ·cases bt with
   |false=>
    obtain rfl:=hro.1 rfl
    refine yr12 ?_;exact zbY
   |true=>
    obtain⟨rfl,rfl⟩:=hro.2 rfl
    cases so with
    |false=>
     refine yq8 fun T hT=>?_;refine(CallV.fn (c5 _ ja)).mono ?_;rintro _ _ ⟨rfl,rfl⟩;refine za ?_;clear hT T;refine yr5 ?_;exact zbY
    |true=>
     by_cases e:gw=g.words
     ·subst e;refine yq8 fun T hT=>?_;refine(CallV.fn (c5 _ ja)).mono ?_;rintro _ _ ⟨rfl,rfl⟩;refine za ?_;clear hT T;refine yq9 fun T hT=>?_;refine(CallV.fn (c6 _ rfl ja)).mono ?_;rintro _ _ ⟨⟨v,rfl⟩,rfl⟩;rw[if_pos rfl];refine za ?_;clear hT T;refine yr31 ?_;exact zbY
     ·have e':((gw:Nat):Int)≠((g.words:Nat):Int):=by omega
      refine yq8 fun T hT=>?_;refine(CallV.fn (c5 _ ja)).mono ?_;rintro _ _ ⟨rfl,rfl⟩;refine za ?_;clear hT T;refine yq9 fun T hT=>?_;refine(CallV.fn (c6 _ rfl ja)).mono ?_;rintro _ _ ⟨⟨v,rfl⟩,rfl⟩;rw[if_neg e];refine za ?_;clear hT T;refine yr33 ?_;exact zbY
  ·rintro _ _;unfold wcL
   have hhas:=fun A=>jc3 (w0:=w0) (F:=A) (n:=0) hX.d.A.p okg
   unfold plL at hhas;rw[decide_eq_true (show(0:Int)≤0∧(0:Int)<(g.slots:Nat) by omega)] at hhas
   have hst:stepC g long nw z0 xh (xu:Nat)=none:=by unfold stepC;rw [if_neg (by omega),if_neg (by omega)]
   have hhe:helpC g long z0=none:=by unfold helpC;rw [if_neg (by omega),if_neg (by omega)]
   have hsh:shdC g long z0 ((0:Nat):Int)=z0:=by unfold shdC;rw [if_neg (by omega)]
   refine yq4 fun T hT=>?_;refine(CallV.part (CallV.fn (jgq hA p0)) ja).mono ?_;refine zc ?_;clear hT T;refine yq38 fun T hT=>?_;refine(CallV.part (CallV.fn (jer (b:=false) (s':=z0) (hd:=xh) (v:=(xu:Nat)) hG hA (by omega) (by rw[hst];rfl) (by rw[hst];rfl))) ja).mono ?_;rintro _ _ ⟨rfl,y1,hA1,rfl⟩;refine za ?_;clear hT T;refine yq7 fun T hT=>?_;refine(CallV.part (CallV.fn (jfL (b:=false) (s':=z0) hG hA1 (by rw[hhe];rfl) (by rw[hhe];rfl))) ja).mono ?_;rintro _ _ ⟨rfl,y2,hA2,rfl⟩;refine za ?_;clear hT T;refine yq7 fun T hT=>?_;refine(CallV.part (CallV.fn (awShadeE_K (j:= -1) hA2 (by omega))) ja).mono ?_;refine zc ?_;clear hT T;refine yq19 fun T hT=>?_;refine(CallV.part (CallV.fn (awBlackE_K (j:=((z0.A.length:Nat):Int)) hA2 (by omega))) ja).mono ?_;refine zc ?_;clear hT T;refine yq9 fun T hT=>?_;refine(CallV.part (CallV.fn (awShade_K (t:=0) hA2 (by omega) hsh)) ja).mono ?_;rintro _ _ ⟨rfl,y3,hA3,rfl⟩;refine za ?_;clear hT T;refine yq15 fun T hT=>?_;refine(CallV.part (CallV.fn (hhas _)) ja).mono ?_;refine zc ?_;clear hT T;refine yr16 ?_;refine ze ?_;intro b153;refine yq6 fun T hT=>?_
   have Z1:=fun A=>ycpubZ_K (w0:=w0) (F:=A) (zb:=b153)
   have Z2:=fun A=>ycdoomZ_K (w0:=w0) (F:=A) (zb:=b153)
   have Z3:=fun A=>ycshadeZ_K (w0:=w0) (F:=A) (zb:=b153) (k:=0)
   have Z4:=fun A=>ychelpZ_K (w0:=w0) (F:=A) (zb:=b153)
   have Z5:=fun A=>ycarenaZ_K (w0:=w0) (F:=A) (zb:=b153)
   have Z6:=fun A=>yctableZ_K (w0:=w0) (F:=A) (zb:=b153)
   have Z7:=fun A=>ycstepsZ_K (w0:=w0) (F:=A) (zb:=b153)
   simp only[zcH_app] at Z1 Z2 Z3 Z4 Z5 Z6 Z7;refine(CallV.fn (ycfin0_K)).mono ?_;rintro _ _ ⟨rfl,rfl⟩;refine za ?_;clear hT T;refine yq10 fun T hT=>?_;refine(CallV.part (CallV.fn (Z1 _)) ja).mono ?_;refine zc ?_;clear hT T;refine yq12 fun T hT=>?_;refine(CallV.fn (ycof0_K)).mono ?_;rintro _ _ ⟨rfl,rfl⟩;refine za ?_;clear hT T;refine yq15 fun T hT=>?_;refine(CallV.part (CallV.fn (Z2 _)) ja).mono ?_;refine zc ?_;clear hT T;refine yq21 fun T hT=>?_;refine(CallV.fn (ycbegin0_K)).mono ?_;rintro _ _ ⟨rfl,rfl⟩;refine za ?_;clear hT T;refine yq7 fun T hT=>?_;refine(CallV.part (CallV.fn (Z3 _)) ja).mono ?_;refine zc ?_;clear hT T;refine yq7 fun T hT=>?_;refine(CallV.fn (ycblack0_K)).mono ?_;rintro _ _ ⟨rfl,rfl⟩;refine za ?_;clear hT T;refine yq15 fun T hT=>?_;refine(CallV.fn (ycstep0_K)).mono ?_;rintro _ _ ⟨rfl,rfl⟩;refine za ?_;clear hT T;refine yq7 fun T hT=>?_;refine(CallV.part (CallV.fn (Z4 _)) ja).mono ?_;refine zc ?_;clear hT T;refine yq7 fun T hT=>?_;refine(CallV.fn (ycplan0_K)).mono ?_;rintro _ _ ⟨rfl,rfl⟩;refine za ?_;clear hT T;refine yq7 fun T hT=>?_;refine(CallV.part (CallV.fn (Z5 _)) ja).mono ?_;refine zc ?_;clear hT T;refine yq7 fun T hT=>?_;refine(CallV.fn (ycbody0_K)).mono ?_;rintro _ _ ⟨rfl,rfl⟩;refine za ?_;clear hT T;refine yq7 fun T hT=>?_;refine(CallV.part (CallV.fn (Z6 _)) ja).mono ?_;refine zc ?_;clear hT T;refine yq7 fun T hT=>?_;refine(CallV.fn (ycpins0_K)).mono ?_;rintro _ _ ⟨rfl,rfl⟩;refine za ?_;clear hT T;refine yq7 fun T hT=>?_;refine(CallV.fn (jgr)).mono ?_;rintro _ _ ⟨rfl,rfl⟩;refine za ?_;clear hT T;refine yq7 fun T hT=>?_;refine(CallV.part (CallV.fn (Z7 _)) ja).mono ?_;refine zc ?_;clear hT T;refine yq5 fun T hT=>?_;refine zE ?_;rintro _ _ ⟨rfl,rfl⟩;refine za ?_;clear hT T;refine yr5 ?_;exact zd
end Go.Proofs.YtldomapkmopomaaGreatDoor.Sw
