/-The walker and the contracts that the law needs,part 34. -/
import Derived.Test.YtldomapkmopomaaGreatDoorD1
import Derived.ArgAppend
import Derived.ChangeMaps5
import Derived.Deep.Fields
import Derived.Deep.LoopGhost
import Derived.Deep.OwnRows
import Derived.Deep.Quiet
import Derived.Deep.Slices
import Derived.IntWalk
import Derived.Laws.Cells
import Derived.Laws.CopyOwn
import Derived.Laws.Externs
import Derived.Laws.FloatArith
import Derived.Laws.IdiomStrings
import Derived.Laws.NewFold
import Derived.Laws.StructEq
import Derived.Lib.BitFns
import Derived.Lib.Hide
import Derived.Lib.SmallJoins
import Derived.Lib.TrailingZeros
import Derived.Maps.RangeRun
import Derived.OrdersIn
import Derived.ProofKit
import Derived.RangeFuncBound
import Derived.RangeFuncCalls
import Derived.RangeFuncLeaves
import Derived.RangeFuncNested
import Derived.RecoverIn
import Derived.Shelf.Bits.Mul64
import Derived.Shelf.Slices.Turned
import Derived.Shelf.Spec.TrailingZeros
import Derived.Shelf.Strconv.Itoa0
import Derived.SizedLaws
import Derived.Sort.BigQuietIn
import Derived.StillTailTactics
import Derived.Test.YtldomapkmopomaaGreatDoorProg
import Derived.WalkKit
import Derived.Test.YtldomapkmopomaaGreatDoorJ29
set_option linter.unusedVariables false set_option linter.unusedSimpArgs false namespace Go.Proofs.YtldomapkmopomaaGreatDoor.Sw
set_option maxHeartbeats 8000000
open Go.Proofs.YtldomapkmopomaaGreatDoor renaming lo → qL, hi → qH
open Go.RowKit
set_option linter.unusedVariables false
set_option linter.unusedSimpArgs false
set_option maxRecDepth 10000
def KmO (w0:World) (D F:jb) (v:PlV) (g:PlG) (long:Nat) (m:MaP) (o:Option MaP) (r:Value) (H':jb):Prop:=
 ∃ (q':KmV) (N:jb),KmD w0 (N++D) q' (o.getD m)∧r= .tuple [.agg (kmL v g long q' (o.getD m)).toArray, .bool o.isSome].toArray∧H'=N++(D++F)
section
variable {w0 : World} {D F : jb} {v : PlV} {g : PlG} {long : Nat} {q : KmV} {m : MaP} {W : MwP}
set_option maxHeartbeats 1000000 in
theorem rktake_K {i:Nat} (hP:J3 w0 D v g) (ok:je g) (hK:KmD w0 D q m) (hm:jv g long W m) (hlg:long≤64) (hi:i<m.hs.length):
  Call Tryz.prog w0 275 [.agg (kmL v g long q m).toArray, .int .i64 (i:Nat)] (D++F) (KmO w0 D F v g long m (takeM m i)):=by
 have q1:=hP.oL
 have q2:=hP.oF
 have q3:=hP.oM
 have q4:=hP.oC
 have q5:=hK.G.o1
 have q6:=hK.G.o2
 have q7:=hK.G.o3
 have q8:=hK.oc
 have q9:=hK.oh
 have hH:=hK.H
 obtain⟨h,hh⟩:=jn hi
 have hha:=jal hh
 have hnx:=fun A=>ryNext_K (w0:=w0) (D:=D) (F:=A) hP hK.G hm.G ok hlg
 unfold gyL at hnx;unfold KmO
 obtain⟨hsl,hfi,his⟩:=h
 cases his with
 |true=>
  have hmn:takeM m i=none:=by unfold takeM;rw [hha];rfl
  rw[hmn];simp only[Option.isSome,Option.getD];unfold kmL;refine Call.enter2 (n:=33) (by kernel_rfl) Tryz.func275 rfl rfl rfl ?_;refine yr2 ?_;refine zj ?_;intro b2 b4;refine yr24 ?_;exact za7
 |false=>
  unfold kmL;refine Call.enter2 (n:=33) (by kernel_rfl) Tryz.func275 rfl rfl rfl ?_;refine yr2 ?_;refine zj ?_;intro b2 b4;refine yq21 fun T hT=>?_;refine(CallV.part (CallV.fn (hnx _)) ja).mono ?_;rintro _ _ (⟨hq,rfl,rfl⟩|⟨s,qq,u',N1,hq,hG',rfl,rfl⟩)
  ·have hmn:takeM m i=none:=by unfold takeM;rw [hha,if_neg (by simp),hq]
   refine za ?_;clear hT T;rw[hmn];simp only[Option.isSome,Option.getD];refine yr4 ?_;refine zf ?_;intro b6;refine yr22 ?_;exact za7
  ·have hmn:takeM m i=some {m with G:={m.G with q:=qq},hs:=m.hs.set i ⟨(s:Nat),0,true⟩}:=by unfold takeM;rw [hha,if_neg (by simp),hq]
   have p5:=hG'.o1
   have p6:=hG'.o2
   have p7:=hG'.o3
   have hG1:JR g long {m.G with q:=qq}:=⟨fun s hs=>hm.G.q s (by rw[hq];exact List.mem_cons_of_mem _ hs),by have:=hm.G.ql;rw [hq] at this;simp at this⊢;omega,hm.G.ow,hm.G.di,hm.G.pg,hm.G.no,hm.G.od⟩
   have hK1:KmD w0 (N1++D) ⟨q.c,u',q.h⟩ {m with G:={m.G with q:=qq}}:=⟨hK.C.part ja,hG',hK.H.part ja,q8,q9⟩
   have hm1:jv g long W {m with G:={m.G with q:=qq}}:=⟨hm.C,hm.c,hG1,hm.hs,hm.h,hm.root⟩
   have hhe:=fun A=>jds (w0:=w0) (D:=N1++D) (F:=A) (h:=⟨(s:Nat),0,true⟩) (hP.part ja) hK1 hm1 hi
   unfold KmG id kmL at hhe;dsimp only at hhe;refine za ?_;clear hT T;rw[hmn];simp only[Option.isSome,Option.getD];refine yr4 ?_;refine zf ?_;intro b6;refine yq28 fun T hT=>?_;refine(CallV.part (CallV.fn (hhe _)) (by rw[List.append_assoc];exact ja)).mono ?_;rintro _ _ ⟨q',N2,hK2,rfl,rfl⟩
   have r5:=hK2.G.o1
   have r6:=hK2.G.o2
   have r7:=hK2.G.o3
   have r8:=hK2.oc
   have r9:=hK2.oh
   refine za ?_;clear hT T;refine yr5 ?_;exact zfM
set_option maxHeartbeats 1000000 in
theorem rkwalk_K {i:Nat} (hP:J3 w0 D v g) (ok:je g) (hK:KmD w0 D q m) (hm:jv g long W m) (hlg:long≤64) (hi:i<m.hs.length):
  Call Tryz.prog w0 277 [.agg (kmL v g long q m).toArray, .int .i64 (i:Nat)] (D++F) (KmO w0 D F v g long m (walkM g m i)):=by
 have q1:=hP.oL
 have q2:=hP.oF
 have q3:=hP.oM
 have q4:=hP.oC
 have q5:=hK.G.o1
 have q6:=hK.G.o2
 have q7:=hK.G.o3
 have q8:=hK.oc
 have q9:=hK.oh
 have hH:=hK.H
 obtain⟨h,hh⟩:=jn hi
 have hha:=jal hh
 have hwk:=fun A=>ryWalk_K (w0:=w0) (D:=D) (F:=A) hP hK.G hm.G ok hlg
 unfold gyL at hwk;unfold KmO
 obtain⟨hsl,hfi,his⟩:=h
 cases his with
 |true=>
  have hmn:walkM g m i=none:=by unfold walkM;rw [hha];rfl
  rw[hmn];simp only[Option.isSome,Option.getD];unfold kmL;refine Call.enter2 (n:=37) (by kernel_rfl) Tryz.func277 rfl rfl rfl ?_;refine yr2 ?_;refine zj ?_;intro b2 b4;refine yr24 ?_;exact za7
 |false=>
  unfold kmL;refine Call.enter2 (n:=37) (by kernel_rfl) Tryz.func277 rfl rfl rfl ?_;refine yr2 ?_;refine zj ?_;intro b2 b4;refine yq21 fun T hT=>?_;refine(CallV.part (CallV.fn (hwk _)) ja).mono ?_;rintro _ _ (⟨hq,rfl,rfl⟩|⟨o,G',u',N1,hq,hG',rfl,rfl⟩)
  ·have hmn:walkM g m i=none:=walkM_no hq
   refine za ?_;clear hT T;rw[hmn];simp only[Option.isSome,Option.getD];refine yr5 ?_;refine zf ?_;intro b6;refine yr23 ?_;exact za7
  ·have hmn:walkM g m i=some (wtM m i o G'):=jgs (by rw[hha]) hq
   have p5:=hG'.o1
   have p6:=hG'.o2
   have p7:=hG'.o3
   obtain⟨j,Gj,hop,hw1⟩: ∃ j Gj,openG m.G=some (j,Gj)∧walk1 g j Gj=(o,G'):=by
    unfold walkG at hq
    cases ho:openG m.G with
    |none=>rw [ho] at hq;cases hq
    |some x=>rw [ho] at hq;exact⟨x.1,x.2,rfl,by simpa using hq⟩
   obtain⟨hGj,hpj,_⟩:=jdf ok hm.G hop
   have hG1:JR g long G':=by have:=(walk1_ok ok hGj hpj).1;rw [hw1] at this;exact this
   have hK1:KmD w0 (N1++D) ⟨q.c,u',q.h⟩ {m with G:=G'}:=⟨hK.C.part ja,hG',hK.H.part ja,q8,q9⟩
   have hm1:jv g long W {m with G:=G'}:=⟨hm.C,hm.c,hG1,hm.hs,hm.h,hm.root⟩
   cases o with
   |none=>
    unfold nxI;dsimp only[Option.isSome,Option.getD];refine za ?_;clear hT T;rw[hmn];simp only[Option.isSome,Option.getD,wtM];refine yr5 ?_;refine zf ?_;intro b6;refine yr40 ?_;exact KE.fin jd rfl jc ja ⟨⟨q.c,u',q.h⟩,N1,hK1,rfl,rfl⟩
   |some s=>
    have hhe:=fun A=>jds (w0:=w0) (D:=N1++D) (F:=A) (h:=⟨(s:Nat),0,true⟩) (hP.part ja) hK1 hm1 hi
    unfold KmG id kmL at hhe;dsimp only at hhe;unfold nxI;dsimp only[Option.isSome,Option.getD];refine za ?_;clear hT T;rw[hmn];simp only[Option.isSome,Option.getD,wtM];refine yr5 ?_;refine zf ?_;intro b6;refine yq35 fun T hT=>?_;refine(CallV.part (CallV.fn (hhe _)) (by rw[List.append_assoc];exact ja)).mono ?_;rintro _ _ ⟨q',N2,hK2,rfl,rfl⟩
    have r5:=hK2.G.o1
    have r6:=hK2.G.o2
    have r7:=hK2.G.o3
    have r8:=hK2.oc
    have r9:=hK2.oh
    refine za ?_;clear hT T;refine yr11 ?_;exact zfM
end
set_option maxRecDepth 10000
structure KwV where
 vr:Value
 vt:Value
 vn:Value
 R:List RwD
 gens:Int
def kwL (v:PlV) (g:PlG) (z:KwV):List Value:=[z.vr, .int .i64 ((0:Nat):Int),v.L,v.F,v.M, .int .i64 (g.words:Nat),v.C,z.vt, .int .i64 z.gens,z.vn]
structure KwD (w0:World) (D:jb) (v:PlV) (g:PlG) (z:KwV) (W:MwP):Prop where
 B:BoD w0 D v z.vr g z.R
 f:BoF g z.R 0 W.x
 T:Sli w0 D wE z.vt (W.T.map docE)
 N:Sli w0 D iE z.vn W.N
 oT:z.vt.oneCell'=true
 oN:z.vn.oneCell'=true
 w:Jb g W
 rf:jap g W.x
 st:StOk W.T
theorem KwD.part {w0:World} {D D':jb} {v:PlV} {g:PlG} {z:KwV} {W:MwP} (h:KwD w0 D v g z W) (hp:Part D' D):KwD w0 D' v g z W:=⟨h.B.part hp,h.f,h.T.part hp,h.N.part hp,h.oT,h.oN,h.w,h.rf,h.st⟩
section
variable {w0 : World} {D F : jb} {v : PlV} {g : PlG} {long : Nat} {q : KmV} {m : MaP} {W : MwP} {z : KwV}
theorem jg1 (hW:KwD w0 D v g z W):
  Call Tryz.prog w0 303 [.agg (kwL v g z).toArray] (D++F) (fun r H'=>r= .int .i64 ((W.T.length+g.slots:Nat):Int)∧H'=D++F):=by
 have q1:=hW.B.p.oL
 have q2:=hW.B.p.oF
 have q3:=hW.B.p.oM
 have q4:=hW.B.p.oC
 have q5:=hW.B.m.o
 have q6:=hW.oT
 have q7:=hW.oN
 have hT:=hW.T
 have hL:=hW.B.p.L
 have hll:=jah (g:=g)
 have hsl:=hW.f.ok.slots
 have htl:(W.T.map docE).length=W.T.length:=List.length_map ..
 have h1024:=hW.st.1
 have e:(((W.T.map docE).length:Nat):Int)+((g.L.length:Nat):Int)=((W.T.length+g.slots:Nat):Int):=by omega
 unfold kwL;refine Call.enter1 (n:=13) (by kernel_rfl) Tryz.func303 rfl rfl rfl ?_;refine yr2 ?_;refine ze ?_;intro b1;refine yr19 ?_;rw[e];exact zd
set_option maxHeartbeats 1000000 in
theorem rkroot_K (ok:je g) (hK:KmD w0 D q m) (hm:jv g long W m) (hlg:long≤64) (hW:KwD w0 D v g z W):
  Call Tryz.prog w0 274 [.agg (kmL v g long q m).toArray, .agg (kwL v g z).toArray] (D++F) (KmO w0 D F v g long m (rootM g long W m)):=by
 have hP:=hW.B.p
 have q1:=hP.oL
 have q2:=hP.oF
 have q3:=hP.oM
 have q4:=hP.oC
 have q5:=hK.G.o1
 have q6:=hK.G.o2
 have q7:=hK.G.o3
 have q8:=hK.oc
 have q9:=hK.oh
 have r5:=hW.B.m.o
 have r6:=hW.oT
 have r7:=hW.oN
 have hT:=hW.T
 have hN:=hW.N
 have hNl:=hW.w.N
 have hsl:=ok.slots
 have htl:(W.T.map docE).length=W.T.length:=List.length_map ..
 have h1024:=hW.st.1
 have hroots:=fun A=>jg1 (w0:=w0) (F:=A) hW
 have hrt:=hm.root
 unfold kwL at hroots⊢;unfold KmO
 by_cases hlt:m.root<W.T.length+g.slots
 ·have hge: ¬((m.root:Nat):Int)≥((W.T.length+g.slots:Nat):Int):=by omega
  have hrm:rootM g long W m=some (j4 g long {m with root:=m.root+1} (jF g W m.root)):=by unfold rootM;rw [if_pos hlt]
  rw[hrm];simp only[Option.isSome,Option.getD]
  have hK1:KmD w0 D q {m with root:=m.root+1}:=⟨hK.C,hK.G,hK.H,hK.oc,hK.oh⟩
  have hm1:jv g long W {m with root:=m.root+1}:=⟨hm.C,hm.c,hm.G,hm.hs,hm.h,by show m.root+1≤_;omega⟩
  have e1:((m.root:Nat):Int)+1=((m.root+1:Nat):Int):=by omega
  have hsh:=fun A (s:Nat) (hs:s<g.slots)=>je5 (w0:=w0) (F:=A) hP ok hK1 hm1 hlg hs
  unfold KmG id at hsh
  by_cases hrl:m.root<W.T.length
  ·have hrl':((m.root:Nat):Int)<((W.T.map docE).length:Nat):=by omega
   obtain⟨e,he⟩:=jn hrl
   have hst:=hW.st.2 e (List.mem_of_getElem? he)
   have he':(W.T.map docE)[m.root]?=some (docE e):=by rw[List.getElem?_map,he];rfl
   have hds:=(jbd e).1
   have hro:jF g W m.root=if e.st=1 then some e.slot else none:=by unfold jF;rw [he]
   by_cases h1:e.st=1
   ·have h2:(stB (docE e).st.toNat).1.toList=[108,105,118,101]:=by rw[hds,h1];rfl
    have hd1:docE e=e:=by unfold docE;rw [if_pos h1]
    rw[if_pos h1] at hro
    have hin:=jdd hW.w hlt hro
    obtain⟨s,hs⟩: ∃ s:Nat,e.slot=s:=⟨e.slot.toNat,by omega⟩
    have hsl':(docE e).slot=(s:Nat):=by rw[hd1,hs]
    rw[hro,hs]
    have hsh1:=fun A=>hsh A s (by omega)
    obtain⟨m1,hm1'⟩: ∃ m1,m1=Jh g long {m with root:=m.root+1} ((s:Nat):Int):=⟨_,rfl⟩
    have hso:j4 g long {m with root:=m.root+1} (some ((s:Nat):Int))=m1:=hm1'.symm
    rw[hso];simp only[←hm1'] at hsh1;unfold kmL at hsh1⊢;dsimp only at hsh1;refine zcW ?_;refine yr2 ?_;refine zn ?_;intro b2 b3 b4;refine yr5 ?_;refine zcX ?_;refine zcY ?_;refine zx ?_;refine zai ?_;refine zi fun T hT=>?_;refine zbO ?_;refine zl ?_;clear hT T;refine zcb ?_;refine zp ?_;refine yr46 ?_;refine K.drawn [] [(0,0),(1,0),(2,0),(3,0),(4,0),(5,0),(6,0),(7,0),(8,2),(9,2)] (by kernel_rfl) (by kernel_rfl) (by kernel_rfl) (by kernel_rfl) (by kernel_rfl) (by kernel_rfl) Part.nil ?_;refine zai ?_;refine zdo ?_;refine KD.v0 rfl rfl (Val.fieldAddrZ rfl rfl) ?_;refine zo ?_;refine zaD ?_;refine zb6 ?_;refine zJ ?_;refine zi fun T hT=>?_;rw[hsl',e1];refine(CallV.part (CallV.fn (hsh1 _)) ja).mono ?_;rintro _ _ ⟨q',N,hK',rfl,rfl⟩
    have p5:=hK'.G.o1
    have p6:=hK'.G.o2
    have p7:=hK'.G.o3
    have p8:=hK'.oc
    have p9:=hK'.oh
    refine zh ?_;clear hT T;refine zM ?_;refine zY ?_;refine yr10 ?_;exact zdG
   ·have h2: ¬(stB (docE e).st.toNat).1.toList=[108,105,118,101]:=jfU (by rw[hds];exact hst) (by rw[hds];exact h1)
    rw[if_neg h1] at hro;rw[hro]
    have hso:j4 g long {m with root:=m.root+1} none={m with root:=m.root+1}:=rfl
    rw[hso];unfold kmL;dsimp only;refine zcW ?_;refine yr2 ?_;refine zn ?_;intro b2 b3 b4;refine yr5 ?_;refine zcX ?_;refine zcY ?_;refine zx ?_;refine zai ?_;refine zi fun T hT=>?_;refine zbO ?_;refine zl ?_;clear hT T;refine zcb ?_;refine zp ?_;refine yr57 ?_;rw[e1];exact KE.fin jd rfl jc ja ⟨q,[],hK1,rfl,rfl⟩
  ·have hrl': ¬((m.root:Nat):Int)<((W.T.map docE).length:Nat):=by omega
   have hj:((m.root:Nat):Int)-(((W.T.map docE).length:Nat):Int)=((m.root-W.T.length:Nat):Int):=by omega
   obtain⟨j,hjd⟩: ∃ j,m.root-W.T.length=j:=⟨_,rfl⟩
   rw[hjd] at hj
   obtain⟨c,hc⟩:=jn (l:=W.N) (k:=j) (by omega)
   have hjs:j<g.slots:=by omega
   have hro:jF g W m.root=if 0<c then some ((j:Nat):Int) else none:=by
    unfold jF;rw[List.getElem?_eq_none (by omega)];dsimp only;rw[hjd,hc];rfl
   have hjl:j<W.N.length:=by omega
   by_cases h1:0<c
   ·have h1':c>0:=h1
    rw[if_pos h1] at hro;rw[hro]
    have hsh1:=fun A=>hsh A j hjs
    obtain⟨m1,hm1'⟩: ∃ m1,m1=Jh g long {m with root:=m.root+1} ((j:Nat):Int):=⟨_,rfl⟩
    have hso:j4 g long {m with root:=m.root+1} (some ((j:Nat):Int))=m1:=hm1'.symm
    rw[hso];simp only[←hm1'] at hsh1;unfold kmL at hsh1⊢;dsimp only at hsh1;refine zcW ?_;refine yr2 ?_;refine zn ?_;intro b2 b3 b4;refine yr5 ?_;refine zcX ?_;refine zcY ?_;refine zx ?_;refine zai ?_;refine zi fun T hT=>?_;refine zbO ?_;refine zl ?_;clear hT T;refine zcb ?_;refine zp ?_;refine yr34 ?_;refine zk ?_;refine yr8 ?_;rw[hj];refine yq14 fun T hT=>?_;rw[hj,e1];refine(CallV.part (CallV.fn (hsh1 _)) ja).mono ?_;rintro _ _ ⟨q',N,hK',rfl,rfl⟩
    have p5:=hK'.G.o1
    have p6:=hK'.G.o2
    have p7:=hK'.G.o3
    have p8:=hK'.oc
    have p9:=hK'.oh
    refine za ?_;clear hT T;refine yr11 ?_;exact zdG
   ·have h1': ¬c>0:=h1
    rw[if_neg h1] at hro;rw[hro]
    have hso:j4 g long {m with root:=m.root+1} none={m with root:=m.root+1}:=rfl
    rw[hso];unfold kmL;dsimp only;refine zcW ?_;refine yr2 ?_;refine zn ?_;intro b2 b3 b4;refine yr5 ?_;refine zcX ?_;refine zcY ?_;refine zx ?_;refine zai ?_;refine zi fun T hT=>?_;refine zbO ?_;refine zl ?_;clear hT T;refine zcb ?_;refine zp ?_;refine yr34 ?_;refine zk ?_;refine yr8 ?_;rw[hj];refine yr16 ?_;rw[e1];exact KE.fin jd rfl jc ja ⟨q,[],hK1,rfl,rfl⟩
 ·have hge:((m.root:Nat):Int)≥((W.T.length+g.slots:Nat):Int):=by omega
  have hrm:rootM g long W m=none:=by unfold rootM;rw [if_neg hlt]
  rw[hrm];simp only[Option.isSome,Option.getD];unfold kmL;refine zcW ?_;refine yr2 ?_;refine zn ?_;intro b2 b3 b4;refine yr5 ?_;refine zcX ?_;refine zcY ?_;refine zx ?_;refine zai ?_;refine zi fun T hT=>?_;refine zbO ?_;refine zl ?_;clear hT T;refine KD.v0 rfl rfl (Val.isT (Val.geq rfl rfl) jr) ?_;refine zp ?_;refine yr11 ?_;exact za7
end
end Go.Proofs.YtldomapkmopomaaGreatDoor.Sw
