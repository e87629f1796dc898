/-The walker and the contracts that the law needs,part 37. -/
import Derived.Test.YtldomapkmopomaaGreatDoorD1
import Derived.ArgAppend
import Derived.ChangeMaps5
import Derived.Deep.Fields
import Derived.Deep.LoopGhost
import Derived.Deep.OwnRows
import Derived.Deep.Quiet
import Derived.Deep.Slices
import Derived.IntWalk
import Derived.Laws.Cells
import Derived.Laws.CopyOwn
import Derived.Laws.Externs
import Derived.Laws.FloatArith
import Derived.Laws.IdiomStrings
import Derived.Laws.NewFold
import Derived.Laws.StructEq
import Derived.Lib.BitFns
import Derived.Lib.Hide
import Derived.Lib.SmallJoins
import Derived.Lib.TrailingZeros
import Derived.Maps.RangeRun
import Derived.OrdersIn
import Derived.ProofKit
import Derived.RangeFuncBound
import Derived.RangeFuncCalls
import Derived.RangeFuncLeaves
import Derived.RangeFuncNested
import Derived.RecoverIn
import Derived.Shelf.Bits.Mul64
import Derived.Shelf.Slices.Turned
import Derived.Shelf.Spec.TrailingZeros
import Derived.Shelf.Strconv.Itoa0
import Derived.SizedLaws
import Derived.Sort.BigQuietIn
import Derived.StillTailTactics
import Derived.Test.YtldomapkmopomaaGreatDoorProg
import Derived.WalkKit
import Derived.Test.YtldomapkmopomaaGreatDoorJ33
import Derived.Test.YtldomapkmopomaaGreatDoorJ36
set_option linter.unusedVariables false set_option linter.unusedSimpArgs false namespace Go.Proofs.YtldomapkmopomaaGreatDoor.Sw
set_option maxHeartbeats 8000000
open Go.Proofs.YtldomapkmopomaaGreatDoor renaming lo → qL, hi → qH
open Go.RowKit
set_option linter.unusedVariables false
set_option linter.unusedSimpArgs false
set_option maxRecDepth 10000
theorem rec_doc (gens:Int) (e:jj):JV gens (docE e)=docE (JV gens e):=by
 unfold JV docE
 by_cases h1:e.st=1
 ·have h2: ¬e.st=2:=by omega
  simp only[if_pos h1,if_neg h2]
 ·by_cases h2:e.st=2
  ·simp only[if_neg h1,if_pos h2]
   by_cases hg:e.gen≥gens
   ·simp only[if_pos hg];rfl
   ·simp only[if_neg hg];rfl
  ·simp only[if_neg h1,if_neg h2]
theorem recT_doc (gens:Int) (T:List jj):j9 gens (T.map docE)=(j9 gens T).map docE:=by
 unfold j9;rw [List.map_map,List.map_map];congr 1;funext e;exact rec_doc gens e
theorem recN_doc (gens:Int) (T:List jj):recyN gens (T.map docE)=recyN gens T:=by
 unfold recyN;rw[List.countP_map]
 congr 1
 funext e
 show decide ((docE e).st=2∧ ¬(docE e).gen≥gens)=_
 rw[(jbd e).1,(jbd e).2]
theorem stB_ne2 {a:Int} (h:0≤a∧a<4) (h0: ¬a=2): ¬(stB a.toNat).1.toList=[100,114,111,112,112,101,100]:=by
 obtain⟨n,rfl⟩: ∃ n:Nat,a=n:=⟨a.toNat,by omega⟩
 rw[Int.toNat_natCast]
 rcases(show n=0∨n=1∨n=3 by omega) with rfl|rfl|rfl<;>simp[stB]
structure RcyS where
 i:Nat
 v:Value
 N:jb
section
variable {w0 : World} {D F : jb} {v : Value} {L : List jj} {gens : Int}
theorem rec_st (hL: ∀ e∈L,0≤e.st∧e.st<4): ∀ e∈j9 gens L,0≤e.st∧e.st<4:=fun e he=>by
 obtain⟨q,hq,rfl⟩:=List.mem_map.1 he
 have:=hL q hq
 unfold JV
 split
 ·split
  ·exact⟨show(0:Int)≤3 by decide,show(3:Int)<4 by decide⟩
  ·exact⟨show(0:Int)≤0 by decide,show(0:Int)<4 by decide⟩
 ·exact this
set_option maxHeartbeats 1000000 in
theorem jhK (hS:Sli w0 D wE v L) (hv:v.oneCell'=true) (hl:L.length≤1024) (hg:1≤gens∧gens≤2147483648) (hL: ∀ e∈L,(0≤e.st∧e.st<4)∧1≤e.gen∧e.gen≤2147483648):
  Call Tryz.prog w0 94 [.agg [v, .int .i64 gens].toArray] (D++F)
   (fun r H'=> ∃ (v':Value) (N:jb),Sli w0 (N++D) wE v' (j9 gens L)∧v'.oneCell'=true∧r= .tuple [.agg [v', .int .i64 gens].toArray, .int .i64 (recyN gens L:Nat)].toArray∧H'=N++(D++F)):=by
 refine Call.enter1 (n:=47) (by kernel_rfl) Tryz.func94 rfl rfl rfl ?_;refine yr2 ?_;refine zj ?_;intro b1 b2;refine yr15 ?_;refine K.loopT (σ:=RcyS) [(1,_),(2,_)] (fun s kp_=>(5, .int .i64 (s.i:Nat))::(4, .int .i64 (recyN gens (L.take s.i):Nat))::kp_) (fun s=>(b1,cells [s.v, .int .i64 gens] 43)::(b2,cells [.slice none 0 0, .int .i64 0] 43)::(s.N++(D++F))) (fun s=>s.i≤L.length∧Sli w0 (s.N++D) wE s.v (recTo gens L s.i)∧s.v.oneCell'=true) (fun s=>L.length-s.i) (⟨0,v,[]⟩) jg ja (⟨Nat.zero_le _,hS,hv⟩) ?_;rintro⟨i,u,N⟩ ⟨hi,hSi,hu⟩;dsimp only at hi hSi hu⊢
 have hlen:=je9 gens L i
 by_cases hlt:i<L.length
 ·obtain⟨e,he⟩:=jn hlt
  have heL:=(jei gens L i).trans he
  have hb:=hL e (List.mem_of_getElem? he)
  have hnl:=recyN_le gens (L.take i)
  rw[List.length_take] at hnl
  have hlt':((i:Nat):Int)<((recTo gens L i).length:Nat):=by omega
  by_cases h2:e.st=2
  ·have hnx:=jdT (gens:=gens) he
   have hn2:=jfb (gens:=gens) he
   obtain⟨st,sl,ge⟩:=e
   dsimp only at h2 hb;subst h2
   have hwi:=fun A (x:jj)=>je4 (w0:=w0) (F:=A) (gens:=gens) (x:=x) hSi hu (by omega) (i:=i) (by omega)
   by_cases hge:ge≥gens
   ·have hre:JV gens ⟨2,sl,ge⟩=⟨3,0,ge⟩:=by unfold JV;rw [if_pos rfl,if_pos hge]
    rw[hre] at hnx;rw[if_neg (fun h=>h.2 hge)] at hn2
    have hgt:ge+1>gens:=by omega
    have hw3:=fun A=>hwi A ⟨3,0,ge⟩
    rw[←hnx] at hw3;refine yr22 ?_;refine zf ?_;intro b6;refine yq33 fun T hT=>?_;refine(CallV.part (CallV.fn (hw3 _)) (by simp only[List.append_assoc];exact ja)).mono ?_;rintro _ _ ⟨v',N',hS',hv',rfl,rfl⟩;refine za ?_;clear hT T;refine yr9 ?_;exact zfO
   ·have hre:JV gens ⟨2,sl,ge⟩=⟨0,0,ge+1⟩:=by unfold JV;rw [if_pos rfl,if_neg hge]
    rw[hre] at hnx;rw[if_pos (show(⟨2,sl,ge⟩:jj).st=2∧ ¬(⟨2,sl,ge⟩:jj).gen≥gens from⟨rfl,hge⟩)] at hn2
    have hgt: ¬ge+1>gens:=by omega
    have hw3:=fun A=>hwi A ⟨0,0,ge+1⟩
    rw[←hnx] at hw3;refine yr22 ?_;refine zf ?_;intro b6;refine yq35 fun T hT=>?_;refine(CallV.part (CallV.fn (hw3 _)) (by simp only[List.append_assoc];exact ja)).mono ?_;rintro _ _ ⟨v',N',hS',hv',rfl,rfl⟩;refine za ?_;clear hT T;refine yr15 ?_;exact zfO
  ·obtain⟨k1,k2⟩:=jgA (gens:=gens) he h2
   have hne:=stB_ne2 hb.1 h2
   refine yr22 ?_;refine zf ?_;intro b6;refine yr21 ?_;exact KE.again ⟨i+1,u,N⟩ (by dsimp only;rw [k2];exact jg) ja ⟨hlt,by dsimp only;rw [k1];exact hSi,hu⟩ (by show L.length-(i+1)<L.length-i;omega)
 ·have hie:i=L.length:=by omega
  subst hie;rw[jfa] at hSi
  have hlt': ¬((L.length:Nat):Int)<((recTo gens L L.length).length:Nat):=by omega
  have hlen2:(j9 gens L).length=L.length:=by unfold j9;rw [List.length_map]
  rw[List.take_length];refine yr25 ?_;exact KE.fin (H':=N++(D++F)) jd rfl jc ja ⟨u,N,hSi,hu,rfl,rfl⟩
end
open Go.RowKit
set_option maxRecDepth 10000
section
variable {R0 : List (List Int)} {gn : Int} {w0 : World} {D F : jb} {v : PlV} {g : PlG} {long : Nat} {d : CyV} {s : CyP}
theorem rkBlack_K {q:KmV} {m:MaP} {W:MwP} {t:Nat} (hP:J3 w0 D v g) (ok:je g) (hK:KmD w0 D q m) (hm:jv g long W m) (ht:t<g.slots):
  Call Tryz.prog w0 271 [.agg (kmL v g long q m).toArray, .int .i64 (t:Nat)] (D++F) (KmG w0 D F v g long (j2 m t) id):=by
 have q1:=hP.oL
 have q2:=hP.oF
 have q3:=hP.oM
 have q4:=hP.oC
 have q5:=hK.G.o1
 have q6:=hK.G.o2
 have q7:=hK.G.o3
 have q8:=hK.oc
 have q9:=hK.oh
 have hsl:=ok.slots
 have hbl:=fun A=>jgZ (w0:=w0) (F:=A) hK.C (s:=t) (by rw[hm.C];exact ht) (by rw[hm.C];omega)
 unfold KmG id kmL
 cases ha:m.act with
 |true=>
  have e:j2 m t={m with C:=m.C.set t 2}:=by unfold j2;rw [if_pos ha]
  have hK': ∀ vc' N,Sli w0 (N++D) bE vc' (m.C.set t 2)→vc'.oneCell'=true→KmD w0 (N++D) ⟨vc',q.u,q.h⟩ (j2 m t):=fun vc' N hC ho=>by
   rw[e];exact⟨hC,hK.G.part ja,hK.H.part ja,ho,q9⟩
  obtain⟨C,G,hs,root,act,steps⟩:=m
  dsimp only at*;subst ha;refine Call.enter2 (n:=18) (by kernel_rfl) Tryz.func271 rfl rfl rfl ?_;refine yr2 ?_;refine zj ?_;intro b2 b4;refine yq18 fun T hT=>?_;refine zdN ?_;rintro _ _ ⟨vc',N,hC,ho,rfl,rfl⟩;refine za ?_;clear hT T;refine yr14 ?_;exact KE.fin (H':=N++(D++F)) jd rfl jc ja ⟨⟨vc',q.u,q.h⟩,N,hK' vc' N hC ho,by rw[e];rfl,rfl⟩
 |false=>
  have e:j2 m t=m:=by unfold j2;rw [if_neg (by rw[ha];decide)]
  rw[e]
  obtain⟨C,G,hs,root,act,steps⟩:=m
  dsimp only at*;subst ha;refine Call.enter2 (n:=18) (by kernel_rfl) Tryz.func271 rfl rfl rfl ?_;refine yr2 ?_;refine zj ?_;intro b2 b4;refine yr19 ?_;exact KE.fin (H':=D++F) jd rfl jc ja ⟨q,[],hK,rfl,rfl⟩
theorem rcBlack_K {t:Nat} (h:CyD R0 gn w0 D v g d s) (ok:je g) (hi:jp g long s) (ht:t<g.slots):
  Call Tryz.prog w0 235 [.agg (cyL v g long d s).toArray, .int .i64 (t:Nat)] (D++F) (CyG R0 gn w0 D F v g long {s with m:=j2 s.m t} id):=by
 obtain⟨q1,q2,q3,q4,q5,q6,q7,q8,q9,r1,r2,r3,r4,r5⟩:=h.c
 have hbl:=fun A=>rkBlack_K (w0:=w0) (F:=A) h.A.p ok h.K hi.m ht
 unfold CyG id;unfold KmG id kmL at hbl;unfold cyL
 have hD:=fun q' N hK'=>CyD.mark (q':=q') (N:=N) (m':=j2 s.m t) h hK'
 refine Call.enter2 (n:=11) (by kernel_rfl) Tryz.func235 rfl rfl rfl ?_;refine yr2 ?_;refine zj ?_;intro b2 b4;refine yq7 fun T hT=>?_;refine zdN ?_;rintro _ _ ⟨q',N,hK',rfl,rfl⟩
 have p1:=hK'.oc
 have p2:=hK'.G.o1
 have p3:=hK'.G.o2
 have p4:=hK'.G.o3
 have p5:=hK'.oh
 refine za ?_;clear hT T;refine yr11 ?_;exact zeP
theorem rcShade_K {t:Nat} (h:CyD R0 gn w0 D v g d s) (ok:je g) (hlg:long≤64) (hi:jp g long s) (ht:t<g.slots):
  Call Tryz.prog w0 226 [.agg (cyL v g long d s).toArray, .int .i64 (t:Nat)] (D++F) (CyG R0 gn w0 D F v g long (shdC g long s (t:Nat)) id):=by
 obtain⟨q1,q2,q3,q4,q5,q6,q7,q8,q9,r1,r2,r3,r4,r5⟩:=h.c
 have hsh:=fun A=>rkShade_K (w0:=w0) (F:=A) h.A.p ok h.K hi.m hlg ht
 unfold CyG id;unfold KmG id kmL at hsh
 by_cases h1:s.ph=1
 ·have e:shdC g long s (t:Nat)={s with m:=jaF g long s.m (t:Nat)}:=by
   unfold shdC jU;rw [if_pos h1,if_pos ⟨by omega,by omega⟩]
  rw[e]
  have hD:=fun q' N hK'=>CyD.mark (q':=q') (N:=N) (m':=jaF g long s.m (t:Nat)) h hK'
  unfold cyL
  have h1':((s.ph:Nat):Int)=1:=by omega
  refine Call.enter2 (n:=14) (by kernel_rfl) Tryz.func226 rfl rfl rfl ?_;refine yr2 ?_;refine zj ?_;intro b2 b4;refine yq15 fun T hT=>?_;refine zbn ?_;rintro _ _ ⟨q',N,hK',rfl,rfl⟩
  have p1:=hK'.oc
  have p2:=hK'.G.o1
  have p3:=hK'.G.o2
  have p4:=hK'.G.o3
  have p5:=hK'.oh
  refine za ?_;clear hT T;refine yr11 ?_;exact zeP
 ·have e:shdC g long s (t:Nat)=s:=by unfold shdC;rw [if_neg h1]
  rw[e]
  have h1': ¬((s.ph:Nat):Int)=1:=by omega
  unfold cyL;refine Call.enter2 (n:=14) (by kernel_rfl) Tryz.func226 rfl rfl rfl ?_;refine yr2 ?_;refine zj ?_;intro b2 b4;refine yr20 ?_;exact zbq
theorem jd6 (h:CyD R0 gn w0 D v g d s) (ok:je g) (hi:jp g long s) (h0:s.ph=0):
  Call Tryz.prog w0 34 [.agg (cyL v g long d s).toArray] (D++F) (CyG R0 gn w0 D F v g long (beginC g s) (fun a=> .tuple [a, .int .i64 0].toArray)):=by
 obtain⟨q1,q2,q3,q4,q5,q6,q7,q8,q9,r1,r2,r3,r4,r5⟩:=h.c
 have hst:=fun A=>rkStart_K (w0:=w0) (F:=A) ok h.K hi.m h.W
 have h0':((s.ph:Nat):Int)=0:=by omega
 unfold CyG;unfold KmG id kmL kwL at hst
 have hD: ∀ q' N,KmD w0 (N++D) q' (jb1 g s.m)→CyD R0 gn w0 (N++D) v g ⟨d.va,d.z,q',d.vd⟩ (beginC g s):=fun q' N hK=>⟨h.A.part ja,h.W.part ja,hK,h.o,fun e=>(h.S e).part ja,h.N,h.m,h.ge⟩
 unfold cyL;refine Call.enter1 (n:=17) (by kernel_rfl) Tryz.func34 rfl rfl rfl ?_;refine yr2 ?_;refine zj ?_;intro b1 b2;refine yq20 fun T hT=>?_;refine zdu ?_;rintro _ _ ⟨q',N,hK',rfl,rfl⟩
 have p1:=hK'.oc
 have p2:=hK'.G.o1
 have p3:=hK'.G.o2
 have p4:=hK'.G.o3
 have p5:=hK'.oh
 refine za ?_;clear hT T;refine yr24 ?_;exact zeP
structure RfnS where
 n:Nat
 s:CyP
 d:CyV
 N:jb
 is:Bool
set_option maxHeartbeats 1000000 in
theorem rcFinish_K {z:CyP} (h:CyD R0 gn w0 D v g d z) (ok:je g) (hlg:long≤64) (hi:jp g long z) (hle:Jz g z) (h0:z.ph≠0):
  Call Tryz.prog w0 45 [.agg (cyL v g long d z).toArray] (D++F) (fun r H'=> ∃ (n:Nat) (s':CyP),jai g long z n s'∧helpC g long s'=none∧s'.ph=3∧CyG R0 gn w0 D F v g long s' (fun a=> .tuple [a, .int .i64 (n:Nat), .int .i64 0].toArray) r H'):=by
 have hoo:=h.c
 obtain⟨q1,q2,q3,q4,q5,q6,q7,q8,q9,r1,r2,r3,r4,r5⟩:=h.c
 have h0': ¬((z.ph:Nat):Int)=0:=by omega
 have hh:=fun(D' A:jb) d' s' (h:CyD R0 gn w0 D' v g d' s') hi hle=>rcHelp_K (w0:=w0) (F:=A) (long:=long) h ok hlg hi hle
 have hnil:[]++D=D:=rfl
 unfold CyG;unfold cyL;refine Call.enter1 (n:=22) (by kernel_rfl) Tryz.func45 rfl rfl rfl ?_;refine yr2 ?_;refine zj ?_;intro b1 b2;refine yr27 ?_;refine K.loopT (σ:=RfnS) [(1,_),(2,_)] (fun s kp_=>(5, .int .i64 (s.n:Nat))::(6, .bool s.is)::kp_) (fun s=>(b1,cells (cyL v g long s.d s.s) 55)::(b2,cells cy0 55)::(s.N++(D++F))) (fun s=>CyD R0 gn w0 (s.N++D) v g s.d s.s∧jai g long z s.n s.s∧(s.is=false→helpC g long s.s=none)) (fun s=>(jY g s.s+(if s.is=true then 1 else 0))) (⟨0,z,d,[],true⟩) jg ja (⟨h, .refl,fun e=>by cases e⟩) ?_;rintro⟨n,z1,d1,N1,is⟩ ⟨hD1,hp,hf⟩;dsimp only at hD1 hp hf⊢
 have ho1:=hp.ok ok hi
 have hle1:=ho1.le hle
 have hst1:=ho1.st
 have hls1:=hle1.s
 have hn8:n≤100000000:=by omega
 obtain⟨_,_,_,_,t5,t6,t7,t8,t9,u1,u2,u3,u4,u5⟩:=hD1.c
 cases is with
 |true=>
  have hh1:=fun A=>hh _ A d1 z1 hD1 ho1.ok hle1
  unfold CyS CyG at hh1
  cases hs:helpC g long z1 with
  |some z2=>
   rw[hs] at hh1;simp only[Option.isSome_some,Option.getD_some] at hh1
   have hm:=jcM ok ho1.ok hs
   unfold cyL at hh1⊢;refine yq13 fun T hT=>?_;refine(CallV.part (CallV.fn (hh1 _)) (by simp only[List.append_assoc];exact ja)).mono ?_;rintro _ _ ⟨d2,N2,hD2,rfl,rfl⟩
   obtain⟨_,_,_,_,v5,v6,v7,v8,v9,x1,x2,x3,x4,x5⟩:=hD2.c
   refine za ?_;clear hT T;refine yr19 ?_;exact KE.again ⟨n+1,z2,d2,N2++N1,true⟩ jg (by simp only[List.append_assoc];exact ja) ⟨by dsimp only;rw [List.append_assoc];exact hD2, .snoc hp hs,fun e=>by cases e⟩ (by show jY g z2+1<jY g z1+1;omega)
  |none=>
   rw[hs] at hh1;simp only[Option.isSome_none,Option.getD_none] at hh1;unfold cyL at hh1⊢;refine yq13 fun T hT=>?_;refine(CallV.part (CallV.fn (hh1 _)) (by simp only[List.append_assoc];exact ja)).mono ?_;rintro _ _ ⟨d2,N2,hD2,rfl,rfl⟩
   obtain⟨_,_,_,_,v5,v6,v7,v8,v9,x1,x2,x3,x4,x5⟩:=hD2.c
   refine za ?_;clear hT T;refine yr15 ?_;exact KE.again ⟨n,z1,d2,N2++N1,false⟩ jg (by simp only[List.append_assoc];exact ja) ⟨by dsimp only;rw [List.append_assoc];exact hD2,hp,fun _=>hs⟩ (by show jY g z1+0<jY g z1+1;omega)
 |false=>
  have hs:=hf rfl
  have h3:=jff ok ho1.ok (by have:=ho1.ph;omega) hs
  unfold cyL;refine yr22 ?_;exact KE.fin (H':=N1++(D++F)) jd rfl jc ja ⟨n,z1,hp,hs,h3,d1,N1,hD1,rfl,rfl⟩
set_option maxHeartbeats 1000000 in
theorem jhM (h:CyD R0 gn w0 D v g d s) (ok:je g) (hi:jp g long s) (h3:s.ph=3) (hg:1≤d.z.gens∧d.z.gens≤2147483648) (hT: ∀ e∈s.W.T,1≤e.gen∧e.gen≤2147483648):
  Call Tryz.prog w0 46 [.agg (cyL v g long d s).toArray] (D++F) (CyG R0 gn w0 D F v g long (publishC g d.z.gens s) (fun a=> .tuple [a, .int .i64 (s.D.count true:Nat), .int .i64 (recyN d.z.gens s.W.T:Nat), .int .i64 0].toArray)):=by
 obtain⟨q1,q2,q3,q4,q5,q6,q7,q8,q9,r1,r2,r3,r4,r5⟩:=h.c
 obtain⟨p1,p2,p3⟩:=hi.p3 h3
 have hsl:=ok.slots
 have h3': ¬((s.ph:Nat):Int)≠3:=by omega
 have hstop:=fun A=>rsStop_K (F:=A) (ka:=true) (kat:=s.at_) h.A (h.S p2) r5 (hi.D.trans hi.A.symm) (by rw[hi.A];omega)
 have hrec:=fun(N:jb) A=>jhK (w0:=w0) (D:=N++D) (F:=A) (h.W.T.part ja) q6 (by rw[List.length_map];exact h.W.st.1) hg (fun e he=>by
  obtain⟨y,hy,rfl⟩:=List.mem_map.1 he
  rw[(jbd y).1,(jbd y).2]
  exact⟨h.W.st.2 y hy,hT y hy⟩)
 simp only[recT_doc,recN_doc] at hrec
 have hw:=jc8 hi h3 d.z.gens
 have hD: ∀ va' vt' N,ArD w0 (N++D) v va' g (J0 s.A s.D).2→Sli w0 (N++D) wE vt' ((j9 d.z.gens s.W.T).map docE)→vt'.oneCell'=true→CyD R0 gn w0 (N++D) v g ⟨va',⟨d.z.vr,vt',d.z.vn,d.z.R,d.z.gens⟩,d.q, .slice none 0 0⟩ (publishC g d.z.gens s):=fun va' vt' N hA hT' ho=>
  ⟨hA,h.W.tab hT' ho hw.w ⟨by unfold j9;rw [List.length_map];exact h.W.st.1,rec_st h.W.st.2⟩ ja,⟨h.K.C.part ja,h.K.G.part ja,h.K.H.part ja,h.K.oc,h.K.oh⟩,rfl,fun e=>(by cases e),fun _=>rfl,h.m,h.ge⟩
 unfold CyG;unfold ksL arL at hstop;unfold cyL;rw[p2];refine Call.enter1 (n:=44) (by kernel_rfl) Tryz.func46 rfl rfl rfl ?_;refine yr2 ?_;refine zj ?_;intro b1 b2;refine yq22 fun T hT=>?_;refine(CallV.part (CallV.fn (hstop _)) ja).mono ?_;rintro _ _ ⟨va',N1,hA',rfl,rfl⟩
 have t1:=hA'.o
 refine za ?_;clear hT T;refine yr4 ?_;refine zf ?_;intro b6;refine zf ?_;intro b7;refine yq10 fun T hT=>?_;refine(CallV.part (CallV.fn (hrec N1 _)) (by simp only[List.append_assoc];exact ja)).mono ?_;rintro _ _ ⟨vt',N2,hT',t2,rfl,rfl⟩
 have hD':=hD va' vt' (N2++N1) (by rw[List.append_assoc];exact hA'.part ja) (by rw[List.append_assoc];exact hT') t2
 refine za ?_;clear hT T;refine yr3 ?_;refine zf ?_;intro b9;refine yr51 ?_;exact KE.fin (H':=(N2++N1)++(D++F)) jd rfl jc (by simp only[List.append_assoc];exact ja) ⟨_,N2++N1,hD',rfl,rfl⟩
end
set_option maxRecDepth 10000
structure WcM where
 y:CyM
 v:PlV
 d:CyV
 D:jb
def wcL (g:PlG) (long:Nat) (X:WcM) (s:CyP):List Value:= .pointer (some ⟨X.y.B.m.b,0,none⟩):: .pointer (some ⟨X.y.b,0,none⟩)::X.v.L::X.v.F::X.v.M:: .int .i64 (g.words:Nat)::X.v.C::X.d.va::X.d.z.vr:: .int .i64 ((0:Nat):Int)::X.v.L::X.v.F::X.v.M:: .int .i64 (g.words:Nat)::X.v.C::X.d.z.vt:: .int .i64 X.d.z.gens::X.d.z.vn::X.d.q.c::X.v.L::X.v.F::X.v.M:: .int .i64 (g.words:Nat)::X.v.C:: .int .i64 (long:Nat)::X.d.q.u.Q::X.d.q.u.ow::X.d.q.u.di:: .int .i64 (pgI s.m.G):: .int .i64 (s.m.G.at_:Nat)::X.d.q.h:: .int .i64 (s.m.root:Nat):: .bool s.m.act:: .int .i64 (s.m.steps:Nat):: .bool s.sa:: .int .i64 (s.at_:Nat)::X.d.vd:: .int .u8 (s.ph:Nat):: .int .i64 (s.st:Nat)::[]
def wc0:List Value:= .pointer none:: .pointer none::cy0
def wcH (X:WcM):jb:=cycH X.y++X.D
theorem wcH_app {X:WcM} {F:jb}:wcH X++F=cycH X.y++(X.D++F):=by unfold wcH;rw [List.append_assoc]
structure WcR (R0:List (List Int)) (gn:Int) (w0:World) (g:PlG) (long nf:Nat) (X:WcM) (s:CyP):Prop where
 p:CpR g long X.y s
 d:CyD R0 gn w0 X.D X.v g X.d s
 lg:long≤64
 t:X.y.B.t=0
 mem:X.y.B.m.R=R0.set 0 s.W.x
 gens:X.y.T.gens=gn
 f:X.y.k.c.f≤nf
 n:s.W.T.length≤60
def WcQ (R0:List (List Int)) (gn:Int) (w0:World) (g:PlG) (long nf:Nat) (X:WcM) (s':CyP) (F:jb) (f:Value→Value) (r:Value) (H':jb):Prop:=
 ∃ X':WcM,WcR R0 gn w0 g long nf X' s'∧X'.y.b=X.y.b∧X'.y.B.m.b=X.y.B.m.b∧X'.y.nw=X.y.nw∧r=f (.agg (wcL g long X' s').toArray)∧H'=wcH X'++F
section
variable {R0 : List (List Int)} {gn : Int} {w0 : World} {g : PlG} {long nf : Nat} {X : WcM} {s s' : CyP} {F : jb}
theorem WcR.next {y':CyM} {d':CyV} {N:jb} {n:Nat} (h:WcR R0 gn w0 g long nf X s) (hp:CpR g long y' s') (ht:Ju X.y y' s'.W.x n) (hd:CyD R0 gn w0 (N++X.D) X.v g d' s') (hl:s'.W.T.length=s.W.T.length):WcR R0 gn w0 g long (nf+n) ⟨y',X.v,d',N++X.D⟩ s':=
 ⟨hp,hd,h.lg,by rw[show(⟨y',X.v,d',N++X.D⟩:WcM).y.B=jaA X.y.B s'.W.x from ht.B];exact h.t,by
  show y'.B.m.R=_
  rw[ht.B]
  show X.y.B.m.R.set X.y.B.t s'.W.x=_
  rw[h.t,h.mem,List.set_set],ht.G.trans h.gens,by show y'.k.c.f≤_;rw [ht.f];have:=h.f;omega,by rw[hl];exact h.n⟩
theorem WcR.okg (h:WcR R0 gn w0 g long nf X s):je g:=h.p.okg
theorem WcR.hnw (h:WcR R0 gn w0 g long nf X s):s.m.hs.length=X.y.nw+1:=by rw[←h.p.R.hs];exact h.p.nw
theorem WcR.hgn (h:WcR R0 gn w0 g long nf X s):1≤X.d.z.gens∧X.d.z.gens≤2147483648:=by rw[h.d.ge,←h.gens];exact h.p.p.tb.g
theorem WcR.gen (h:WcR R0 gn w0 g long nf X s): ∀ e∈s.W.T,1≤e.gen∧e.gen≤2147483648:=fun e he=>by
 have:=h.p.p.tb.e e (by rw[h.p.p.eT];exact he)
 exact⟨this.2.2.1,this.2.2.2.1⟩
theorem Ju.mb {y y':CyM} {x:List Int} {n:Nat} (h:Ju y y' x n):y'.B.m.b=y.B.m.b:=by rw[h.B];rfl
theorem named_K {D:jb} {n:Int} (h:CyD R0 gn w0 D X.v g X.d s):
  Call Tryz.prog w0 88 [.agg (wcL g long X s).toArray, .int .i64 n] (D++F) (fun r H'=>r= .tuple [.int .i64 ((slotT s.W.T n).getD 0), .bool (slotT s.W.T n).isSome].toArray∧H'=D++F):=by
 obtain⟨q1,q2,q3,q4,q5,q6,q7,q8,q9,r1,r2,r3,r4,r5⟩:=h.c
 have hT:Sli w0 D wE X.d.z.vt (s.W.T.map docE):=h.W.T
 have hst:=h.W.st
 have hln:(s.W.T.map docE).length=s.W.T.length:=List.length_map ..
 unfold slotT wcL
 by_cases h0:n<0
 ·rw[if_neg (by omega)];dsimp only[Option.getD,Option.isSome];refine zdV ?_;refine yr2 ?_;refine ze ?_;intro b2;refine yr44 ?_;exact zd
 ·obtain⟨i,rfl⟩: ∃ i:Nat,n=i:=⟨n.toNat,by omega⟩
  rw[if_pos (by omega),Int.toNat_natCast]
  by_cases hlt:i<s.W.T.length
  ·obtain⟨e,he⟩:=jn hlt
   have hge: ¬((i:Nat):Int)≥((s.W.T.map docE).length:Nat):=by omega
   have hed:(s.W.T.map docE)[i]?=some (docE e):=by rw[List.getElem?_map,he];rfl
   have hes:=hst.2 e (List.mem_of_getElem? he)
   rw[he];dsimp only
   by_cases h1:e.st=1
   ·rw[if_pos h1]
    have hde:docE e=e:=by unfold docE;rw [if_pos h1]
    rw[hde] at hed
    obtain⟨st,sl,ge⟩:=e
    dsimp only at h1;subst h1;dsimp only[Option.getD,Option.isSome];refine zdV ?_;refine yr2 ?_;refine ze ?_;intro b2;refine yr60 ?_;exact zd
   ·rw[if_neg h1]
    have hne:=jfU (a:=(docE e).st) (by rw[(jbd e).1];exact hes) (by rw[(jbd e).1];exact h1)
    dsimp only[Option.getD,Option.isSome];refine zdV ?_;refine yr2 ?_;refine ze ?_;intro b2;refine yr54 ?_;exact zd
  ·have hge:((i:Nat):Int)≥((s.W.T.map docE).length:Nat):=by omega
   rw[List.getElem?_eq_none (by omega)];dsimp only[Option.getD,Option.isSome];refine zdV ?_;refine yr2 ?_;refine ze ?_;intro b2;refine yr48 ?_;exact zd
set_option maxHeartbeats 1000000 in
theorem jfu {t:Nat} (hX:WcR R0 gn w0 g long nf X s) (ht:t<g.slots):
  Call Tryz.prog w0 156 [.agg (wcL g long X s).toArray, .int .i64 (t:Nat)] (wcH X++F) (WcQ R0 gn w0 g long nf X (shdC g long s (t:Nat)) F id):=by
 have hsh:=fun A=>jhi (w0:=w0) (F:=A) hX.p ht
 have hrs:=fun A=>rcShade_K (F:=A) hX.d hX.okg hX.lg hX.p.i ht
 have hto:=fun y' d' N hp ht hd=>hX.next (y':=y') (d':=d') (N:=N) (n:=0) (s':=shdC g long s (t:Nat)) hp ht hd (by rw[jan])
 unfold CyQ at hsh;unfold CyG id at hrs;unfold WcQ id
 obtain⟨q1,q2,q3,q4,q5,q6,q7,q8,q9,r1,r2,r3,r4,r5⟩:=hX.d.c
 obtain⟨s',hs'⟩: ∃ s',shdC g long s (t:Nat)=s':=⟨_,rfl⟩
 simp only[hs'] at hsh hrs hto⊢;rw[wcH_app]
 obtain⟨y,v,d,D⟩:=X
 unfold wcL;unfold cyL at hrs;dsimp only at*;refine Call.enter2 (n:=15) (by kernel_rfl) Tryz.func156 rfl rfl rfl ?_;refine yr2 ?_;refine zj ?_;intro b2 b4;refine yq7 fun T hT=>?_;refine zbn ?_;rintro _ _ ⟨rfl,y',hp,hto',rfl⟩;refine za ?_;clear hT T;refine yq7 fun T hT=>?_;refine(CallV.part (CallV.fn (hrs _)) ja).mono ?_;rintro _ _ ⟨d',N,hd,rfl,rfl⟩
 obtain⟨_,_,_,_,v5,v6,v7,v8,v9,x1,x2,x3,x4,x5⟩:=hd.c
 refine za ?_;clear hT T;refine yr11 ?_;exact KE.fin (H':=wcH ⟨y',v,d',N++D⟩++F) jd rfl jc (by simp only[wcH_app,List.append_assoc];exact ja) ⟨⟨y',v,d',N++D⟩,hto y' d' N hp hto' hd,hto'.b,hto'.mb,hto'.nw,by dsimp only;rw [hto'.b,hto'.mb];rfl,rfl⟩
end
open Go.RowKit
set_option maxRecDepth 10000
def JI (a:Jw):List Value:=[.int .u8 (a.w:Nat), .int .i64 a.n, .int .i64 a.i, .int .i64 a.t]
section
variable {R0 : List (List Int)} {gn : Int} {w0 : World} {D N : jb} {v : PlV} {g : PlG} {d : CyV} {s : CyP}
theorem CyD.take {va':Value} {A':List Bool} (h:CyD R0 gn w0 D v g d s) (hA:ArD w0 (N++D) v va' g A'):CyD R0 gn w0 (N++D) v g ⟨va',d.z,d.q,d.vd⟩ {s with A:=A'}:=⟨hA,h.W.part ja,h.K.part ja,h.o,fun e=>(h.S e).part ja,h.N,h.m,h.ge⟩
theorem CyD.tab {vt':Value} {T':List jj} (h:CyD R0 gn w0 D v g d s) (hT:Sli w0 (N++D) wE vt' (T'.map docE)) (ho:vt'.oneCell'=true) (hw:Jb g {s.W with T:=T'}) (hst:StOk T'):CyD R0 gn w0 (N++D) v g ⟨d.va,⟨d.z.vr,vt',d.z.vn,d.z.R,d.z.gens⟩,d.q,d.vd⟩ {s with W:={s.W with T:=T'}}:=
 ⟨h.A.part ja,h.W.tab hT ho hw hst ja,h.K.part ja,h.o,fun e=>(h.S e).part ja,h.N,h.m,h.ge⟩
theorem CyD.pin {vn':Value} {N':List Int} (h:CyD R0 gn w0 D v g d s) (hN:Sli w0 (N++D) iE vn' N') (ho:vn'.oneCell'=true) (hw:Jb g {s.W with N:=N'}):CyD R0 gn w0 (N++D) v g ⟨d.va,⟨d.z.vr,d.z.vt,vn',d.z.R,d.z.gens⟩,d.q,d.vd⟩ {s with W:={s.W with N:=N'}}:=
 ⟨h.A.part ja,h.W.pin hN ho hw ja,h.K.part ja,h.o,fun e=>(h.S e).part ja,h.N,h.m,h.ge⟩
theorem CyD.words {vr':Value} {R':List RwD} {x':List Int} (h:CyD R0 gn w0 D v g d s) (hB:BoD w0 (N++D) v vr' g R') (hY:rwX R'=(rwX d.z.R).set 0 x') (hw:Jb g {s.W with x:=x'}) (hr:jap g x'):CyD R0 gn w0 (N++D) v g ⟨d.va,⟨vr',d.z.vt,d.z.vn,R',d.z.gens⟩,d.q,d.vd⟩ {s with W:={s.W with x:=x'}}:=
 ⟨h.A.part ja,h.W.put hB hY hw hr ja,h.K.part ja,h.o,fun e=>(h.S e).part ja,h.N,by rw[hY,h.m,List.set_set],h.ge⟩
theorem take_err {A:List Bool} {k:Int} (h:(takeP g A k).2.1≠0):(takeP g A k).1=0:=by
 unfold takeP at h⊢
 split
 ·rename_i h1
  rw[if_pos h1] at h
  split
  ·rename_i i hi;rw [hi] at h;exact absurd rfl h
  ·rfl
 ·rfl
theorem mint_st {T:List jj} {j:Nat} (h:StOk T):StOk (jZ T (j:Nat)):=⟨by rw[jaX];exact h.1,fun e he=>by
 obtain⟨q,hq⟩:=List.getElem?_of_mem he
 rcases mint_at hq with h2|⟨h2,_⟩
 ·exact h.2 e (List.mem_of_getElem? h2)
 ·omega⟩
theorem doc_st {T:List jj} (h:StOk T):StOk (T.map docE):=⟨by rw[List.length_map];exact h.1,fun e he=>by
 obtain⟨q,hq,rfl⟩:=List.mem_map.1 he
 rw[(jbd q).1];exact h.2 q hq⟩
end
section
variable {R0 : List (List Int)} {gn : Int} {w0 : World} {g : PlG} {long nf : Nat} {X : WcM} {s s' : CyP} {F : jb} {a : Jw}
theorem WcR.refl (h:WcR R0 gn w0 g long nf X s) (f:Value→Value):WcQ R0 gn w0 g long nf X s F f (f (.agg (wcL g long X s).toArray)) (wcH X++F):=⟨X,h,rfl,rfl,rfl,rfl,rfl⟩
set_option maxHeartbeats 4000000 in
theorem makes_K (hG:jw w0) (hX:WcR R0 gn w0 g long nf X s):
  Call Tryz.prog w0 163 [.agg (wcL g long X s).toArray, .agg (JI a).toArray] (wcH X++F) (WcQ R0 gn w0 g long nf X (makesC g s a) F id):=by
 have okg:=hX.okg
 have hi:=hX.p.i
 have htk:=fun A=>rTake_K (F:=A) (k:=a.n) hX.d.A okg hi.A
 have hsl:=okg.slots
 have hst:=hX.d.W.st
 obtain⟨q1,q2,q3,q4,q5,q6,q7,q8,q9,r1,r2,r3,r4,r5⟩:=hX.d.c
 have hmi:=fun(N:jb) A (j:Nat)=>rMint_K (w0:=w0) (D:=N++X.D) (F:=A) (gens:=X.d.z.gens) (s:=j) (hX.d.W.T.part ja) q6 (doc_st hst)
 have hmv:mintV (s.W.T.map docE)=mintV s.W.T:=by unfold mintV;rw [free_doc];split<;>simp only[gen_doc]
 simp only[mint_doc,hmv] at hmi
 by_cases hc:(takeP g s.A a.n).2.1=0
 ·obtain⟨k,j,hk,hkm,hf,ht,hl⟩:=jdc hc
  obtain⟨f1,f2,f3,_⟩:=jci hf
  have hj:j<g.slots:=by rw[←hi.A];exact hl
  rw[ht] at htk;dsimp only at htk
  cases hfr:jao s.W.T with
  |none=>
   have hm:makesC g s a=s:=by unfold makesC;rw [hfr,if_neg (by rintro⟨_,e⟩;cases e)]
   rw[hm]
   have hv0:mintV s.W.T=(0,0,131):=by unfold mintV;rw [hfr]
   rw[hv0] at hmi;dsimp only at hmi;unfold WcQ id;unfold wcL JI at*;unfold arL at htk;refine zeQ ?_;rw[wcH_app];refine yr2 ?_;refine zn ?_;intro b2 b3 b4;refine yq9 fun T hT=>?_;refine(CallV.part (CallV.fn (htk _)) ja).mono ?_;rintro _ _ ⟨va',N1,hA',rfl,rfl⟩
   have t1:=hA'.o
   refine za ?_;clear hT T;refine yr4 ?_;refine zf ?_;intro b5;refine yq12 fun T hT=>?_;refine(CallV.part (CallV.fn (hmi N1 _ j)) (by simp only[List.append_assoc];exact ja)).mono ?_;rintro _ _ ⟨vt',N2,hT',t2,rfl,rfl⟩;refine za ?_;clear hT T;refine yr5 ?_;refine zf ?_;intro b8;refine yr28 ?_;exact zfP
  |some fi=>
   obtain⟨y0,hy0⟩:=Jg hj
   have hfit:=okg.fits hy0
   have hcls:((y0.cls:Nat):Int)=a.n:=by
    have:=L_get (g:=g) hkm (show j-g.first k<g.n k by omega)
    rw[show g.first k+(j-g.first k)=j by omega,hy0] at this;rw[Option.some.inj this,hk];rfl
   have hv0:(mintV s.W.T).2.2=0:=by unfold mintV;rw [hfr]
   obtain⟨mv,hmv⟩: ∃ mv,mintV s.W.T=mv:=⟨_,rfl⟩
   obtain⟨mv1,mv2,mv3⟩:=mv
   rw[hmv] at hmi hv0;dsimp only at hmi hv0;subst hv0
   --the program
   have pTk:=fun A=>cTake_K (F:=A) (k:=a.n) hG hX.p
   rw[ht] at pTk;dsimp only at pTk
   have pMi:=fun A y1 (h1:CpR g long y1 {s with A:=s.A.set j true})=>cMint_K (w0:=w0) (F:=A) h1 hj
   have pBl:=fun A y2 (h2:CpR g long y2 {s with A:=s.A.set j true,W:={s.W with T:=jZ s.W.T (j:Nat)}})=>cyBlack_K (w0:=w0) (F:=A) h2 hj
   have pMk:=fun A y3 (h3:CpR g long y3 {s with A:=s.A.set j true,W:={s.W with T:=jZ s.W.T (j:Nat)},m:=j2 s.m j})=>cMake_K (w0:=w0) (F:=A) (hd:=hdM y0 a.i) hG h3 hy0
   dsimp only at pMi pBl pMk;rw[hmv] at pMi
   have hs4:makesC g s a={s with A:=s.A.set j true,W:={s.W with T:=jZ s.W.T (j:Nat),x:=(jW s.W.x y0 (hdM y0 a.i)).2},m:=j2 s.m j}:=by
    unfold makesC;rw [hfr,if_pos ⟨hc,rfl⟩,ht];dsimp only;rw [JF hy0,Int.toNat_natCast]
   --the document
   have dTk:=fun va' N1 hA=>CyD.take (va':=va') (N:=N1) (A':=s.A.set j true) hX.d hA
   have dTb:=fun va' vt' (N1 N2:jb) (hd1:CyD R0 gn w0 (N1++X.D) X.v g ⟨va',X.d.z,X.d.q,X.d.vd⟩ {s with A:=s.A.set j true}) (hT:Sli w0 (N2++(N1++X.D)) wE vt' ((jZ s.W.T (j:Nat)).map docE)) ho hw=>CyD.tab hd1 hT ho hw (mint_st hst)
   have dBl:=fun(D' A:jb) d' (hd:CyD R0 gn w0 D' X.v g d' {s with A:=s.A.set j true,W:={s.W with T:=jZ s.W.T (j:Nat)}}) hi=>rcBlack_K (long:=long) (F:=A) hd okg hi hj
   have dMk:=fun(D' A:jb) d' (hd:CyD R0 gn w0 D' X.v g d' {s with A:=s.A.set j true,W:={s.W with T:=jZ s.W.T (j:Nat)},m:=j2 s.m j})=>rbMake_K (F:=A) (h:=hdM y0 a.i) hd.W.B hd.W.f hy0
   have dWd:=fun D' d' vr' R' N (hd:CyD R0 gn w0 D' X.v g d' {s with A:=s.A.set j true,W:={s.W with T:=jZ s.W.T (j:Nat)},m:=j2 s.m j}) hB hY hw hr=>CyD.words (vr':=vr') (R':=R') (N:=N) (x':=(jW s.W.x y0 (hdM y0 a.i)).2) hd hB hY hw hr
   dsimp only at dTk dTb dBl dMk dWd
   have hLs: ∀ D',Part D' X.D→Sli w0 D' slE X.v.L g.L:=fun D' hp=>hX.d.A.p.L.part hp
   have hLl:=jah (g:=g)
   have hjL:j<g.L.length:=by omega
   have hnx:=fun y' d' N hp ht hd=>hX.next (y':=y') (d':=d') (N:=N) (n:=0) (s':={s with A:=s.A.set j true,W:={s.W with T:=jZ s.W.T (j:Nat),x:=(jW s.W.x y0 (hdM y0 a.i)).2},m:=j2 s.m j}) hp ht hd jaX
   have hhd:hdV (hdM y0 a.i)= .agg [.int .i64 a.n, .int .i64 (min (max a.i 0) (((y0.size:Nat):Int)-1)), .int .i64 0].toArray:=by unfold hdV hdM;dsimp only;rw [hcls]
   rw[hhd] at pMk dMk;rw[hs4];unfold WcQ id;unfold CyQ at pTk pMi pBl pMk;unfold CyG id cyL at dBl;unfold boL at dMk;unfold arL at htk;unfold wcL JI
   obtain⟨y,v,d,D⟩:=X
   dsimp only at*;refine zeQ ?_;rw[wcH_app];dsimp only;refine yr2 ?_;refine zn ?_;intro b2 b3 b4;refine yq9 fun T hT=>?_;refine(CallV.part (CallV.fn (htk _)) ja).mono ?_;rintro _ _ ⟨va',N1,hA',rfl,rfl⟩
   have t1:=hA'.o
   have hd1:=dTk va' N1 hA'
   refine za ?_;clear hT T;refine yr4 ?_;refine zf ?_;intro b5;refine yq12 fun T hT=>?_;refine(CallV.part (CallV.fn (hmi N1 _ j)) (by simp only[List.append_assoc];exact ja)).mono ?_;rintro _ _ ⟨vt',N2,hT',t2,rfl,rfl⟩;refine za ?_;clear hT T;refine yr5 ?_;refine zf ?_;intro b8;refine yr39 ?_;refine zw ?_
   (first|refine K.seq (K.drawn ((b3,cells [.int .u8 (a.w:Nat), .int .i64 a.n, .int .i64 a.i, .int .i64 a.t] 162)::[]) [(0,0),(1,0),(3,1),(4,1),(2,2),(5,2)] (by kernel_rfl) (by kernel_rfl) (by kernel_rfl) (by kernel_rfl) (by kernel_rfl) (by kernel_rfl) ja ?_)|refine K.seq (K.seq (K.drawn ((b3,cells [.int .u8 (a.w:Nat), .int .i64 a.n, .int .i64 a.i, .int .i64 a.t] 162)::[]) [(0,0),(1,0),(3,1),(4,1),(2,2),(5,2)] (by kernel_rfl) (by kernel_rfl) (by kernel_rfl) (by kernel_rfl) (by kernel_rfl) (by kernel_rfl) ja ?_))|refine K.drawn ((b3,cells [.int .u8 (a.w:Nat), .int .i64 a.n, .int .i64 a.i, .int .i64 a.t] 162)::[]) [(0,0),(1,0),(3,1),(4,1),(2,2),(5,2)] (by kernel_rfl) (by kernel_rfl) (by kernel_rfl) (by kernel_rfl) (by kernel_rfl) (by kernel_rfl) ja ?_)
   refine zbv ?_;refine zbm ?_;refine zF ?_;refine zi fun T hT=>?_;refine(CallV.part (CallV.fn (jd9 (y:=y))) ja).mono ?_;refine zl ?_;clear hT T;refine zi fun T hT=>?_;refine(CallV.part (CallV.fn (pTk _)) ja).mono ?_;rintro _ _ ⟨rfl,y1,h1,o1,rfl⟩;refine zh ?_;clear hT T;refine zp ?_
   have cT1:=fun A=>jdj (w0:=w0) (F:=A) (y:=y1)
   have pM1:=fun A=>pMi A y1 h1
   rw[o1.b] at cT1;refine yq5 fun T hT=>?_;refine(CallV.part (CallV.fn (cT1 _)) ja).mono ?_;refine zc ?_;clear hT T;refine yq1 fun T hT=>?_;refine(CallV.part (CallV.fn (pM1 _)) ja).mono ?_;rintro _ _ ⟨rfl,y2,h2,o2,rfl⟩
   have hd2:=dTb va' vt' N1 N2 hd1 hT' t2 h2.i.w
   have o12:=o1.trans o2
   have pB1:=fun A=>pBl A y2 h2
   rw[o12.b] at pB1;refine za ?_;clear hT T;refine yq7 fun T hT=>?_;refine(CallV.part (CallV.fn (pB1 _)) ja).mono ?_;rintro _ _ ⟨rfl,y3,h3,o3,rfl⟩
   have o13:=o12.trans o3
   have dB1:=fun A=>dBl _ A _ hd2 h2.i
   refine za ?_;clear hT T;refine yq7 fun T hT=>?_;refine(CallV.part (CallV.fn (dB1 _)) (by simp only[List.append_assoc];exact ja)).mono ?_;rintro _ _ ⟨d3,N3,hd3,rfl,rfl⟩
   obtain⟨_,_,_,_,v5,v6,v7,v8,v9,x1,x2,x3,x4,x5⟩:=hd3.c
   have hL3:=hLs (N3++(N2++(N1++D))) ja
   refine za ?_;clear hT T;refine yr5 ?_;refine K.drawn _ [(0,1),(1,1),(2,1),(3,1),(4,1),(5,1),(6,1),(7,1),(8,1),(9,1),(10,1),(11,1),(12,1),(13,1),(14,1),(15,1),(16,1),(17,1),(18,2),(19,2)] (by kernel_rfl) (by kernel_rfl) (by kernel_rfl) (by kernel_rfl) (by kernel_rfl) (by kernel_rfl) Part.all ?_;refine zbZ ?_;refine zx ?_;refine zcR ?_;refine zx ?_;refine KD.v1 rfl rfl (Val.max rfl rfl) ?_;refine zcR ?_;refine KD.v1 rfl rfl (Val.fieldAddr (k:=6) rfl rfl) ?_;refine KD.v1 rfl rfl (Val.fieldAddrZ rfl rfl) ?_;refine KD.v1 rfl rfl (Val.fieldAddr (k:=2) rfl rfl) ?_;refine KD.v1 rfl rfl (Val.fieldAddrZ rfl rfl) ?_;refine zx ?_;refine zm ?_;refine KD.v1 rfl rfl (Val.idxSl rfl rfl rfl Jm rfl jr) ?_;refine KD.v1 rfl rfl (Val.fieldSl (k:=1) rfl rfl) ?_;refine KD.v1 rfl rfl (Val.loadP rfl rfl jaW) ?_;refine zeu ?_;refine KD.v1 rfl rfl (Val.min rfl rfl) ?_;refine zcx ?_;refine zad ?_;intro b12;refine zM ?_;refine zY ?_;refine yr1 ?_;rw[show(if ((y0.size:Nat):Int)-1<(if a.i<0 then 0 else a.i) then((y0.size:Nat):Int)-1 else(if a.i<0 then 0 else a.i))=min (max a.i 0) (((y0.size:Nat):Int)-1) by rw[Int.min_def,Int.max_def];repeat' split;all_goals omega]
   have cB3:=fun A=>jdw (w0:=w0) (F:=A) (y:=y3)
   have pM3:=fun A=>pMk A y3 h3
   rw[o13.b] at cB3;refine zw ?_
   (first|refine K.seq (K.drawn ((b12,cells [.int .i64 a.n, .int .i64 (min (max a.i 0) (((y0.size:Nat):Int)-1)), .int .i64 0] 138)::[]) [(0,0),(1,0),(3,1),(4,1),(2,2),(5,2)] (by kernel_rfl) (by kernel_rfl) (by kernel_rfl) (by kernel_rfl) (by kernel_rfl) (by kernel_rfl) ja ?_)|refine K.seq (K.seq (K.drawn ((b12,cells [.int .i64 a.n, .int .i64 (min (max a.i 0) (((y0.size:Nat):Int)-1)), .int .i64 0] 138)::[]) [(0,0),(1,0),(3,1),(4,1),(2,2),(5,2)] (by kernel_rfl) (by kernel_rfl) (by kernel_rfl) (by kernel_rfl) (by kernel_rfl) (by kernel_rfl) ja ?_))|refine K.drawn ((b12,cells [.int .i64 a.n, .int .i64 (min (max a.i 0) (((y0.size:Nat):Int)-1)), .int .i64 0] 138)::[]) [(0,0),(1,0),(3,1),(4,1),(2,2),(5,2)] (by kernel_rfl) (by kernel_rfl) (by kernel_rfl) (by kernel_rfl) (by kernel_rfl) (by kernel_rfl) ja ?_)
   refine zbv ?_;refine zm ?_;refine zar ?_;refine zi fun T hT=>?_;refine(CallV.part (CallV.fn (cB3 _)) ja).mono ?_;refine zl ?_;clear hT T;refine zi fun T hT=>?_;refine(CallV.part (CallV.fn (pM3 _)) ja).mono ?_;rintro _ _ ⟨rfl,y4,h4,o4,rfl⟩
   have o14:=o13.trans o4
   have dM3:=fun A=>dMk _ A d3 hd3
   unfold boL at dM3;refine zh ?_;clear hT T;refine zp ?_;refine yq9 fun T hT=>?_;refine(CallV.part (CallV.fn (dM3 _)) (by simp only[List.append_assoc];exact ja)).mono ?_;rintro _ _ ⟨vr',R',N4,hB4,hY4,rfl,rfl⟩
   have hd4:=dWd _ d3 vr' R' N4 hd3 hB4 hY4 h4.i.w h4.i.rf
   have z1:=hB4.m.o
   have hd5:=hd4
   rw[show N4++(N3++(N2++(N1++D)))=(N4++(N3++(N2++N1)))++D by simp only[List.append_assoc]] at hd5
   have hX':=hnx y4 _ _ h4 o14 hd5
   refine za ?_;clear hT T;refine yr16 ?_;exact KE.fin (H':=wcH ⟨y4,v,_,(N4++(N3++(N2++N1)))++D⟩++F) jd rfl jc (by simp only[wcH_app,List.append_assoc];exact ja) ⟨_,hX',o14.b,o14.mb,o14.nw,by dsimp only;rw [o14.b,o14.mb];rfl,rfl⟩
 ·have hm:makesC g s a=s:=by unfold makesC;rw [if_neg (fun e=>hc e.1)]
  rw[hm]
  have h0:=take_err hc
  unfold WcQ id
  obtain⟨t1,t2,t3,htp⟩: ∃ t1 t2 t3,takeP g s.A a.n=(t1,t2,t3):=⟨_,_,_,rfl⟩
  rw[htp] at htk hc h0;dsimp only at htk hc h0;subst h0;unfold wcL JI at*;unfold arL at htk;refine zeQ ?_;rw[wcH_app];refine yr2 ?_;refine zn ?_;intro b2 b3 b4;refine yq9 fun T hT=>?_;refine(CallV.part (CallV.fn (htk _)) ja).mono ?_;rintro _ _ ⟨va',N1,hA',rfl,rfl⟩
  have t1:=hA'.o
  refine za ?_;clear hT T;refine yr4 ?_;refine zf ?_;intro b5;refine yq12 fun T hT=>?_;refine(CallV.part (CallV.fn (hmi N1 _ 0)) (by simp only[List.append_assoc];exact ja)).mono ?_;rintro _ _ ⟨vt',N2,hT',t2,rfl,rfl⟩;refine za ?_;clear hT T;refine yr5 ?_;refine zf ?_;intro b8;refine yr26 ?_;exact zfP
end
open Go.RowKit
set_option maxRecDepth 10000
structure RnT where
 b:Nat
 o:Own
theorem doc_new (n:Nat):(List.replicate n (⟨0,0,1⟩:jj)).map docE=List.replicate n J5:=by rw[List.map_replicate];rfl
set_option maxHeartbeats 8000000 in
theorem rcNew_K {w0:World} {Dc Dm F:jb} {c:Cfg} {vc vt vr:Value} {Rm:List RwD} {tn:Tn} (hR:j1 w0 (Dm++(Dc++F)) c vc vt) (hc:jT c=true) (ht0:c.tn[0]?=some tn) (hC:Sli w0 Dc iE vc c.cl) (hvc:vc.oneCell'=true)
  (hM:jat w0 Dm vr Rm) (hm0:(rwX Rm)[0]?=some (List.replicate (gOf c 0).words 0)) (hml:Rm.length≤1000):
  Call Tryz.prog w0 50 [jt c vc vt, .int .i64 0, .agg [vr].toArray] (Dm++(Dc++F))
   (fun r H'=> ∃ (v:PlV) (d:CyV) (N:jb),CyD (rwX Rm) c.gens w0 (N++(Dm++Dc)) v (gOf c 0) d (newC (gOf c 0) tn.caps.toNat c.workers.toNat)∧r= .agg (cyL v (gOf c 0) c.grey.toNat d (newC (gOf c 0) tn.caps.toNat c.workers.toNat)).toArray∧H'=N++(Dm++(Dc++F))):=by
 have hcfg:=jar hc
 have hten:=hcfg.ten tn (List.mem_of_getElem? ht0)
 have htl:=jl ht0
 have ht:thereP c 0 0=true:=jaS (i:=0) (j:=0) hc htl (by have:=hcfg.cl;omega)
 have ga:=g_at ht
 have okg:=ga.ok
 have hwk:=hcfg.workers
 have hgy:=hcfg.grey
 have hgn:=hcfg.gens
 have hrp:=fun A (hp:Part A (Dm++(Dc++F)))=>rpNew_K (t:=0) (hR.part hp) ht hvc
 obtain⟨g,hg⟩: ∃ g,g=gOf c 0:=⟨_,rfl⟩
 simp only[←hg] at hrp okg hm0⊢;clear hg ga ht
 obtain⟨hS,hT,o1,o2,l1,l2⟩:=hR
 obtain⟨cl,page,tns,workers,grey,gens⟩:=c
 obtain⟨x1,x2,x3,x4⟩:=tn
 dsimp only at hS hT l1 l2 ht0 hten hwk hgy hgn htl hC⊢
 obtain⟨caps,rfl⟩: ∃ caps:Nat,x3=caps:=⟨x3.toNat,by omega⟩
 obtain⟨nw,rfl⟩: ∃ nw:Nat,workers=nw:=⟨workers.toNat,by omega⟩
 obtain⟨long,rfl⟩: ∃ long:Nat,grey=long:=⟨grey.toNat,by omega⟩
 simp only[Int.toNat_natCast];simp only[jt,jJ,prV] at hrp⊢
 have hslots:=okg.slots
 have hLl:=jah (g:=g)
 have q5:=hM.o
 refine Call.enter3 (n:=50) (by kernel_rfl) Tryz.func50 rfl rfl rfl ?_;refine yr2 ?_;refine zn ?_;intro b3 b5 b6;refine yq6 fun T hT=>?_;refine(CallV.fn (hrp _ ja)).mono ?_;rintro _ _ ⟨v,Dp,hPD0,rfl,rfl⟩
 have hPD:=hPD0 Dc hC
 clear hPD0
 have q1:=hPD.oL
 have q2:=hPD.oF
 have q3:=hPD.oM
 have q4:=hPD.oC
 have hPL:=hPD.L
 unfold plL;refine za ?_;clear hT T;refine yr3 ?_;refine zf ?_;intro b7;refine yr4 ?_;refine K.cutT (σ:=RnT) [(1,_),(3,_),(5,_),(6,_),(7,_)] jg (fun s kp_=>(9, .pointer (some ⟨s.b,0,none⟩))::kp_) (fun s=>oH wE 179 (List.replicate caps J5) s.o++((s.b,cells [oV s.o (List.replicate caps J5).length, .int .i64 gens] 43)::(b7,cells [v.L,v.F,v.M, .int .i64 (g.words:Nat),v.C] 32)::(b3,cells [vc, .int .i64 page,vt, .int .i64 (nw:Nat), .int .i64 (long:Nat), .int .i64 gens] 25)::(b5,cells [vr] 38)::(b6,cells cy0 55)::(Dp++(Dm++(Dc++F))))) (fun s=>oOk wE (List.replicate caps J5) s.o) ?_ ?_
 ·skip
  refine zw ?_;refine K.drawn ((b3,cells [vc, .int .i64 page,vt, .int .i64 (nw:Nat), .int .i64 (long:Nat), .int .i64 gens] 25)::(Dm++(Dc++F))) [(0,1),(1,1),(2,1),(3,1),(4,1),(5,1),(6,1),(7,1),(8,3),(9,1),(10,1),(11,1),(12,2),(13,2),(14,0)] (by kernel_rfl) (by kernel_rfl) (by kernel_rfl) (by kernel_rfl) (by kernel_rfl) (by kernel_rfl) ja ?_;refine zaj ?_;refine zaT ?_;refine zaj ?_;refine zF ?_
  (first|refine KD.v1 rfl rfl (Val.fieldSl (k:=5) rfl rfl) ?_|refine KD.v1 rfl rfl (Val.fieldAddr0 (k:=5) rfl rfl) ?_|refine KD.v1 rfl rfl (Val.fieldAddrZ rfl rfl) ?_|refine KD.v1 rfl rfl (Val.fieldAddr (k:=5) rfl rfl) ?_)
  refine zF ?_;refine KD.fork2 (x:=8) (y:=12) (o1:=[(9,1),(10,1),(11,1),(12,2),(13,2),(14,0)]) (o2:=[(8,2),(9,0),(10,0),(11,1),(13,2),(14,0)]) (by kernel_rfl) rfl rfl (by kernel_rfl) (by kernel_rfl) ?_ ?_
  ·refine zak fun T hT=>?_;refine(CallV.fn (rtNew_K (n:=caps) (gens:=gens) (by omega) hgn)).mono ?_;rintro _ _ ⟨ot,okot,rfl,rfl⟩;refine zh ?_;clear hT T;refine zm ?_;refine zaf ?_;refine zaf ?_;refine zad ?_;intro b9;refine zav ?_;exact KE.meet ⟨b9,ot⟩ jg ja okot
  ·(refine j3.e rfl (Eff.alloc rfl) ?_;rintro _ _ ⟨b9,rfl,rfl⟩;refine⟨ja,?_⟩)
   refine zi fun T hT=>?_;refine(CallV.fn (rtNew_K (n:=caps) (gens:=gens) (by omega) hgn)).mono ?_;rintro _ _ ⟨ot,okot,rfl,rfl⟩;refine zh ?_;clear hT T;refine zam ?_;refine zav ?_;exact KE.meet ⟨b9,ot⟩ jg ja okot
 ·rintro⟨b9,ot⟩ okot;dsimp only at okot⊢;refine K.cutT (σ:=RnT) [(3,_),(6,_),(7,_)] jg (fun s kp_=>(11, .pointer (some ⟨s.b,0,none⟩))::kp_) (fun s=>oH iE 3 (List.replicate g.L.length 0) s.o++((s.b,cells [vr, .int .i64 ((0:Nat):Int),v.L,v.F,v.M, .int .i64 (g.words:Nat),v.C,oV ot (List.replicate caps J5).length, .int .i64 gens,oV s.o (List.replicate g.L.length (0:Int)).length] 45)::(oH wE 179 (List.replicate caps J5) ot++((b9,cells [oV ot (List.replicate caps J5).length, .int .i64 gens] 43)::(b7,cells [v.L,v.F,v.M, .int .i64 (g.words:Nat),v.C] 32)::(b3,cells [vc, .int .i64 page,vt, .int .i64 (nw:Nat), .int .i64 (long:Nat), .int .i64 gens] 25)::(b5,cells [vr] 38)::(b6,cells cy0 55)::(Dp++(Dm++(Dc++F))))))) (fun s=>oOk iE (List.replicate g.L.length 0) s.o) ?_ ?_
  ·skip
   refine zw ?_;refine K.drawn ((b3,cells [vc, .int .i64 page,vt, .int .i64 (nw:Nat), .int .i64 (long:Nat), .int .i64 gens] 25)::(b5,cells [vr] 38)::(b7,cells [v.L,v.F,v.M, .int .i64 (g.words:Nat),v.C] 32)::(b9,cells [oV ot (List.replicate caps J5).length, .int .i64 gens] 43)::(Dp++(Dm++(Dc++F)))) [(0,1),(1,1),(2,1),(3,1),(4,1),(5,1),(6,1),(7,1),(8,3),(9,1),(10,2),(11,2)] (by kernel_rfl) (by kernel_rfl) (by kernel_rfl) (by kernel_rfl) (by kernel_rfl) (by kernel_rfl) ja ?_;refine zar ?_;refine zm ?_;refine zar ?_;refine zcx ?_;refine zar ?_;refine zX ?_;refine zF ?_;refine zdD ?_;refine KD.fork2 (x:=8) (y:=10) (o1:=[(9,1),(10,2),(11,2)]) (o2:=[(8,2),(9,0),(11,2)]) (by kernel_rfl) rfl rfl (by kernel_rfl) (by kernel_rfl) ?_ ?_
   ·(refine j3.e rfl (Eff.makeR (E:=iE) (x0:=0) rfl rfl rfl rfl rfl rfl (by first|assumption|omega|(simp<;>fail)|(simp;omega))) ?_;rintro _ _ ⟨o38,ok38,rfl,rfl⟩;refine⟨ja,?_⟩)
    refine zcx ?_;refine zad ?_;intro b11;refine zbT ?_;exact KE.meet ⟨b11,o38⟩ jg ja ok38
   ·(refine j3.e rfl (Eff.alloc rfl) ?_;rintro _ _ ⟨b11,rfl,rfl⟩;refine⟨ja,?_⟩)
    refine KD.e rfl rfl (Eff.makeR (E:=iE) (x0:=0) rfl rfl rfl rfl rfl rfl (by first|assumption|omega|(simp<;>fail)|(simp;omega))) ?_;rintro _ _ ⟨o38,ok38,rfl,rfl⟩;refine⟨ja,?_⟩;refine zd1 ?_;exact KE.meet ⟨b11,o38⟩ jg ja ok38
  ·rintro⟨b11,on⟩ okn;dsimp only at okn⊢
   have hra:=fun A=>raNew_K (w0:=w0) (F:=A) hPD okg
   obtain⟨DD,hDD⟩: ∃ DD:jb,DD=oH iE 3 (List.replicate g.L.length 0) on++(oH wE 179 (List.replicate caps J5) ot++(Dp++(Dm++Dc))):=⟨_,rfl⟩
   have hKD:KwD w0 DD v g ⟨vr,oV ot (List.replicate caps J5).length,oV on (List.replicate g.L.length (0:Int)).length,Rm,gens⟩ ⟨List.replicate g.words 0,List.replicate caps ⟨0,0,1⟩,List.replicate g.slots 0⟩:=by
    subst hDD;refine⟨⟨hPD.part ja,hM.part ja⟩,⟨okg,hml,hm0,List.length_replicate ..,Jx.rep _⟩,?_,?_,jK _ _,jK _ _,newC_w (nw:=nw),(newC_ok (g:=g) (long:=1) (caps:=caps) (nw:=nw) (by omega) (by omega)).rf,?_⟩
    ·dsimp only;rw[doc_new];exact Sli.own jh okot rfl
    ·dsimp only;rw[←hLl];exact Sli.own jh okn rfl
    ·exact⟨by rw[List.length_replicate];omega,fun e he=>by rw[(List.mem_replicate.1 he).2];decide⟩
   have hnew:=fun A=>rkNew_K (w0:=w0) (F:=A) (long:=long) (nw:=nw) okg hKD (by omega)
   have hfin: ∀ va' q' N1 N2,ArD w0 (N1++(Dp++Dc)) v va' g (List.replicate g.slots false)→KmD w0 (N2++DD) q' (JM g nw false)→CyD (rwX Rm) gens w0 ((N2++(N1++(oH iE 3 (List.replicate g.L.length 0) on++(oH wE 179 (List.replicate caps J5) ot++Dp))))++(Dm++Dc)) v g ⟨va',⟨vr,oV ot (List.replicate caps J5).length,oV on (List.replicate g.L.length (0:Int)).length,Rm,gens⟩,q', .slice none 0 0⟩ (newC g caps nw):=fun va' q' N1 N2 hA hK=>by
    subst hDD;refine⟨hA.part (by simp only[List.append_assoc];exact ja),hKD.part (by simp only[List.append_assoc];exact ja),hK.part (by simp only[List.append_assoc];exact ja),rfl,fun e=>(by cases e),fun _=>rfl,?_,rfl⟩
    show rwX Rm=(rwX Rm).set 0 (List.replicate g.words 0)
    obtain⟨hl,he⟩:=List.getElem?_eq_some_iff.1 hm0
    rw[←he,List.set_getElem_self]
   unfold plL at hra;unfold KmG id kwL at hnew;dsimp only at hnew;refine yr1 ?_;refine K.drawn _ [(0,0),(2,1),(3,1),(4,1),(5,1),(6,1),(7,1),(1,2),(8,2),(9,0),(10,2)] (by kernel_rfl) (by kernel_rfl) (by kernel_rfl) (by kernel_rfl) (by kernel_rfl) (by kernel_rfl) (Part.takeA jP.head (Part.take jH.head (Part.takeA jP.head (Part.take jH.head (Part.take jH.head (Part.take jH.head (Part.take jH.head (Part.drop Part.all)))))))) ?_;refine zai ?_;refine zaO ?_;refine zaO ?_;refine KD.v1 rfl rfl (Val.fieldAddr0 (k:=3) rfl rfl) ?_;refine zx ?_;refine KD.v1 rfl rfl (Val.fieldAddr0 (k:=4) rfl rfl) ?_;refine zx ?_;refine zi fun T hT=>?_;refine(CallV.part (CallV.fn (hra _)) ja).mono ?_;rintro _ _ ⟨va',N1,hA',rfl,rfl⟩
   have t1:=hA'.o
   unfold arL;simp only[List.append_assoc];refine zh ?_;clear hT T;refine zi fun T hT=>?_;refine(CallV.part (CallV.fn (hnew _)) (by rw[hDD];simp only[List.append_assoc];exact ja)).mono ?_;rintro _ _ ⟨q',N2,hK',rfl,rfl⟩
   have p1:=hK'.oc
   have p2:=hK'.G.o1
   have p3:=hK'.G.o2
   have p4:=hK'.G.o3
   have p5:=hK'.oh
   have hD':=hfin va' q' N1 N2 hA' hK'
   unfold kmL;rw[hDD];simp only[List.append_assoc];refine zh ?_;clear hT T;refine zay ?_;refine zM ?_;refine zY ?_;refine yr2 ?_;exact KE.fin (H':=(N2++(N1++(oH iE 3 (List.replicate g.L.length 0) on++(oH wE 179 (List.replicate caps J5) ot++Dp))))++(Dm++(Dc++F))) jd rfl jc (by simp only[List.append_assoc];exact ja) ⟨v,_,_,hD',rfl,by simp only[List.append_assoc]⟩
end Go.Proofs.YtldomapkmopomaaGreatDoor.Sw
