/-The walker and contracts, part 29.-/
import Derived.Test.YtciaccbemnpipaaGreatDoorJ25
import Derived.Test.YtciaccbemnpipaaGreatDoorJ27
set_option linter.all false
namespace Go.Proofs.YtciaccbemnpipaaGreatDoor.Sw
set_option maxHeartbeats 8000000
open Go.Proofs.YtciaccbemnpipaaGreatDoor renaming lo -> qL, hi -> qH
open Go.RowKit
set_option maxRecDepth 10000
def cwL:List Nat:=[32,24,8]
theorem cw_ok:WsOk cwL:=⟨by decide,by decide,by decide⟩
theorem dig_cw (w:Nat):digK cwL w 3=[w%2^32,w/2^32%2^24,w/2^56%2^8]:=by
 have h1:=jcj (ws:=cwL) (w:=w) (k:=0) rfl
 have h2:=jcj (ws:=cwL) (w:=w) (k:=1) rfl
 have h3:=jcj (ws:=cwL) (w:=w) (k:=2) rfl
 have e0:digK cwL w 0=[]:=rfl
 rw[show(cwL.take 0).sum=0 from rfl,Nat.pow_zero,Nat.div_one] at h1;rw[show(cwL.take 1).sum=32 from rfl] at h2;rw[show(cwL.take 2).sum=56 from rfl] at h3;rw[h3,h2,h1,e0]
 rfl
theorem pack_cw (t i n:Nat):packK cwL [n,i,t] 3=capW t i n:=by
 have h1:=jaS (ws:=cwL) (vs:=[n,i,t]) (k:=0) rfl
 have h2:=jaS (ws:=cwL) (vs:=[n,i,t]) (k:=1) rfl
 have h3:=jaS (ws:=cwL) (vs:=[n,i,t]) (k:=2) rfl
 have e0:packK cwL [n,i,t] 0=0:=rfl
 rw[show(cwL.take 0).sum=0 from rfl] at h1;rw[show(cwL.take 1).sum=32 from rfl] at h2;rw[show(cwL.take 2).sum=56 from rfl] at h3;rw[h3,h2,h1,e0]
 have e1:(2:Nat)^32=4294967296:=by decide
 have e2:(2:Nat)^56=72057594037927936:=by decide
 rw[e1,e2];unfold capW
 simp
theorem jiV {w0:World} {H:jb}:Call Tryz.prog w0 216 [] H (fun r H'=> ∃ b,r= .slice (some ⟨b,0,none⟩) 3 3/\H'=(b,cells [.int .i64 32, .int .i64 24, .int .i64 8] 3)::H):=by
 refine en0 2 Tryz.func216 ?_
 (iterate 13 first|refine yS ?_|intro _)
 exact zX
def capV (w:Nat):Value:=if capG w=0 then .tuple [.agg [.int .i64 0, .int .i64 0, .int .u32 0].toArray, .int .i64 130].toArray else .tuple [.agg [.int .i64 (capT w:Nat), .int .i64 (capI w:Nat), .int .u32 (capG w:Nat)].toArray, .int .i64 0].toArray
theorem jgp {w0:World} {F:jb} {b1:Nat} {v:Value} {x:Int} {l:List Int} (hS:Sli w0 F uE v (x::l)) (hc:v.cells=[v].toArray) (hc2:(j9 v 1 (x::l).length uE.sz).oneCell'=true):Call Tryz.prog w0 217 [pt b1] ((b1,cells [v] 66)::F)
  (fun r H'=>r= .int .u64 x/\H'=(b1,cells [j9 v 1 (x::l).length uE.sz] 66)::F):=by
 have h0:(x::l)[Int.toNat 0]?=some x:=rfl
 have hlt:Int.toNat 0<(x::l).length:=by simp
 have hlt1:Int.toNat 1<=(x::l).length:=by simp
 refine en1 9 Tryz.func217 ?_;refine yr27 ?_;exact zd
theorem dig_cap (w:Nat) (hw:w<18446744073709551616):natL (digK cwL w 3)=[((capG w:Nat):Int),((capI w:Nat):Int),((capT w:Nat):Int)]:=by
 have e1:(2:Nat)^32=4294967296:=by decide
 have e2:(2:Nat)^24=16777216:=by decide
 have e3:(2:Nat)^56=72057594037927936:=by decide
 have e4:(2:Nat)^8=256:=by decide
 have h8:w/72057594037927936%256=w/72057594037927936:=Nat.mod_eq_of_lt bc
 rw[dig_cw,e1,e2,e3,e4,h8]
 rfl
theorem jjY {w0:World} {H:jb} {w:Nat} (hw:w<18446744073709551616):Cs w0 121 [.int .u64 (w:Nat)] H (capV w):=by
 have hg:capG w<4294967296:=by unfold capG;omega
 have hi:capI w<16777216:=by unfold capI;omega
 have ht:capT w<256:=by unfold capT;omega
 have hwd:=fun A=>jiV (w0:=w0) (H:=A)
 have hun:=fun A (b:Nat) (hS:Sli w0 A iE (.slice (some ⟨b,0,none⟩) 3 3) [32,24,8])=>jj9 (w0:=w0) (H:=A) (ws:=cwL) cw_ok rfl hw hS
 have hD:=dig_cap w hw
 have h3:cwL.length=3:=rfl
 simp only[h3,hD] at hun;clear hD;unfold capV
 obtain⟨gn,egn⟩: ∃ gn,gn=capG w:=⟨_,rfl⟩
 obtain⟨ix,eix⟩: ∃ ix,ix=capI w:=⟨_,rfl⟩
 obtain⟨tn,etn⟩: ∃ tn,tn=capT w:=⟨_,rfl⟩
 rw[<-egn] at hg;rw[<-eix] at hi;rw[<-etn] at ht;simp only[<-egn,<-eix,<-etn] at hun|-;clear egn eix etn;refine en1 40 Tryz.func121 ?_
 (iterate 10 first|refine yS ?_|intro _)
 refine Jx (hwd _) ?_;rintro _ _ ⟨bw,rfl,rfl⟩;refine yr2 ?_;refine Jx (hun _ bw (Sli.blk jK rfl bn bn rfl)) ?_;rintro _ _ ⟨o,ko,rfl,rfl⟩;refine yr4 ?_;intro b4;refine yr12 ?_;refine K.dr _ (od 0 [0,0,0,1,1,2,0,0,0]) Part.all ?_;refine yr5 ?_;refine zo fun T hT=>?_;refine(CallV.fn (hwd _)).mono ?_;rintro _ _ ⟨bw2,rfl,rfl⟩;refine zf ?_;clear hT T;refine yr8 ?_
 obtain⟨v0,hv0⟩: ∃ v0,v0=oV o [((gn:Nat):Int),((ix:Nat):Int),((tn:Nat):Int)].length:=⟨_,rfl⟩
 obtain⟨v1,hv1⟩: ∃ v1,v1=j9 v0 1 [((gn:Nat):Int),((ix:Nat):Int),((tn:Nat):Int)].length uE.sz:=⟨_,rfl⟩
 obtain⟨v2,hv2⟩: ∃ v2,v2=j9 v1 1 [((ix:Nat):Int),((tn:Nat):Int)].length uE.sz:=⟨_,rfl⟩
 have hS0: ∀ R,Sli w0 (oH uE 67 [((gn:Nat):Int),((ix:Nat):Int),((tn:Nat):Int)] o++R) uE v0 [((gn:Nat):Int),((ix:Nat):Int),((tn:Nat):Int)]:=fun R=>by rw[hv0];exact Sli.own jt ko rfl
 have hS1: ∀ R,Sli w0 (oH uE 67 [((gn:Nat):Int),((ix:Nat):Int),((tn:Nat):Int)] o++R) uE v1 [((ix:Nat):Int),((tn:Nat):Int)]:=fun R=>by rw[hv1];have:=(hS0 R).sub (l:=1) (h:=3) bF bF;simpa using this
 have hS2: ∀ R,Sli w0 (oH uE 67 [((gn:Nat):Int),((ix:Nat):Int),((tn:Nat):Int)] o++R) uE v2 [((tn:Nat):Int)]:=fun R=>by rw[hv2];have:=(hS1 R).sub (l:=1) (h:=2) bF bF;simpa using this
 have hc0:v0.cells=[v0].toArray:=by rw[hv0];exact jjz _ _
 have hc1:v1.cells=[v1].toArray:=by rw[hv1,hv0];cases o<;>rfl
 have hc2:v2.cells=[v2].toArray:=by rw[hv2,hv1,hv0];cases o<;>rfl
 have h10:(j9 v0 1 [((gn:Nat):Int),((ix:Nat):Int),((tn:Nat):Int)].length uE.sz).oneCell'=true:=by rw[hv0];cases o<;>rfl
 have h11:(j9 v1 1 [((ix:Nat):Int),((tn:Nat):Int)].length uE.sz).oneCell'=true:=by rw[hv1,hv0];cases o<;>rfl
 have h12:(j9 v2 1 [((tn:Nat):Int)].length uE.sz).oneCell'=true:=by rw[hv2,hv1,hv0];cases o<;>rfl
 rw[<-hv0];refine yq3 fun T hT=>?_;refine(CallV.part (CallV.clo (args:=[]) (cap:=[pt b4]) (jgp (hS0 _) hc0 h10)) ja).mono ?_;rintro _ _ ⟨rfl,rfl⟩;rw[<-hv1];refine ze ?_;clear hT T;refine yq2 fun T hT=>?_;refine(CallV.part (CallV.clo (args:=[]) (cap:=[pt b4]) (jgp (hS1 _) hc1 h11)) ja).mono ?_;rintro _ _ ⟨rfl,rfl⟩;rw[<-hv2];refine ze ?_;clear hT T;refine yr3 ?_;refine(CallV.part (CallV.clo (args:=[]) (cap:=[pt b4]) (jgp (hS2 _) hc2 h12)) ja).mono ?_;rintro _ _ ⟨rfl,rfl⟩
 by_cases hz:gn=0
 ·have hz':((gn:Nat):Int)=0:=by omega
  rw[if_pos hz]
  (iterate 25 first|refine yS ?_|intro _)
  exact zd
 ·have hz': ¬((gn:Nat):Int)=0:=by omega
  rw[if_neg hz]
  (iterate 26 first|refine yS ?_|intro _)
  exact zd
structure FiS where
 k:Nat
theorem fit_K {w0:World} {H:jb} {v:Value} {t i:Nat} (ht:t<256) (hi:i<16777216) (hS:Sli w0 H iE v [((t:Nat):Int),8,((i:Nat):Int),24]):Cs w0 362 [v] H (.bool true):=by
 obtain⟨L,hL⟩: ∃ L:List Int,L=[((t:Nat):Int),8,((i:Nat):Int),24]:=⟨_,rfl⟩
 rw[<-hL] at hS
 have x0:L[0]?=some ((t:Nat):Int):=by rw[hL];rfl
 have x1:L[0+1]?=some 8:=by rw[hL];rfl
 have x2:L[2]?=some ((i:Nat):Int):=by rw[hL];rfl
 have x3:L[2+1]?=some 24:=by rw[hL];rfl
 have hLl:L.length=4:=by rw[hL];rfl
 clear hL
 have s1:((t:Nat):Int).fdiv (2^(min (Int.toNat 8) IntKind.i64.bits))=0:=by
  rw[show(2:Int)^(min (Int.toNat 8) IntKind.i64.bits)=256 by decide,Int.fdiv_eq_ediv_of_nonneg _ bc];omega
 have s2:((i:Nat):Int).fdiv (2^(min (Int.toNat 24) IntKind.i64.bits))=0:=by
  rw[show(2:Int)^(min (Int.toNat 24) IntKind.i64.bits)=16777216 by decide,Int.fdiv_eq_ediv_of_nonneg _ bc];omega
 refine en1 29 Tryz.func362 ?_;refine yr12 ?_;refine K.loopT (σ:=FiS) [(0,_)] (fun s kp_=>(3, .int .i64 (s.k:Nat))::kp_) (fun s=>H) (fun s=>s.k=0\/s.k=2\/s.k=4) (fun s=>4-s.k) (⟨0⟩) jg ja (.inl rfl) ?_;rintro⟨k⟩ hk;dsimp only at hk|-
 rcases hk with rfl|rfl|rfl
 ·refine yr16 ?_;refine K.dr [] (od 0 [0,0,0,0,0,0,0,0,0,0,0,0,0,0,0,0,0,0]) Part.nil ?_;refine yr29 ?_;exact KE.again ⟨2⟩ jg ja (.inr (.inl rfl)) (by show 4-2<4-0;decide)
 ·refine yr16 ?_;refine K.dr [] (od 0 [0,0,0,0,0,0,0,0,0,0,0,0,0,0,0,0,0,0]) Part.nil ?_;refine yr29 ?_;exact KE.again ⟨4⟩ jg ja (.inr (.inr rfl)) (by show 4-4<4-2;decide)
 ·refine yr22 ?_;exact zd
theorem capPut_K {w0:World} {H:jb} {t i n:Nat} (ht:t<256) (hi:i<16777216) (hn:1<=n/\n<4294967296):Cs w0 296 [.agg [.int .i64 (t:Nat), .int .i64 (i:Nat), .int .u32 (n:Nat)].toArray] H (.tuple [.int .u64 (capW t i n:Nat), .int .i64 0].toArray):=by
 have hn0: ¬((n:Nat):Int)=0:=by omega
 have hfit:=fun A v (hS:Sli w0 A iE v [((t:Nat):Int),8,((i:Nat):Int),24])=>fit_K (w0:=w0) ht hi hS
 have hwd:=fun A=>jiV (w0:=w0) (H:=A)
 have hpk:packK cwL [n,i,t] cwL.length=capW t i n:=pack_cw t i n
 have hf: ∀ (q m v:Nat),cwL[q]?=some m-> [n,i,t][q]?=some v->v<2^m:=fun q m v h1 h2=>by
  match q,h1,h2 with
  |0,h1,h2=>cases h1;cases h2;exact hn.2
  |1,h1,h2=>cases h1;cases h2;exact hi
  |2,h1,h2=>cases h1;cases h2;exact ht
  |q+3,h1,h2=>simp[cwL] at h1
 have hpack:=fun A v vv (hS:Sli w0 A iE v [32,24,8]) (hV:Sli w0 A uE vv [((n:Nat):Int),((i:Nat):Int),((t:Nat):Int)]) (hc:vv.cells=[vv].toArray)=>Pack_K (w0:=w0) (H:=A) (ws:=cwL) (vs:=[n,i,t]) cw_ok rfl hf hS hV hc
 rw[hpk] at hpack;refine en1 30 Tryz.func296 ?_
 (iterate 22 first|refine yS ?_|intro _)
 refine jj (hfit _ _ (Sli.blk jK rfl (Nat.le_refl 4) bn rfl)) ?_;refine yr7 ?_;refine zi ?_
 (repeat refine K.seq ?_)
 refine K.dr _ [(1,1),(2,1),(3,1),(4,1),(5,1),(6,1),(7,1),(8,1),(9,1),(0,3),(10,2),(11,2),(12,0),(13,0),(14,0),(15,0)] Part.all ?_;refine yr9 ?_
 --FORK at region 3:[(0,3),(10,2),(11,2),(12,0),(13,0),(14,0),(15,0)]
 refine KD.fork2 (x:=0) (y:=10) (o1:=[(10,2),(11,2),(12,0),(13,0),(14,0),(15,0)]) (o2:=[(0,2),(11,2),(12,0),(13,0),(14,0),(15,0)]) bu rfl rfl bu bu ?_ ?_
 ·refine zk fun T hT=>?_;refine(CallV.fn (hwd _)).mono ?_;rintro _ _ ⟨bw,rfl,rfl⟩;refine zf ?_;clear hT T;refine yr1 ?_;intro b26;refine yr2 ?_;refine zca ?_;refine yr7 ?_;exact zd
 ·(refine jR.e rfl (Eff.buildS jdJ rfl rfl rfl rfl rfl jdM) ?_;rintro _ _ ⟨b26,rfl,rfl⟩;refine⟨ja,?_⟩)
  refine yr1 ?_;refine Jx (hwd _) ?_;rintro _ _ ⟨bw,rfl,rfl⟩;refine yr2 ?_;refine zca ?_;refine yr7 ?_;exact zd
def KmO (w0:World) (D F:jb) (v:PlV) (g:PlG) (long:Nat) (m:MaP) (o:Option MaP) (r:Value) (H':jb):Prop:=
 ∃ (q':KmV) (N:jb),KmD w0 (N++D) q' (o.getD m)/\r= .tuple [.agg (kmL v g long q' (o.getD m)).toArray, .bool o.isSome].toArray/\H'=N++(D++F)
section
variable {w0 : World} {D F : jb} {v : PlV} {g : PlG} {long : Nat} {q : KmV} {m : MaP} {W : MwP}
theorem rktake_K {i:Nat} (hP:jad w0 D v g) (ok:jh g) (hK:KmD w0 D q m) (hm:jw g long W m) (hlg:long<=64) (hi:i<m.hs.length):
  Call Tryz.prog w0 109 [.agg (kmL v g long q m).toArray, .int .i64 (i:Nat)] (D++F) (KmO w0 D F v g long m (takeM m i)):=by
 have q1:=hP.oL
 have q2:=hP.oF
 have q3:=hP.oM
 have q4:=hP.oC
 have q5:=hK.G.o1
 have q6:=hK.G.o2
 have q7:=hK.G.o3
 have q8:=hK.oc
 have q9:=hK.oh
 have hH:=hK.H
 obtain⟨h,hh⟩:=jq hi
 have hha:=jaG hh
 have hnx:=fun A=>ryNext_K (w0:=w0) (D:=D) (F:=A) hP hK.G hm.G ok hlg
 unfold gyL at hnx;unfold KmO
 obtain⟨hsl,hfi,his⟩:=h
 cases his with
 |true=>
  have hmn:takeM m i=none:=by unfold takeM;rw [hha];rfl
  rw[hmn];simp only[Option.isSome,Option.getD];unfold kmL;refine en2 33 Tryz.func109 ?_
  (iterate 30 first|refine yS ?_|intro _)
  exact zU
 |false=>
  unfold kmL;refine en2 33 Tryz.func109 ?_
  (iterate 6 first|refine yS ?_|intro _);refine yq21 fun T hT=>?_
  refine(CallV.part (CallV.fn (hnx _)) ja).mono ?_;rintro _ _ (⟨hq,rfl,rfl⟩|⟨s,qq,u',N1,hq,hG',rfl,rfl⟩)
  ·have hmn:takeM m i=none:=by unfold takeM;rw [hha,if_neg bF,hq]
   refine ze ?_;clear hT T;rw[hmn];simp only[Option.isSome,Option.getD]
   (iterate 28 first|refine yS ?_|intro _)
   exact zU
  ·have hmn:takeM m i=some {m with G:={m.G with q:=qq},hs:=m.hs.set i ⟨(s:Nat),0,true⟩}:=by unfold takeM;rw [hha,if_neg bF,hq]
   have p5:=hG'.o1
   have p6:=hG'.o2
   have p7:=hG'.o3
   have hG1:J4 g long {m.G with q:=qq}:=⟨fun s hs=>hm.G.q s (by rw[hq];exact List.mem_cons_of_mem _ hs),by have:=hm.G.ql;rw [hq] at this;simp at this|-;omega,hm.G.ow,hm.G.di,hm.G.pg,hm.G.no,hm.G.od⟩
   have hK1:KmD w0 (N1++D) ⟨q.c,u',q.h⟩ {m with G:={m.G with q:=qq}}:=⟨hK.C.part ja,hG',hK.H.part ja,q8,q9⟩
   have hm1:jw g long W {m with G:={m.G with q:=qq}}:=⟨hm.C,hm.c,hG1,hm.hs,hm.h,hm.root⟩
   have hhe:=fun A=>jd1 (w0:=w0) (D:=N1++D) (F:=A) (h:=⟨(s:Nat),0,true⟩) (hP.part ja) hK1 hm1 hi
   unfold KmG id kmL at hhe;dsimp only at hhe;refine ze ?_;clear hT T;rw[hmn];simp only[Option.isSome,Option.getD]
   (iterate 35 first|refine yS ?_|intro _)
   refine je (hhe _) bz ?_;rintro _ _ ⟨q',N2,hK2,rfl,rfl⟩
   have r5:=hK2.G.o1
   have r6:=hK2.G.o2
   have r7:=hK2.G.o3
   have r8:=hK2.oc
   have r9:=hK2.oh
   refine yr5 ?_;exact zcb
theorem rkwalk_K {i:Nat} (hP:jad w0 D v g) (ok:jh g) (hK:KmD w0 D q m) (hm:jw g long W m) (hlg:long<=64) (hi:i<m.hs.length):
  Call Tryz.prog w0 111 [.agg (kmL v g long q m).toArray, .int .i64 (i:Nat)] (D++F) (KmO w0 D F v g long m (walkM g m i)):=by
 have q1:=hP.oL
 have q2:=hP.oF
 have q3:=hP.oM
 have q4:=hP.oC
 have q5:=hK.G.o1
 have q6:=hK.G.o2
 have q7:=hK.G.o3
 have q8:=hK.oc
 have q9:=hK.oh
 have hH:=hK.H
 obtain⟨h,hh⟩:=jq hi
 have hha:=jaG hh
 have hwk:=fun A=>ryWalk_K (w0:=w0) (D:=D) (F:=A) hP hK.G hm.G ok hlg
 unfold gyL at hwk;unfold KmO
 obtain⟨hsl,hfi,his⟩:=h
 cases his with
 |true=>
  have hmn:walkM g m i=none:=by unfold walkM;rw [hha];rfl
  rw[hmn];simp only[Option.isSome,Option.getD];unfold kmL;refine en2 37 Tryz.func111 ?_
  (iterate 30 first|refine yS ?_|intro _)
  exact zU
 |false=>
  unfold kmL;refine en2 37 Tryz.func111 ?_
  (iterate 6 first|refine yS ?_|intro _);refine yq21 fun T hT=>?_
  refine(CallV.part (CallV.fn (hwk _)) ja).mono ?_;rintro _ _ (⟨hq,rfl,rfl⟩|⟨o,G',u',N1,hq,hG',rfl,rfl⟩)
  ·have hmn:walkM g m i=none:=jiX hq
   refine ze ?_;clear hT T;rw[hmn];simp only[Option.isSome,Option.getD]
   (iterate 30 first|refine yS ?_|intro _)
   exact zU
  ·have hmn:walkM g m i=some (wtM m i o G'):=jhS (by rw[hha]) hq
   have p5:=hG'.o1
   have p6:=hG'.o2
   have p7:=hG'.o3
   obtain⟨j,Gj,hop,hw1⟩: ∃ j Gj,openG m.G=some (j,Gj)/\walk1 g j Gj=(o,G'):=by
    unfold walkG at hq
    cases ho:openG m.G with
    |none=>rw [ho] at hq;cases hq
    |some x=>rw [ho] at hq;exact⟨x.1,x.2,rfl,by simpa using hq⟩
   obtain⟨hGj,hpj,_⟩:=jdU ok hm.G hop
   have hG1:J4 g long G':=by have:=(jiY ok hGj hpj).1;rw [hw1] at this;exact this
   have hK1:KmD w0 (N1++D) ⟨q.c,u',q.h⟩ {m with G:=G'}:=⟨hK.C.part ja,hG',hK.H.part ja,q8,q9⟩
   have hm1:jw g long W {m with G:=G'}:=⟨hm.C,hm.c,hG1,hm.hs,hm.h,hm.root⟩
   cases o with
   |none=>
    unfold nxI;dsimp only[Option.isSome,Option.getD];refine ze ?_;clear hT T;rw[hmn];simp only[Option.isSome,Option.getD,wtM]
    (iterate 47 first|refine yS ?_|intro _)
    exact KE.fin jd rfl jc ja ⟨⟨q.c,u',q.h⟩,N1,hK1,rfl,rfl⟩
   |some s=>
    have hhe:=fun A=>jd1 (w0:=w0) (D:=N1++D) (F:=A) (h:=⟨(s:Nat),0,true⟩) (hP.part ja) hK1 hm1 hi
    unfold KmG id kmL at hhe;dsimp only at hhe;unfold nxI;dsimp only[Option.isSome,Option.getD];refine ze ?_;clear hT T;rw[hmn];simp only[Option.isSome,Option.getD,wtM]
    (iterate 43 first|refine yS ?_|intro _)
    refine je (hhe _) bz ?_;rintro _ _ ⟨q',N2,hK2,rfl,rfl⟩
    have r5:=hK2.G.o1
    have r6:=hK2.G.o2
    have r7:=hK2.G.o3
    have r8:=hK2.oc
    have r9:=hK2.oh
    refine yr11 ?_;exact zcb
end
structure KwV where
 vr:Value
 vt:Value
 vn:Value
 R:List RwD
 gens:Int
def kwL (v:PlV) (g:PlG) (z:KwV):List Value:=[z.vr, .int .i64 (v.t:Nat),v.L,v.F,v.M, .int .i64 (g.words:Nat),v.C,z.vt, .int .i64 z.gens,z.vn]
structure KwD (w0:World) (D:jb) (v:PlV) (g:PlG) (z:KwV) (W:MwP):Prop where
 B:BoD w0 D v z.vr g z.R
 f:BoF g z.R v.t W.x
 T:Sli w0 D wE z.vt (W.T.map j5)
 N:Sli w0 D iE z.vn W.N
 oT:z.vt.oneCell'=true
 oN:z.vn.oneCell'=true
 w:Jv g W
 rf:jaD g W.x
 st:StOk W.T
theorem KwD.part {w0:World} {D D':jb} {v:PlV} {g:PlG} {z:KwV} {W:MwP} (h:KwD w0 D v g z W) (hp:Part D' D):KwD w0 D' v g z W:=⟨h.B.part hp,h.f,h.T.part hp,h.N.part hp,h.oT,h.oN,h.w,h.rf,h.st⟩
section
variable {w0 : World} {D F : jb} {v : PlV} {g : PlG} {long : Nat} {q : KmV} {m : MaP} {W : MwP} {z : KwV}
theorem jis (hW:KwD w0 D v g z W):
  Cs w0 181 [.agg (kwL v g z).toArray] (D++F) (.int .i64 ((W.T.length+g.slots:Nat):Int)):=by
 have q1:=hW.B.p.oL
 have q2:=hW.B.p.oF
 have q3:=hW.B.p.oM
 have q4:=hW.B.p.oC
 have q5:=hW.B.m.o
 have q6:=hW.oT
 have q7:=hW.oN
 have hT:=hW.T
 have hL:=hW.B.p.L
 have hll:=jak (g:=g)
 have hsl:=hW.f.ok.slots
 have htl:(W.T.map j5).length=W.T.length:=List.length_map ..
 have h1024:=hW.st.1
 have e:(((W.T.map j5).length:Nat):Int)+((g.L.length:Nat):Int)=((W.T.length+g.slots:Nat):Int):=by omega
 unfold kwL;refine en1 13 Tryz.func181 ?_
 (iterate 23 first|refine yS ?_|intro _)
 rw[e];exact zd
theorem rkroot_K (ok:jh g) (hK:KmD w0 D q m) (hm:jw g long W m) (hlg:long<=64) (hW:KwD w0 D v g z W):
  Call Tryz.prog w0 108 [.agg (kmL v g long q m).toArray, .agg (kwL v g z).toArray] (D++F) (KmO w0 D F v g long m (rootM g long W m)):=by
 have hP:=hW.B.p
 have q1:=hP.oL
 have q2:=hP.oF
 have q3:=hP.oM
 have q4:=hP.oC
 have q5:=hK.G.o1
 have q6:=hK.G.o2
 have q7:=hK.G.o3
 have q8:=hK.oc
 have q9:=hK.oh
 have r5:=hW.B.m.o
 have r6:=hW.oT
 have r7:=hW.oN
 have hT:=hW.T
 have hN:=hW.N
 have hNl:=hW.w.N
 have hsl:=ok.slots
 have htl:(W.T.map j5).length=W.T.length:=List.length_map ..
 have h1024:=hW.st.1
 have hroots:=fun A=>jis (w0:=w0) (F:=A) hW
 have hrt:=hm.root
 unfold kwL at hroots|-;unfold KmO
 by_cases hlt:m.root<W.T.length+g.slots
 ·have hge: ¬((m.root:Nat):Int)>=((W.T.length+g.slots:Nat):Int):=by omega
  have hrm:rootM g long W m=some (Jf g long {m with root:=m.root+1} (jL g W m.root)):=by unfold rootM;rw [if_pos hlt]
  rw[hrm];simp only[Option.isSome,Option.getD]
  have hK1:KmD w0 D q {m with root:=m.root+1}:=⟨hK.C,hK.G,hK.H,hK.oc,hK.oh⟩
  have hm1:jw g long W {m with root:=m.root+1}:=⟨hm.C,hm.c,hm.G,hm.hs,hm.h,by show m.root+1<=_;omega⟩
  have e1:((m.root:Nat):Int)+1=((m.root+1:Nat):Int):=by omega
  have hsh:=fun A (s:Nat) (hs:s<g.slots)=>jf7 (w0:=w0) (F:=A) hP ok hK1 hm1 hlg hs
  unfold KmG id at hsh
  by_cases hrl:m.root<W.T.length
  ·have hrl':((m.root:Nat):Int)<((W.T.map j5).length:Nat):=by omega
   obtain⟨e,he⟩:=jq hrl
   have hst:=hW.st.2 e (List.mem_of_getElem? he)
   have he':(W.T.map j5)[m.root]?=some (j5 e):=by rw[List.getElem?_map,he];rfl
   have hds:=(jbn e).1
   have hro:jL g W m.root=if e.st=1 then some e.slot else none:=by unfold jL;rw [he]
   by_cases h1:e.st=1
   ·have h2:(stB (j5 e).st.toNat).1.toList=[108,105,118,101]:=by rw[hds,h1];rfl
    have hd1:j5 e=e:=by unfold j5;rw [if_pos h1]
    rw[if_pos h1] at hro
    have hin:=jeD hW.w hlt hro
    obtain⟨s,hs⟩: ∃ s:Nat,e.slot=s:=⟨e.slot.toNat,by omega⟩
    have hsl':(j5 e).slot=(s:Nat):=by rw[hd1,hs]
    rw[hro,hs]
    have hsh1:=fun A=>hsh A s bc
    obtain⟨m1,hm1'⟩: ∃ m1,m1=Jt g long {m with root:=m.root+1} ((s:Nat):Int):=⟨_,rfl⟩
    have hso:Jf g long {m with root:=m.root+1} (some ((s:Nat):Int))=m1:=hm1'.symm
    rw[hso];simp only[<-hm1'] at hsh1;unfold kmL at hsh1|-;dsimp only at hsh1;refine en2 63 Tryz.func108 ?_
    (iterate 13 first|refine yS ?_|intro _)
    refine zaG ?_;refine yr4 ?_;refine zaH ?_;refine yr48 ?_;refine K.dr [] (od 0 [0,0,0,0,0,0,0,0,2,2]) Part.nil ?_;refine yr8 ?_;refine zj fun T hT=>?_;rw[hsl',e1];refine(CallV.part (CallV.fn (hsh1 _)) ja).mono ?_;rintro _ _ ⟨q',N,hK',rfl,rfl⟩
    have p5:=hK'.G.o1
    have p6:=hK'.G.o2
    have p7:=hK'.G.o3
    have p8:=hK'.oc
    have p9:=hK'.oh
    refine zf ?_;clear hT T;refine yr13 ?_;exact za1
   ·have h2: ¬(stB (j5 e).st.toNat).1.toList=[108,105,118,101]:=jkq (by rw[hds];exact hst) (by rw[hds];exact h1)
    rw[if_neg h1] at hro;rw[hro]
    have hso:Jf g long {m with root:=m.root+1} none={m with root:=m.root+1}:=rfl
    rw[hso];unfold kmL;dsimp only;refine en2 63 Tryz.func108 ?_
    (iterate 13 first|refine yS ?_|intro _)
    refine zaG ?_;refine yr4 ?_;refine zaH ?_;refine yr59 ?_;rw[e1];exact KE.fin jd rfl jc ja ⟨q,[],hK1,rfl,rfl⟩
  ·have hrl': ¬((m.root:Nat):Int)<((W.T.map j5).length:Nat):=by omega
   have hj:((m.root:Nat):Int)-(((W.T.map j5).length:Nat):Int)=((m.root-W.T.length:Nat):Int):=by omega
   obtain⟨j,hjd⟩: ∃ j,m.root-W.T.length=j:=⟨_,rfl⟩
   rw[hjd] at hj
   obtain⟨c,hc⟩:=jq (l:=W.N) (k:=j) bc
   have hjs:j<g.slots:=by omega
   have hro:jL g W m.root=if 0<c then some ((j:Nat):Int) else none:=by
    unfold jL;rw[List.getElem?_eq_none bc];dsimp only;rw[hjd,hc];rfl
   have hjl:j<W.N.length:=by omega
   by_cases h1:0<c
   ·have h1':c>0:=h1
    rw[if_pos h1] at hro;rw[hro]
    have hsh1:=fun A=>hsh A j hjs
    obtain⟨m1,hm1'⟩: ∃ m1,m1=Jt g long {m with root:=m.root+1} ((j:Nat):Int):=⟨_,rfl⟩
    have hso:Jf g long {m with root:=m.root+1} (some ((j:Nat):Int))=m1:=hm1'.symm
    rw[hso];simp only[<-hm1'] at hsh1;unfold kmL at hsh1|-;dsimp only at hsh1;refine en2 63 Tryz.func108 ?_
    (iterate 13 first|refine yS ?_|intro _)
    refine zaG ?_;refine yr4 ?_;refine zaH ?_;refine yr36 ?_;refine zg ?_;refine yr8 ?_;rw[hj];refine yq14 fun T hT=>?_;rw[hj,e1];refine(CallV.part (CallV.fn (hsh1 _)) ja).mono ?_;rintro _ _ ⟨q',N,hK',rfl,rfl⟩
    have p5:=hK'.G.o1
    have p6:=hK'.G.o2
    have p7:=hK'.G.o3
    have p8:=hK'.oc
    have p9:=hK'.oh
    refine ze ?_;clear hT T;refine yr11 ?_;exact za1
   ·have h1': ¬c>0:=h1
    rw[if_neg h1] at hro;rw[hro]
    have hso:Jf g long {m with root:=m.root+1} none={m with root:=m.root+1}:=rfl
    rw[hso];unfold kmL;dsimp only;refine en2 63 Tryz.func108 ?_
    (iterate 13 first|refine yS ?_|intro _)
    refine zaG ?_;refine yr4 ?_;refine zaH ?_;refine yr36 ?_;refine zg ?_;refine yr8 ?_;rw[hj];refine yr16 ?_;rw[e1];exact KE.fin jd rfl jc ja ⟨q,[],hK1,rfl,rfl⟩
 ·have hge:((m.root:Nat):Int)>=((W.T.length+g.slots:Nat):Int):=by omega
  have hrm:rootM g long W m=none:=by unfold rootM;rw [if_neg hlt]
  rw[hrm];simp only[Option.isSome,Option.getD];unfold kmL;refine en2 63 Tryz.func108 ?_
  (iterate 13 first|refine yS ?_|intro _)
  refine zaG ?_;refine yr4 ?_;refine zaH ?_;refine yr13 ?_;exact zU
end
theorem clip_eq (n:Nat):(if (4611686018427387904:Int)<(if ((n:Nat):Int)<0 then 0 else((n:Nat):Int)) then 4611686018427387904 else(if ((n:Nat):Int)<0 then 0 else((n:Nat):Int)))=((min n M62:Nat):Int):=by
 have hM:M62=4611686018427387904:=rfl
 rw[if_neg (show ¬((n:Nat):Int)<0 by omega),hM]
 split<;>omega
theorem clip_K {w0:World} {H:jb} {n:Nat}:Cs w0 390 [.int .i64 (n:Nat)] H (.int .i64 (min n M62:Nat)):=by
 refine en1 6 Tryz.func390 ?_;refine yr14 ?_;exact KE.fin jd rfl jc ja ⟨by rw[clip_eq];rfl,rfl⟩
theorem jeW {w0:World} {H:jb} {a b:Nat} (ha:a<=M62) (hb:b<=M62):Cs w0 364 [.int .i64 (a:Nat), .int .i64 (b:Nat)] H (.int .i64 (satA a b:Nat)):=by
 have hM:M62=4611686018427387904:=rfl
 by_cases h1:a+b<9223372036854775808
 ·have e1:((a:Nat):Int)+((b:Nat):Int)=((a+b:Nat):Int):=by omega
  have h2: ¬((a:Nat):Int)<0:=by omega
  have h3: ¬((a+b:Nat):Int)<0:=by omega
  have hc:=fun A=>clip_K (w0:=w0) (H:=A) (n:=a+b)
  have hs:min (a+b) M62=satA a b:=rfl
  rw[hs] at hc
  by_cases ha0:((a:Nat):Int)>0
  ·by_cases hb0:((b:Nat):Int)>0
   ·refine en2 29 Tryz.func364 ?_;refine yr13 ?_;rw[e1];refine yr37 ?_;refine jj (hc _) ?_;refine yr4 ?_;exact zd
   ·refine en2 29 Tryz.func364 ?_;refine yr13 ?_;rw[e1];refine yr37 ?_;refine jj (hc _) ?_;refine yr4 ?_;exact zd
  ·refine en2 29 Tryz.func364 ?_;refine yr13 ?_;rw[e1];refine yr37 ?_;refine jj (hc _) ?_;refine yr4 ?_;exact zd
 ·have e1:a=4611686018427387904:=by omega
  have e2:b=4611686018427387904:=by omega
  subst e1 e2
  have hs:satA 4611686018427387904 4611686018427387904=4611686018427387904:=by decide
  rw[hs];refine en2 29 Tryz.func364 ?_;refine yr13 ?_;rw[show IntKind.i64.wrap (((4611686018427387904:Nat):Int)+((4611686018427387904:Nat):Int))= -9223372036854775808 by decide];refine yr26 ?_;exact zd
theorem satSub_K {w0:World} {H:jb} {a:Nat} (ha:a<=M62):Cs w0 366 [.int .i64 (a:Nat), .int .i64 1] H (.int .i64 (a-1:Nat)):=by
 have hM:M62=4611686018427387904:=rfl
 by_cases h1:((a:Nat):Int)<=1
 ·have hs:((a-1:Nat):Int)=0:=by omega
  rw[hs];refine en2 18 Tryz.func366 ?_;refine yr30 ?_;exact zd
 ·have e1:((a:Nat):Int)-1=((a-1:Nat):Int):=by omega
  have h3: ¬((a-1:Nat):Int)<0:=by omega
  have hc:=fun A=>clip_K (w0:=w0) (H:=A) (n:=a-1)
  rw[show min (a-1) M62=a-1 by omega] at hc;refine en2 18 Tryz.func366 ?_;refine yr31 ?_;rw[e1];refine yr4 ?_;refine jj (hc _) ?_;refine yr5 ?_;exact zd
theorem jip {w0:World} {H:jb} {n:Nat} (hn:n<9223372036854775808):Cs w0 402 [.int .i64 (n:Nat)] H (.tuple [.int .u64 (n:Nat), .bool false].toArray):=by
 have h3: ¬((n:Nat):Int)<0:=by omega
 refine en1 11 Tryz.func402 ?_;refine yr25 ?_;exact zd
theorem mul1_K {w0:World} {H:jb} {n:Nat}:Cs w0 392 [.int .u64 0, .int .u64 (n:Nat)] H (.int .u64 (n:Nat)):=by
 refine en2 8 Tryz.func392 ?_;refine yr22 ?_;exact zd
theorem mul64_K {w0:World} {H:jb} (x y:Nat) (hx:x<18446744073709551616) (hy:y<18446744073709551616):
  Cs w0 331 [.int .u64 x, .int .u64 y] H (.tuple #[.int .u64 ((x*y/18446744073709551616:Nat):Int), .int .u64 ((x*y%18446744073709551616:Nat):Int)]):=by
 refine⟨by kernel_rfl,fun w hw=>?_⟩;refine(Tryz.bits_Mul64 x y hx hy w).mono ?_;rintro e w' ⟨he,rfl⟩;exact⟨_,_,he,hw,rfl,rfl⟩
theorem jkU {w0:World} {H:jb} {a b:Nat} (ha:a<=1048576) (hb:b<=1048576):Cs w0 391 [.int .i64 (a:Nat), .int .i64 (b:Nat), .func (.func 392) #[] #[]] H (.int .i64 (a*b:Nat)):=by
 have hab:a*b<=1048576*1048576:=Nat.mul_le_mul ha hb
 have s1:=fun A=>jip (w0:=w0) (H:=A) (n:=a) bc
 have s2:=fun A=>jip (w0:=w0) (H:=A) (n:=b) bc
 have hm:=fun A=>mul64_K (w0:=w0) (H:=A) a b bc bc
 obtain⟨p,hp⟩: ∃ p,p=a*b:=⟨_,rfl⟩
 rw[<-hp] at hab hm|-;rw[show p/18446744073709551616=0 by omega,show p%18446744073709551616=p by omega] at hm;refine en3 41 Tryz.func391 ?_;refine yr9 ?_;refine jj (s1 _) ?_;refine yr11 ?_;refine jj (s2 _) ?_
 by_cases h1:((a:Nat):Int)=0
 ·have:p=0:=by rw[hp,show a=0 by omega,Nat.zero_mul]
  subst this;refine yr31 ?_;exact zd
 ·by_cases h2:((b:Nat):Int)=0
  ·have:p=0:=by rw[hp,show b=0 by omega,Nat.mul_zero]
   subst this;refine yr31 ?_;exact zd
  ·(refine KL.v rfl (Val.move rfl) ?_)
   refine yr31 ?_;refine jj (hm _) ?_;refine yr3 ?_;refine jj (mul1_K (n:=p)) ?_
   have e5:(if (4611686018427387904:Int)<((p:Nat):Int) then 4611686018427387904 else((p:Nat):Int))=((p:Nat):Int):=if_neg bc
   refine yr6 ?_;exact KE.fin jd rfl jc ja ⟨by simp only[e5];rfl,rfl⟩
theorem satMul_K {w0:World} {H:jb} {a b:Nat} (ha:a<=1048576) (hb:b<=1048576):Cs w0 365 [.int .i64 (a:Nat), .int .i64 (b:Nat)] H (.int .i64 (a*b:Nat)):=by
 refine en2 8 Tryz.func365 ?_;refine yr10 ?_;refine jj (jkU ha hb) ?_;refine yr4 ?_;exact zd
structure PcM where
 b:Nat
 tr:Nat
 ast:Nat
 p:PaP
def paceH (q:PcM):jb:=[(q.b,cells [.int .i64 (q.tr:Nat), .int .i64 (q.ast:Nat), .int .i64 (q.p.since:Nat), .int .i64 (q.p.total:Nat), .int .i64 (q.p.debt:Nat), .int .i64 (q.p.cyc:Nat), .bool q.p.act] 158)]
theorem paceH_app {q:PcM} {F:jb}:paceH q++F=(q.b,cells [.int .i64 (q.tr:Nat), .int .i64 (q.ast:Nat), .int .i64 (q.p.since:Nat), .int .i64 (q.p.total:Nat), .int .i64 (q.p.debt:Nat), .int .i64 (q.p.cyc:Nat), .bool q.p.act] 158)::F:=rfl
structure jbJ (q:PcM):Prop where
 tr:1<=q.tr/\q.tr<=1048576
 ast:q.ast<=1024
 p:PaB q.p
section
variable {w0 : World} {F : jb} {q : PcM}
theorem pcnone_K (ok:jbJ q):Cs w0 63 [pt q.b] (paceH q++F) (.bool false):=by
 have h1: ¬((q.tr:Nat):Int)=0:=by have:=ok.tr;omega
 refine en1 12 Tryz.func63 ?_;simp only[paceH_app];refine yr20 ?_;exact zF
theorem jmH (ok:jbJ q):Cs w0 31 [pt q.b] (paceH q++F) (.int .i64 (q.p.since:Nat)):=by
 refine en1 9 Tryz.func31 ?_;refine yr10 ?_;refine zaq ?_;simp only[paceH_app];refine yr15 ?_;exact zF
theorem jlD (ok:jbJ q):Cs w0 32 [pt q.b] (paceH q++F) (.int .i64 (q.p.cyc:Nat)):=by
 refine en1 9 Tryz.func32 ?_;refine yr10 ?_;refine zaq ?_;simp only[paceH_app];refine yr15 ?_;exact zF
theorem pcDebt_K (ok:jbJ q):Cs w0 298 [pt q.b] (paceH q++F) (.int .i64 (q.p.debt:Nat)):=by
 refine en1 9 Tryz.func298 ?_;refine yr10 ?_;refine zaq ?_;simp only[paceH_app];refine yr15 ?_;exact zF
theorem jlE (ok:jbJ q):Cs w0 33 [pt q.b] (paceH q++F) (.bool q.p.act):=by
 refine en1 12 Tryz.func33 ?_;refine yr9 ?_;refine zaq ?_;simp only[paceH_app];refine yr11 ?_;exact zF
theorem pcPay_K (ok:jbJ q):Call Tryz.prog w0 300 [pt q.b, .int .i64 1] (paceH q++F) (fun r H'=>(∃ z,r= .int .i64 z)/\H'=paceH {q with p:={q.p with debt:=q.p.debt-1}}++F):=by
 have hs:=fun A=>satSub_K (w0:=w0) (H:=A) ok.p.d
 refine en2 22 Tryz.func300 ?_;refine yr10 ?_;refine zaq ?_;simp only[paceH_app];refine yq14 fun T hT=>?_;rw[show(if (1:Int)<0 then(0:Int) else 1)=1 from rfl] at*;refine(CallV.fn (hs _)).mono ?_;rintro _ _ ⟨rfl,rfl⟩;refine ze ?_;clear hT T;refine yr16 ?_;exact KE.fin jd rfl jc (by first|exact ja|(simp only[paceH_app];exact ja)) ⟨⟨_,rfl⟩,rfl⟩
def jed (a:Bool) (p:PaP):PaP:=⟨0,p.total,0,p.cyc,a⟩
theorem jjx {a:Bool} {f:FuncId} {cap:Array Value} {p':PaP} (ok:jbJ q) (ha:q.p.act≠a) (hf:CallV Tryz.prog w0 (.func (.func f) #[] cap) [] (paceH {q with p:=jed a q.p}++F) (fun r H'=>r= .tuple #[]/\H'=paceH {q with p:=p'}++F)):
  Call Tryz.prog w0 382 [pt q.b, .bool a, .func (.func f) #[] cap] (paceH q++F) (fun r H'=>r= .int .i64 0/\H'=paceH {q with p:=p'}++F):=by
 have hab:(q.p.act==a)=false:=by revert ha;cases q.p.act<;>cases a<;>simp
 unfold jed at hf;refine en3 29 Tryz.func382 ?_;refine yr11 ?_;refine zaq ?_;simp only[paceH_app];refine yr15 ?_;refine K.condN rfl J1 ?_;refine yr24 ?_;refine(CallV.part hf (by simp only[paceH_app];exact ja)).mono ?_;rintro _ _ ⟨rfl,rfl⟩;refine yr8 ?_;exact zF
theorem begin1_K:Cs w0 385 [] F (.tuple #[]):=by
 refine en0 0 Tryz.func385 ?_;refine yr1 ?_;exact zaX
theorem end1_K {b1:Nat} (ok:jbJ q):Call Tryz.prog w0 383 [pt b1] (paceH q++((b1,cells [pt q.b] 99)::F)) (fun r H'=>r= .tuple #[]/\H'=paceH {q with p:={q.p with cyc:=satA q.p.cyc 1}}++((b1,cells [pt q.b] 99)::F)):=by
 have hs:=fun A=>jeW (w0:=w0) (H:=A) (b:=1) ok.p.c bn
 refine en1 9 Tryz.func383 ?_;rw[paceH_app]
 skip
 refine zi ?_
 (repeat refine K.seq ?_)
 refine K.dr _ (od 0 [1,0,0,0,0,2,0,0,4]) Part.all ?_;refine yr6 ?_;refine jj (hs _) ⟨ja,?_⟩;refine yr2 ?_;refine zaD ?_;refine yr1 ?_
 skip
 exact KE.finN jd rfl jc (by first|exact ja|(rw [paceH_app];exact ja)) ⟨rfl,rfl⟩
theorem jmI (ok:jbJ q) (ha:q.p.act=false):Call Tryz.prog w0 353 [pt q.b] (paceH q++F) (fun r H'=>r= .int .i64 0/\H'=paceH {q with p:=jaw true q.p}++F):=by
 have ht:=jjx (w0:=w0) (F:=F) (q:=q) (a:=true) (f:=385) (cap:= #[]) (p':=jaw true q.p) ok Bp ((CallV.fn begin1_K).mono (by
  rintro _ _ ⟨rfl,rfl⟩;refine⟨rfl,?_⟩;unfold jaw jed;rw[if_neg Bp]
  rfl))
 refine en1 5 Tryz.func353 ?_;refine yr9 ?_;refine jj ht ?_;refine yr4 ?_;exact zF
theorem pcEnd_K (ok:jbJ q) (ha:q.p.act=true):Call Tryz.prog w0 351 [pt q.b] (paceH q++F) (fun r H'=>r= .int .i64 0/\H'=paceH {q with p:=jaw false q.p}++F):=by
 have ht:=fun b1=>jjx (w0:=w0) (F:=(b1,cells [pt q.b] 99)::F) (q:=q) (a:=false) (f:=383) (cap:= #[pt b1]) (p':=jaw false q.p) ok Bp ((CallV.clo (cap:=[pt b1]) (end1_K (F:=F) (q:={q with p:=jed false q.p}) ⟨ok.tr,ok.ast,⟨Nat.zero_le _,ok.p.t,Nat.zero_le _,ok.p.c⟩⟩)).mono (by
  rintro _ _ ⟨rfl,rfl⟩;refine⟨rfl,?_⟩;unfold jaw jed;rw[if_neg Bp]
  rfl))
 refine en1 6 Tryz.func351 ?_;refine yr3 ?_;intro b1;refine yr8 ?_;refine ji (ht _) ja ?_;refine yr4 ?_;exact zF
theorem pcAsk_K {n:Nat} (ok:jbJ q) (hn:1<=n/\n<=64):Call Tryz.prog w0 297 [pt q.b, .int .i64 (n:Nat)] (paceH q++F)
  (fun r H'=>r= .tuple [.int .u8 ((Jz q.tr q.ast n q.p).1:Nat), .int .i64 0].toArray/\H'=paceH {q with p:=(Jz q.tr q.ast n q.p).2}++F):=by
 have hM:M62=4611686018427387904:=rfl
 have hast:=ok.ast
 have h1:=fun A=>jeW (w0:=w0) (H:=A) (b:=n) ok.p.s bc
 have h2:=fun A=>jeW (w0:=w0) (H:=A) (b:=n) ok.p.t bc
 have hna:n*q.ast<=M62:=Nat.le_trans (Nat.mul_le_mul hn.2 hast) bn
 have h3:=fun A=>satMul_K (w0:=w0) (H:=A) (a:=n) (b:=q.ast) bc bc
 have h4:=fun A=>jeW (w0:=w0) (H:=A) (b:=n*q.ast) ok.p.d hna
 have hn1: ¬((n:Nat):Int)<1:=by omega
 have hno:=fun A=>pcnone_K (w0:=w0) (F:=A) ok
 unfold Jz;dsimp only
 obtain⟨qb,tr,ast,⟨si,to,de,cy,ac⟩⟩:=q
 dsimp only at*
 obtain⟨s1,hs1⟩: ∃ s1,s1=satA si n:=⟨_,rfl⟩
 obtain⟨t1,ht1⟩: ∃ t1,t1=satA to n:=⟨_,rfl⟩
 obtain⟨d1,hd1⟩: ∃ d1,d1=satA de (n*ast):=⟨_,rfl⟩
 obtain⟨na,hna'⟩: ∃ na,na=n*ast:=⟨_,rfl⟩
 rw[<-hna'] at h3 h4 hd1;rw[<-hs1] at h1|-;rw[<-ht1] at h2|-;rw[<-hd1] at h4;rw[<-hna',<-hd1]
 cases ac with
 |true=>
  by_cases hlt:s1<tr
  ·have hlt':((s1:Nat):Int)<((tr:Nat):Int):=by omega
   simp only[if_pos hlt,if_true,Bool.false_eq_true,if_false];refine en2 63 Tryz.func297 ?_;refine yr12 ?_;refine zaf ?_;simp only[paceH_app];refine yr21 ?_;refine zi ?_
   (repeat refine K.seq ?_)
   refine za2 ?_;refine yr13 ?_;refine jj (h1 _) ⟨ja,?_⟩;refine yr1 ?_;refine jj (h2 _) ⟨ja,?_⟩;refine yr25 ?_;refine zi ?_
   (repeat refine K.seq ?_)
   refine K.dr [] (od 0 [0,0,0,0,0,0,0,0,0,0,5,5,0,0,2]) ja ?_;refine yr11 ?_;refine jj (h3 _) ⟨ja,?_⟩;refine yr1 ?_;refine jj (h4 _) ⟨ja,?_⟩;refine yr12 ?_;refine zS ?_;refine yr20 ?_;exact zF
  ·have hlt': ¬((s1:Nat):Int)<((tr:Nat):Int):=by omega
   simp only[if_neg hlt,if_true,Bool.false_eq_true,if_false];refine en2 63 Tryz.func297 ?_;refine yr12 ?_;refine zaf ?_;simp only[paceH_app];refine yr21 ?_;refine zi ?_
   (repeat refine K.seq ?_)
   refine za2 ?_;refine yr13 ?_;refine jj (h1 _) ⟨ja,?_⟩;refine yr1 ?_;refine jj (h2 _) ⟨ja,?_⟩;refine yr25 ?_;refine zi ?_
   (repeat refine K.seq ?_)
   refine K.dr [] (od 0 [0,0,0,0,0,0,0,0,0,0,5,5,0,0,2]) ja ?_;refine yr11 ?_;refine jj (h3 _) ⟨ja,?_⟩;refine yr1 ?_;refine jj (h4 _) ⟨ja,?_⟩;refine yr12 ?_;refine zS ?_;refine yr30 ?_;exact zF
 |false=>
  by_cases hlt:s1<tr
  ·have hlt':((s1:Nat):Int)<((tr:Nat):Int):=by omega
   simp only[if_pos hlt,if_true,Bool.false_eq_true,if_false];refine en2 63 Tryz.func297 ?_;refine yr12 ?_;refine zaf ?_;simp only[paceH_app];refine yr21 ?_;refine zi ?_
   (repeat refine K.seq ?_)
   refine za2 ?_;refine yr13 ?_;refine jj (h1 _) ⟨ja,?_⟩;refine yr1 ?_;refine jj (h2 _) ⟨ja,?_⟩;refine yr29 ?_;refine zS ?_;refine yr20 ?_;exact zF
  ·have hlt': ¬((s1:Nat):Int)<((tr:Nat):Int):=by omega
   simp only[if_neg hlt,if_true,Bool.false_eq_true,if_false];refine en2 63 Tryz.func297 ?_;refine yr12 ?_;refine zaf ?_;simp only[paceH_app];refine yr21 ?_;refine zi ?_
   (repeat refine K.seq ?_)
   refine za2 ?_;refine yr13 ?_;refine jj (h1 _) ⟨ja,?_⟩;refine yr1 ?_;refine jj (h2 _) ⟨ja,?_⟩;refine yr29 ?_;refine zS ?_;refine yr30 ?_;exact zF
