/-The walker and the contracts that the law needs,part 17. -/
import Derived.Test.YtldomapkmopomaaGreatDoorD1
import Derived.ArgAppend
import Derived.ChangeMaps5
import Derived.Deep.Fields
import Derived.Deep.LoopGhost
import Derived.Deep.OwnRows
import Derived.Deep.Quiet
import Derived.Deep.Slices
import Derived.IntWalk
import Derived.Laws.Cells
import Derived.Laws.CopyOwn
import Derived.Laws.Externs
import Derived.Laws.FloatArith
import Derived.Laws.IdiomStrings
import Derived.Laws.NewFold
import Derived.Laws.StructEq
import Derived.Lib.BitFns
import Derived.Lib.Hide
import Derived.Lib.SmallJoins
import Derived.Lib.TrailingZeros
import Derived.Maps.RangeRun
import Derived.OrdersIn
import Derived.ProofKit
import Derived.RangeFuncBound
import Derived.RangeFuncCalls
import Derived.RangeFuncLeaves
import Derived.RangeFuncNested
import Derived.RecoverIn
import Derived.Shelf.Bits.Mul64
import Derived.Shelf.Slices.Turned
import Derived.Shelf.Spec.TrailingZeros
import Derived.Shelf.Strconv.Itoa0
import Derived.SizedLaws
import Derived.Sort.BigQuietIn
import Derived.StillTailTactics
import Derived.Test.YtldomapkmopomaaGreatDoorProg
import Derived.WalkKit
import Derived.Test.YtldomapkmopomaaGreatDoorRows
import Derived.OpenShut
import Derived.LaidMore
import Derived.Lay
import Derived.LaidHandle
import Derived.Test.YtldomapkmopomaaGreatDoorJ14
import Derived.Test.YtldomapkmopomaaGreatDoorJ15
set_option linter.unusedVariables false set_option linter.unusedSimpArgs false namespace Go.Proofs.YtldomapkmopomaaGreatDoor.Sw
set_option maxHeartbeats 8000000
open Go.Proofs.YtldomapkmopomaaGreatDoor renaming lo → qL, hi → qH
open Go.RowKit
set_option linter.unusedVariables false
set_option linter.unusedSimpArgs false
set_option maxRecDepth 10000
structure HdP where
 c:Int
 r:Int
 w:Int
def hdV (h:HdP):Value:= .agg [.int .i64 h.c, .int .i64 h.r, .int .i64 h.w].toArray
def Jd (h:HdP):Bool:=decide (0≤h.c∧h.c<8∧0≤h.r∧0≤h.w∧h.r≤63∧h.w≤63-h.r)
theorem hmay_K {w0:World} {H:jb} {h:HdP}:Call Tryz.prog w0 190 [hdV h] H (fun r H'=>r= .bool (Jd h)∧H'=H):=by
 obtain⟨c,r,w⟩:=h
 unfold hdV
 have yes:(0≤c∧c<8∧0≤r∧0≤w∧r≤63∧w≤63-r)→Jd ⟨c,r,w⟩=true:=fun h=>decide_eq_true h
 have no: ¬(0≤c∧c<8∧0≤r∧0≤w∧r≤63∧w≤63-r)→Jd ⟨c,r,w⟩=false:=fun h=>decide_eq_false h
 refine Call.enter1 (n:=34) (by kernel_rfl) Tryz.func190 rfl rfl rfl ?_
 by_cases h1:c≥0
 ·by_cases h2:c<8
  ·by_cases h3:r≥0
   ·by_cases h4:w≥0
    ·by_cases h5:r≤63
     ·by_cases h6:w≤63-r
      ·rw[yes ⟨h1,h2,h3,h4,h5,h6⟩];refine yr2 ?_;refine ze ?_;intro b1;refine yr58 ?_;exact zd
      ·rw[no (by omega)];refine yr2 ?_;refine ze ?_;intro b1;refine yr58 ?_;exact zd
     ·rw[no (by omega)];refine yr2 ?_;refine ze ?_;intro b1;refine yr52 ?_;exact zd
    ·rw[no (by omega)];refine yr2 ?_;refine ze ?_;intro b1;refine yr49 ?_;exact zd
   ·rw[no (by omega)];refine yr2 ?_;refine ze ?_;intro b1;refine yr46 ?_;exact zd
  ·rw[no (by omega)];refine yr2 ?_;refine ze ?_;intro b1;refine yr43 ?_;exact zd
 ·rw[no (by omega)];refine yr2 ?_;refine ze ?_;intro b1;refine yr40 ?_;exact zd
theorem wd_ok:WsOk wdL:=⟨by decide,by decide,by decide⟩
theorem wd_sees {w0:World} {H:jb} (hG:jw w0):SeesA w0 H ⟨1,0,none⟩ 5 [.int .i64 16, .int .i64 16, .int .i64 16, .int .i64 8, .int .i64 8]:=by
 refine⟨rfl,fun j v hj=>jA.old ?_⟩
 have e:(Addr.mk 1 0 none).add j=⟨1,j,none⟩:=by
  unfold Addr.add;by_cases h:j=0
  ·simp[h]
  ·simp[h]
 rw[e]
 match j,hj with
 |0,hj=>cases hj;exact hG.wd 0 16 rfl
 |1,hj=>cases hj;exact hG.wd 1 16 rfl
 |2,hj=>cases hj;exact hG.wd 2 16 rfl
 |3,hj=>cases hj;exact hG.wd 3 8 rfl
 |4,hj=>cases hj;exact hG.wd 4 8 rfl
 |j+5,hj=>simp at hj
def putN (c r w:Nat):Nat:=w*2^16+r*2^32+c*2^48+199*2^56
theorem pack_put (c r w:Nat):packK wdL [0,w,r,c,199] 5=putN c r w:=by
 have h1:=jaO (ws:=wdL) (vs:=[0,w,r,c,199]) (k:=0) rfl
 have h2:=jaO (ws:=wdL) (vs:=[0,w,r,c,199]) (k:=1) rfl
 have h3:=jaO (ws:=wdL) (vs:=[0,w,r,c,199]) (k:=2) rfl
 have h4:=jaO (ws:=wdL) (vs:=[0,w,r,c,199]) (k:=3) rfl
 have h5:=jaO (ws:=wdL) (vs:=[0,w,r,c,199]) (k:=4) rfl
 have e0:packK wdL [0,w,r,c,199] 0=0:=rfl
 rw[show(wdL.take 0).sum=0 from rfl] at h1;rw[show(wdL.take 1).sum=16 from rfl] at h2;rw[show(wdL.take 2).sum=32 from rfl] at h3;rw[show(wdL.take 3).sum=48 from rfl] at h4;rw[show(wdL.take 4).sum=56 from rfl] at h5;rw[h5,h4,h3,h2,h1,e0];unfold putN
 generalize 2^16=a
 generalize 2^32=b
 generalize 2^48=d
 generalize 2^56=e
 rw[Nat.zero_mul,Nat.zero_add]
theorem packed_K {w0:World} {H:jb} {vv:Value} {c r w:Nat} (hG:jw w0) (hc8:c<8) (hr:r<64) (hw:w<64) (hV:Sli w0 H uE vv (natL [0,w,r,c,199])) (hc:vv.cells=[vv].toArray):
  Call Tryz.prog w0 191 [vv] H (fun u H'=>u= .int .u64 (putN c r w:Nat)∧H'=H):=by
 have hwd:=wd_sees (H:=H) hG
 refine Call.enter1 (n:=14) (by kernel_rfl) Tryz.func191 rfl rfl rfl ?_;refine yr8 ?_;refine zf ?_;intro b3;refine yq7 fun T hT=>?_;refine(CallV.fn (Pack_K (ws:=wdL) (vs:=[0,w,r,c,199]) wd_ok rfl ?_ (Sli.blk jq rfl (by decide) (by decide) rfl) (hV.part ja) hc)).mono ?_
 ·intro i n v hi hv
  match i,hi,hv with
  |0,hi,hv=>cases hi;cases hv;decide
  |1,hi,hv=>cases hi;cases hv;exact Nat.lt_of_lt_of_le hw (by decide)
  |2,hi,hv=>cases hi;cases hv;exact Nat.lt_of_lt_of_le hr (by decide)
  |3,hi,hv=>cases hi;cases hv;exact Nat.lt_of_lt_of_le hc8 (by decide)
  |4,hi,hv=>cases hi;cases hv;decide
  |i+5,hi,hv=>simp[wdL] at hi
 ·refine zq ?_;rw[show packK wdL [0,w,r,c,199] wdL.length=putN c r w from pack_put c r w];refine za ?_;clear hT T;refine yr14 ?_;exact zd
theorem Put_K {w0:World} {H:jb} {h:HdP} (hG:jw w0) (hm:Jd h=true):
  Call Tryz.prog w0 113 [hdV h] H (fun u H'=>u= .tuple [.int .u64 (putN h.c.toNat h.r.toNat h.w.toNat:Nat), .int .i64 0].toArray∧H'=H):=by
 obtain⟨c,r,w⟩:=h
 have hb:0≤c∧c<8∧0≤r∧0≤w∧r≤63∧w≤63-r:=of_decide_eq_true hm
 obtain⟨c,rfl⟩: ∃ q:Nat,c=q:=⟨c.toNat,by omega⟩
 obtain⟨r,rfl⟩: ∃ q:Nat,r=q:=⟨r.toNat,by omega⟩
 obtain⟨w,rfl⟩: ∃ q:Nat,w=q:=⟨w.toNat,by omega⟩
 have hu:hdV ⟨(c:Int),(r:Int),(w:Int)⟩= .agg [.int .i64 (c:Int), .int .i64 (r:Int), .int .i64 (w:Int)].toArray:=rfl
 rw[hu];dsimp only[Int.toNat_natCast];refine Call.enter1 (n:=18) (by kernel_rfl) Tryz.func113 rfl rfl rfl ?_;refine yr2 ?_;refine ze ?_;intro b1;refine yq8 fun T hT=>?_;refine(CallV.fn (hmay_K (h:=⟨(c:Int),(r:Int),(w:Int)⟩))).mono ?_;rintro _ _ ⟨rfl,rfl⟩;rw[hm];refine za ?_;clear hT T;refine yr17 ?_;refine zt ?_;intro b16;refine zz fun T hT=>?_;refine(CallV.fn (packed_K (c:=c) (r:=r) (w:=w) hG (by omega) (by omega) (by omega) (Sli.blk jq rfl (by simp[natL]) (by decide) rfl) rfl)).mono ?_;rintro _ _ ⟨rfl,rfl⟩;refine za ?_;clear hT T;refine yr5 ?_;exact zd
def getH (w:Nat):Option HdP:=
 if w%2^16=0∧w/2^56%2^8=199∧Jd ⟨((w/2^48%2^8:Nat):Int),((w/2^32%2^16:Nat):Int),((w/2^16%2^16:Nat):Int)⟩=true then some ⟨((w/2^48%2^8:Nat):Int),((w/2^32%2^16:Nat):Int),((w/2^16%2^16:Nat):Int)⟩ else none
theorem dig_wd (w:Nat):digK wdL w 5=[w%2^16,w/2^16%2^16,w/2^32%2^16,w/2^48%2^8,w/2^56%2^8]:=by
 have h1:=jcG (ws:=wdL) (w:=w) (k:=0) rfl
 have h2:=jcG (ws:=wdL) (w:=w) (k:=1) rfl
 have h3:=jcG (ws:=wdL) (w:=w) (k:=2) rfl
 have h4:=jcG (ws:=wdL) (w:=w) (k:=3) rfl
 have h5:=jcG (ws:=wdL) (w:=w) (k:=4) rfl
 have e0:digK wdL w 0=[]:=rfl
 rw[show(wdL.take 0).sum=0 from rfl,Nat.pow_zero,Nat.div_one] at h1;rw[show(wdL.take 1).sum=16 from rfl] at h2;rw[show(wdL.take 2).sum=32 from rfl] at h3;rw[show(wdL.take 3).sum=48 from rfl] at h4;rw[show(wdL.take 4).sum=56 from rfl] at h5;rw[h5,h4,h3,h2,h1,e0]
 rfl
def ja5 (w:Nat):Value:=match getH w with
 |some h=> .tuple [hdV h, .int .i64 0].toArray
 |none=> .tuple [hdV ⟨0,0,0⟩, .int .i64 5].toArray
theorem hGet_K {w0:World} {H:jb} {w:Nat} (hG:jw w0) (hw:w<18446744073709551616):
  Call Tryz.prog w0 189 [.int .u64 (w:Nat)] H (fun u H'=>u=ja5 w∧H'=H):=by
 obtain⟨d0,hd0⟩: ∃ d,d=w%2^16:=⟨_,rfl⟩
 obtain⟨d1,hd1⟩: ∃ d,d=w/2^16%2^16:=⟨_,rfl⟩
 obtain⟨d2,hd2⟩: ∃ d,d=w/2^32%2^16:=⟨_,rfl⟩
 obtain⟨d3,hd3⟩: ∃ d,d=w/2^48%2^8:=⟨_,rfl⟩
 obtain⟨d4,hd4⟩: ∃ d,d=w/2^56%2^8:=⟨_,rfl⟩
 have b1:d1<65536:=by rw[hd1];exact Nat.mod_lt _ (by decide)
 have b2:d2<65536:=by rw[hd2];exact Nat.mod_lt _ (by decide)
 have b3':d3<256:=by rw[hd3];exact Nat.mod_lt _ (by decide)
 have hg:getH w=if d0=0∧d4=199∧Jd ⟨(d3:Int),(d2:Int),(d1:Int)⟩=true then some ⟨(d3:Int),(d2:Int),(d1:Int)⟩ else none:=by unfold getH;rw [←hd0,←hd1,←hd2,←hd3,←hd4]
 obtain⟨D,hD⟩: ∃ D,D=natL (digK wdL w wdL.length):=⟨_,rfl⟩
 have hD':D=[(d0:Int),(d1:Int),(d2:Int),(d3:Int),(d4:Int)]:=by
  rw[hD,show wdL.length=5 from rfl,dig_wd,←hd0,←hd1,←hd2,←hd3,←hd4];rfl
 have hDl:D.length=5:=by rw[hD'];rfl
 have x0:D[Int.toNat 0]?=some (d0:Int):=by rw[hD'];rfl
 have x1:D[Int.toNat 1]?=some (d1:Int):=by rw[hD'];rfl
 have x2:D[Int.toNat 2]?=some (d2:Int):=by rw[hD'];rfl
 have x3:D[Int.toNat 3]?=some (d3:Int):=by rw[hD'];rfl
 have x4:D[Int.toNat 4]?=some (d4:Int):=by rw[hD'];rfl
 clear hd0 hd1 hd2 hd3 hd4 hD';refine Call.enter1 (n:=45) (by kernel_rfl) Tryz.func189 rfl rfl rfl ?_;refine yr2 ?_;refine zf ?_;intro b2;refine yr3 ?_
 have hwd:=wd_sees (H:=(b2,cells [.int .i64 0, .int .i64 0, .int .i64 0] 138)::H) hG
 refine yr3 ?_;refine zf ?_;intro b4;refine yq7 fun T hT=>?_;refine(CallV.fn (Unpack_K (ws:=wdL) wd_ok rfl hw (Sli.blk jq rfl (by decide) (by decide) rfl))).mono ?_;rintro _ _ ⟨o,ko,rfl,rfl⟩;rw[←hD] at ko⊢;refine za ?_;clear hT T;refine yr8 ?_;refine K.drawn _ [(0,1),(1,1),(2,1),(3,1),(4,1),(5,1),(6,1),(7,1),(8,1),(9,1),(10,1),(11,1),(12,1),(13,2),(14,2)] (by kernel_rfl) (by kernel_rfl) (by kernel_rfl) (by kernel_rfl) (by kernel_rfl) (by kernel_rfl) Part.all ?_;refine zm ?_;refine zee ?_;refine zc9 ?_;refine zef ?_;refine zm ?_;refine zee ?_;refine zc9 ?_;refine zef ?_;refine zm ?_;refine zee ?_;refine zc9 ?_;refine zef ?_;refine zcx ?_;refine zad ?_;intro b7;refine zM ?_;refine zY ?_;refine yr1 ?_
 have hres: ∀ b:Bool,b=Jd ⟨(d3:Int),(d2:Int),(d1:Int)⟩→ja5 w=if d0=0∧d4=199∧b=true then .tuple [.agg [.int .i64 (d3:Nat), .int .i64 (d2:Nat), .int .i64 (d1:Nat)].toArray, .int .i64 0].toArray else .tuple [.agg [.int .i64 0, .int .i64 0, .int .i64 0].toArray, .int .i64 5].toArray:=fun b hb=>by
  unfold ja5;rw[hg,hb]
  by_cases h:d0=0∧d4=199∧Jd ⟨(d3:Int),(d2:Int),(d1:Int)⟩=true
  ·rw[if_pos h,if_pos h];rfl
  ·rw[if_neg h,if_neg h];rfl
 by_cases h0:(d0:Int)≠0
 ·have hr:=hres _ rfl
  rw[if_neg (by omega)] at hr;rw[hr];refine yr30 ?_;exact zd
 by_cases h4:(d4:Int)≠199
 ·have hr:=hres _ rfl
  rw[if_neg (by omega)] at hr;rw[hr];refine yr34 ?_;exact zd
 refine yq21 fun T hT=>?_;refine(CallV.fn (hmay_K (h:=⟨(d3:Int),(d2:Int),(d1:Int)⟩))).mono ?_;rintro _ _ ⟨rfl,rfl⟩
 cases hm:Jd ⟨(d3:Int),(d2:Int),(d1:Int)⟩ with
 |true=>
  have hr:=hres true hm.symm
  rw[if_pos ⟨by omega,by omega,rfl⟩] at hr;refine za ?_;clear hT T;rw[hr];refine yr16 ?_;exact zd
 |false=>
  have hr:=hres false hm.symm
  rw[if_neg (by simp)] at hr;refine za ?_;clear hT T;rw[hr];refine yr15 ?_;exact zd
open Go.RowKit
set_option maxRecDepth 10000
structure CfgOk (c:Cfg):Prop where
 cl:1≤c.cl.length∧c.cl.length≤8
 tn:1≤c.tn.length∧c.tn.length≤8
 el: ∀ x∈c.cl,1<x∧x≤topP c.cl
 page:topP c.cl≤c.page∧c.page≤64
 workers:0≤c.workers∧c.workers≤8
 grey:1≤c.grey∧c.grey≤64
 gens:1≤c.gens∧c.gens≤2147483648
 ten: ∀ t∈c.tn,(topP c.cl≤t.quota∧t.quota≤4096)∧(1≤t.trigger∧t.trigger≤1048576)∧(1≤t.caps∧t.caps≤1024)∧(0≤t.assist∧t.assist≤1024)
theorem jar {c:Cfg} (h:jT c=true):CfgOk c:=by
 simp only[jT,jb7,Bool.and_eq_true,List.all_eq_true,tenP,JX,decide_eq_true_eq] at h
 obtain⟨hc,⟨p1,p2,p3,p4,p5,p6,p7,p8,p9,p10,_⟩,ht⟩:=h
 have hcc:=hc
 simp only[Jv,Bool.and_eq_true,decide_eq_true_eq] at hcc
 obtain⟨⟨⟨c1,c2⟩,c3⟩,c4⟩:=hcc
 refine⟨⟨c1,c2⟩,⟨by omega,by omega⟩,?_,⟨p1,p2⟩,⟨p5,p6⟩,⟨p7,p8⟩,⟨p9,p10⟩,?_⟩
 ·intro x hx;refine⟨(jcD c4).1 x hx,?_⟩
  obtain⟨i,hi⟩:=List.getElem?_of_mem hx
  obtain⟨z,hz⟩:=jn (l:=c.cl) (k:=c.cl.length-1) (by omega)
  have:=jgM hc (by have:=jl hi;omega:i≤c.cl.length-1) hi hz
  have hzl:c.cl.getLast?=some z:=by rw[List.getLast?_eq_getElem?];exact hz
  simpa [topP,hzl] using this
 ·intro t hm
  obtain⟨q1,q2,q3,q4,q5,q6,q7,q8,_⟩:=ht t hm
  exact⟨⟨q1,q2⟩,⟨q3,q4⟩,⟨q5,q6⟩,⟨q7,q8⟩⟩
def thereP (c:Cfg) (t k:Int):Bool:=jT c&&JX [0,t,(c.tn.length:Nat)-1,0,k,(c.cl.length:Nat)-1]
theorem ja9 {c:Cfg} {t k:Int} (h:thereP c t k=true): ∃ (i j:Nat) (x:Tn) (y:Int),t=i∧k=j∧c.tn[i]?=some x∧c.cl[j]?=some y∧CfgOk c:=by
 simp only[thereP,Bool.and_eq_true,JX,decide_eq_true_eq] at h
 obtain⟨hc,h1,h2,h3,h4,_⟩:=h
 obtain⟨x,hx⟩:=jn (l:=c.tn) (k:=t.toNat) (by omega)
 obtain⟨y,hy⟩:=jn (l:=c.cl) (k:=k.toNat) (by omega)
 exact⟨t.toNat,k.toNat,x,y,by omega,by omega,hx,hy,jar hc⟩
theorem jfS {w0:World} {H:jb} {c:Cfg} {vc vt:Value} {t k:Int} (hR:j1 w0 H c vc vt):
  Call Tryz.prog w0 116 [jt c vc vt, .int .i64 t, .int .i64 k] H (fun r H'=>r= .bool (thereP c t k)∧H'=H):=by
 have hc0:=fun A (hp:Part A H)=>jgo (hR.part hp)
 obtain⟨hS,hT',o1,o2,l1,l2⟩:=hR
 have he:thereP c t k=(jT c&&JX [0,t,(c.tn.length:Nat)-1,0,k,(c.cl.length:Nat)-1]):=rfl
 obtain⟨cl,page,tn,workers,grey,gens⟩:=c
 dsimp only at hS hT' l1 l2 he;simp only[jt,jJ] at hc0⊢;refine Call.enter3 (n:=24) (by kernel_rfl) Tryz.func116 rfl rfl rfl ?_;refine yr2 ?_;refine ze ?_;intro b3;refine yq6 fun T hT=>?_;refine zD ?_;rintro _ _ ⟨rfl,rfl⟩
 cases hc:jT ⟨cl,page,tn,workers,grey,gens⟩ with
 |false=>
  rw[hc,Bool.false_and] at he;refine zd2 ?_;clear hT T;refine yr19 ?_;exact zaM
 |true=>
  rw[hc,Bool.true_and] at he;simp only[errB,if_true];refine za ?_;clear hT T;refine yr23 ?_;refine zt ?_;intro b21;refine yq1 fun T hT=>?_;refine(CallV.fn (jfk (l:=[0,t,(tn.length:Nat)-1,0,k,(cl.length:Nat)-1]) (n:=2) (Sli.blk jq rfl (by simp) (by decide) rfl) rfl (by decide))).mono ?_;rintro _ _ ⟨rfl,rfl⟩;refine za ?_;clear hT T;refine yr5 ?_;exact zaM
set_option maxRecDepth 10000
def Jx (x:List Int):Prop:= ∀ w∈x,0≤w∧w<18446744073709551616
theorem Jx.set {x:List Int} (h:Jx x) {a:Nat} {w:Int} (hw:0≤w∧w<18446744073709551616):Jx (x.set a w):=by
 intro v hv
 rcases List.mem_or_eq_of_mem_set hv with h1|h1
 ·exact h v h1
 ·rw[h1];exact hw
theorem Jx.cleared {x:List Int} (h:Jx x) {a b:Nat}:Jx (cleared x a b 0):=by
 intro v hv;simp only[Go.Proofs.YtldomapkmopomaaGreatDoor.cleared,List.mem_append] at hv
 rcases hv with(h1|h1)|h1
 ·exact h v (List.mem_of_mem_take h1)
 ·rw[(List.mem_replicate.1 h1).2];omega
 ·exact h v (List.mem_of_mem_drop h1)
theorem Jx.rep (n:Nat):Jx (List.replicate n 0):=by
 intro v hv;rw [(List.mem_replicate.1 hv).2];omega
def wAt (x:List Int) (a:Nat):Int:=(x[a]?).getD 0
theorem jfQ {x:List Int} {a:Nat} (h:a<x.length):x[a]?=some (wAt x a):=by
 unfold wAt;rw [List.getElem?_eq_getElem h];rfl
theorem Jx.at_ {x:List Int} (h:Jx x) (a:Nat):0≤wAt x a∧wAt x a<18446744073709551616:=by
 unfold wAt
 cases hx:x[a]? with
 |none=>simp
 |some w=>exact h w (List.mem_of_getElem? hx)
def Js (p:ju) (h:HdP):Bool:=Jd h&&(decide (h.c=p.cls)&&decide (h.r+h.w+1≤p.size))
def headP (x:List Int) (p:ju):Option HdP:=match getH (wAt x p.addr).toNat with
 |some h=>if Js p h then some h else none
 |none=>none
def Jo (x:List Int) (p:ju):List Int:=cleared x p.addr (p.addr+p.size) 0
def putW (h:HdP):Int:=(putN h.c.toNat h.r.toNat h.w.toNat:Nat)
def jW (x:List Int) (p:ju) (h:HdP):Int × List Int:=
 if Js p h then(if (headP x p).isSome then(8,x) else(0,(Jo x p).set p.addr (putW h))) else(2,x)
def fldP (x:List Int) (p:ju) (ref:Bool) (i:Int):Int:=match headP x p with
 |none=>5
 |some h=>if 0≤i∧i<h.r+h.w∧decide (i<h.r)=ref then 0 else 110
def fAt (p:ju) (i:Int):Nat:=p.addr+1+i.toNat
def refP (x:List Int) (n:Nat) (p:ju) (i:Int):Int × Int:=
 if fldP x p true i=0 then(if wAt x (fAt p i)>n then(0,5) else(wAt x (fAt p i)-1,0)) else(0,fldP x p true i)
def j7 (x:List Int) (n:Nat) (p:ju) (i to:Int):Int × List Int:=
 if to< -1∨to≥n then(2,x) else if fldP x p true i=0 then(0,x.set (fAt p i) (to+1)) else(fldP x p true i,x)
theorem jbc {p:ju} {h:HdP} (e:Js p h=true):Jd h=true∧h.c=p.cls∧h.r+h.w+1≤p.size:=by
 simp only[Js,Bool.and_eq_true,decide_eq_true_eq] at e;exact e
theorem jbT {x:List Int} {p:ju} {h:HdP} (e:headP x p=some h):getH (wAt x p.addr).toNat=some h∧Js p h=true:=by
 unfold headP at e
 cases hg:getH (wAt x p.addr).toNat with
 |none=>rw [hg] at e;cases e
 |some h'=>
  rw[hg] at e;dsimp only at e
  split at e
  ·cases e;exact⟨rfl,by assumption⟩
  ·cases e
theorem jae {x:List Int} {p:ju} {ref:Bool} {i:Int} (e:fldP x p ref i=0):0≤i∧fAt p i<p.addr+p.size∧p.addr<fAt p i:=by
 unfold fldP at e
 cases hh:headP x p with
 |none=>rw [hh] at e;simp at e
 |some h=>
  rw[hh] at e;dsimp only at e
  obtain⟨_,hl⟩:=jbT hh
  obtain⟨hm,_,hs⟩:=jbc hl
  split at e
  ·rename_i hc
   simp only[Jd,decide_eq_true_eq] at hm;unfold fAt
   omega
  ·omega
theorem jby {x:List Int} {p:ju} (h:p.addr+p.size≤x.length):(Jo x p).length=x.length:=jcz (by omega) h
theorem make_len {x:List Int} {p:ju} {h:HdP} (hp:p.addr+p.size≤x.length):(jW x p h).2.length=x.length:=by
 unfold jW;split
 ·split
  ·rfl
  ·simp only[List.length_set];exact jby hp
 ·rfl
theorem jgy {x:List Int} {n:Nat} {p:ju} {i to:Int}:(j7 x n p i to).2.length=x.length:=by
 unfold j7;split
 ·rfl
 ·split
  ·simp
  ·rfl
theorem putW_bnd {h:HdP} (hm:Jd h=true):0≤putW h∧putW h<18446744073709551616:=by
 simp only[Jd,decide_eq_true_eq] at hm;unfold putW putN
 have e1:(2:Nat)^16=65536:=by decide
 have e2:(2:Nat)^32=4294967296:=by decide
 have e3:(2:Nat)^48=281474976710656:=by decide
 have e4:(2:Nat)^56=72057594037927936:=by decide
 rw[e1,e2,e3,e4];omega
theorem make_ok {x:List Int} {p:ju} {h:HdP} (hx:Jx x):Jx (jW x p h).2:=by
 unfold jW;split
 ·rename_i hl
  split
  ·exact hx
  ·exact(Jx.cleared hx).set (putW_bnd (jbc hl).1)
 ·exact hx
theorem jgY {x:List Int} {n:Nat} {p:ju} {i to:Int} (hx:Jx x) (hn:n≤1000000):Jx (j7 x n p i to).2:=by
 unfold j7;split
 ·exact hx
 ·split
  ·exact hx.set (by omega)
  ·exact hx
def JG:List ju→List Bool→Nat
 | [],_=>0
 |_,[]=>0
 |p::l,b::A=>(if b then p.size else 0)+JG l A
theorem jfm: ∀ {l:List ju} {A:List Bool} {i:Nat} {p:ju} (v:Bool),l[i]?=some p→i<A.length→JG l (A.set i v)+(if A[i]?=some true then p.size else 0)=JG l A+(if v then p.size else 0)
 |p::l,b::A,0,p',v,h,hA=>by
  simp at h;subst h
  simp[JG];omega
 |p::l,b::A,i+1,p',v,h,hA=>by
  simp only[List.getElem?_cons_succ] at h
  have:=jfm (l:=l) (A:=A) (i:=i) v h (by simpa using hA)
  simp only[List.set_cons_succ,JG,List.getElem?_cons_succ]
  omega
 | [],A,i,p',v,h,hA=>by simp at h
theorem used_le {B:Nat}: ∀ {l:List ju} {A:List Bool},(∀ p∈l,p.size≤B)→JG l A≤l.length*B
 | [],A,_=>by simp[JG]
 |p::l,[],_=>by simp[JG]
 |p::l,b::A,h=>by
  have h1:=used_le (l:=l) (A:=A) (fun q hq=>h q (.tail _ hq))
  have h2:=h p (.head _)
  simp only[JG,List.length_cons,Nat.succ_mul]
  split<;>omega
theorem used_rep: ∀ {l:List ju} {n:Nat},JG l (List.replicate n false)=0
 | [],n=>by cases n<;>simp[JG,List.replicate]
 |p::l,0=>rfl
 |p::l,n+1=>by simp[JG,List.replicate_succ,used_rep (l:=l) (n:=n)]
def jay (A:List Bool) (first many:Nat):Option Nat:=((List.range many).map (first+ ·)).find? fun i=>(A[i]?).getD true=false
theorem jci {A:List Bool} {f m i:Nat} (h:jay A f m=some i):f≤i∧i<f+m∧A[i]?=some false∧ ∀ j,f≤j→j<i→A[j]?≠some false:=by
 unfold jay at h;rw[List.find?_eq_some_iff_append] at h
 obtain⟨hp,la,lb,he,hn⟩:=h
 have hl:la.length+(lb.length+1)=m:=by have:=congrArg List.length he;simpa using this.symm
 have hi:i=f+la.length:=by
  have h2:((List.range m).map (f+ ·))[la.length]?=some i:=by rw[he];simp
  rw[List.getElem?_map,List.getElem?_range (by omega)] at h2
  simpa using h2.symm
 refine⟨by omega,by omega,?_,?_⟩
 ·cases hx:A[i]? with
  |none=>rw [hx] at hp;simp at hp
  |some b=>rw [hx] at hp;simp at hp;rw [hp]
 ·intro j hj1 hj2 hj
  have h2:((List.range m).map (f+ ·))[j-f]?=some j:=by
   rw[List.getElem?_map,List.getElem?_range (by omega)];simp;omega
  rw[he,List.getElem?_append_left (by omega)] at h2
  have:=hn j (List.mem_of_getElem? h2)
  rw[hj] at this
  simp at this
theorem free_none {A:List Bool} {f m:Nat} (h:jay A f m=none): ∀ j,f≤j→j<f+m→A[j]?≠some false:=by
 intro j h1 h2 hj;unfold jay at h;rw[List.find?_eq_none] at h;refine h j ?_ (by rw[hj];rfl);exact List.mem_map.2 ⟨j-f,List.mem_range.2 (by omega),by omega⟩
theorem free_is {A:List Bool} {f m i:Nat} (h1:f≤i) (h2:i<f+m) (h3:A[i]?=some false) (h4: ∀ j,f≤j→j<i→A[j]?≠some false):jay A f m=some i:=by
 cases hf:jay A f m with
 |none=>exact absurd h3 (free_none hf i h1 h2)
 |some j=>
  obtain⟨g1,g2,g3,g4⟩:=jci hf
  rcases Nat.lt_trichotomy i j with h|h|h
  ·exact absurd h3 (g4 i h1 h)
  ·rw[h]
  ·exact absurd g3 (h4 j g1 h)
theorem jf9 {A:List Bool} {f m:Nat} (h: ∀ j,f≤j→j<f+m→A[j]?≠some false):jay A f m=none:=by
 cases hf:jay A f m with
 |none=>rfl
 |some j=>
  obtain⟨g1,g2,g3,g4⟩:=jci hf
  exact absurd g3 (h j g1 g2)
def takeP (g:PlG) (A:List Bool) (k:Int):Int × Int × List Bool:=
 if 0≤k∧k<(g.m:Nat) then
  match jay A (g.first k.toNat) (g.n k.toNat) with
  |some i=>(i,0,A.set i true)
  |none=>(0,6,A)
 else(0,2,A)
def ja4:List Bool→List Bool→Bool
 |a::A,d::D=>(!d||a)&&ja4 A D
 |_,_=>true
def jaC:List Bool→List Bool→List Bool
 |a::A,d::D=>(a&&!d)::jaC A D
 |A,_=>A
def J0 (A D:List Bool):Int × List Bool:=if D.length=A.length then(if ja4 A D then(0,jaC A D) else(9,A)) else(2,A)
open Go.RowKit
set_option maxRecDepth 10000
structure SwP where
 A:List Bool
 R:List (List Int)
 C:List Int
 act:Bool
 at_:Nat
 D:List Bool
def SwP.x (s:SwP):List Int:=(s.R[0]?).getD []
structure SwOk (g:PlG) (s:SwP):Prop where
 A:s.A.length=g.slots
 C:s.C.length=g.slots
 D:s.D.length=g.slots
 R:s.R[0]?=some s.x
 x:s.x.length=g.words
 w:Jx s.x
 c: ∀ v∈s.C,v=0∨v=2
 at_:s.at_≤g.slots
 idle:s.act=false→s.at_=0∧s.D=List.replicate g.slots false
def stepS (g:PlG) (s:SwP):SwP × Bool:=
 if s.act=true∧s.at_<g.slots then
  match g.L[s.at_]? with
  |some p=>if s.A[s.at_]?=some true∧s.C[s.at_]?=some 0 then(⟨s.A,s.R.set 0 (Jo s.x p),s.C,s.act,s.at_+1,s.D.set s.at_ true⟩,true) else(⟨s.A,s.R,s.C,s.act,s.at_+1,s.D⟩,true)
  |none=>(s,true)
 else(s,false)
theorem x_set {R:List (List Int)} {x y:List Int} (h:R[0]?=some x):(R.set 0 y)[0]?=some y:=by
 rw[List.getElem?_set_self (jl h)]
theorem SwOk.putx {g:PlG} {s:SwP} (ok:SwOk g s) {y:List Int} (h1:y.length=g.words) (h2:Jx y) {A:List Bool} (hA:A.length=g.slots):SwOk g ⟨A,s.R.set 0 y,s.C,s.act,s.at_,s.D⟩:=by
 have e:SwP.x ⟨A,s.R.set 0 y,s.C,s.act,s.at_,s.D⟩=y:=by unfold SwP.x;rw [x_set ok.R];rfl
 exact⟨hA,ok.C,ok.D,by rw[e];exact x_set ok.R,by rw[e];exact h1,by rw[e];exact h2,ok.c,ok.at_,ok.idle⟩
theorem Jg {g:PlG} {i:Nat} (h:i<g.slots): ∃ p,g.L[i]?=some p:=jn (by rw[jah];exact h)
theorem jem: ∀ A D:List Bool,(jaC A D).length=A.length
 | [],D=>by cases D<;>rfl
 |a::A,[]=>rfl
 |a::A,d::D=>by simp[jaC,jem A D]
theorem jhQ (A D:List Bool):(J0 A D).2.length=A.length:=by
 unfold J0;split
 ·split
  ·exact jem _ _
  ·rfl
 ·rfl
theorem jdc {g:PlG} {A:List Bool} {n:Int} (h:(takeP g A n).2.1=0): ∃ (k i:Nat),n=k∧k<g.m∧jay A (g.first k) (g.n k)=some i∧takeP g A n=((i:Int),0,A.set i true)∧i<A.length:=by
 unfold takeP at h⊢
 split at h
 ·rename_i hk
  obtain⟨k,rfl⟩: ∃ k:Nat,n=k:=⟨n.toNat,by omega⟩
  rw[if_pos hk];simp only[Int.toNat_natCast] at h⊢
  cases hf:jay A (g.first k) (g.n k) with
  |none=>rw [hf] at h;simp at h
  |some i=>exact⟨k,i,rfl,by omega,hf,rfl,jl (jci hf).2.2.1⟩
 ·simp at h
def jbt (s:SwP) (i:Nat):Bool:=(s.A[i]?).getD false&&decide (s.C[i]?=some 0)
structure Run (g:PlG) (s:SwP) (j:Nat) (t:SwP):Prop where
 A:t.A=s.A
 C:t.C=s.C
 act:t.act=true
 at_:t.at_=j
 dl:t.D.length=g.slots
 D: ∀ i,i<g.slots→t.D[i]?=some (decide (i<j)&&jbt s i)
 tl:t.R.tail=s.R.tail
 R:t.R[0]?=some t.x
 xl:t.x.length=g.words
 x: ∀ i p,g.L[i]?=some p→ ∀ a,p.addr≤a→a<p.addr+p.size→t.x[a]?=if decide (i<j)&&jbt s i then some 0 else s.x[a]?
theorem Run.ok {g:PlG} {s t:SwP} {j:Nat} (hg:je g) (h:Run g s j t) (ok:SwOk g t) (hj:j<g.slots): ∃ t',stepS g t=(t',true)∧Run g s (j+1) t':=by
 obtain⟨p,hp⟩:=Jg hj
 have hfit:=hg.fits hp
 unfold stepS;rw[if_pos ⟨h.act,by rw[h.at_];exact hj⟩,h.at_,hp];dsimp only
 have hAl:j<s.A.length:=by rw[←h.A,ok.A];exact hj
 have hg':(s.A[j]?=some true∧s.C[j]?=some 0)↔jbt s j=true:=by
  unfold jbt;rw[List.getElem?_eq_getElem hAl]
  simp
 rw[h.A,h.C]
 by_cases hc:s.A[j]?=some true∧s.C[j]?=some 0
 ·rw[if_pos hc]
  have hgn:=hg'.1 hc
  refine⟨_,rfl,?_⟩
  have e:SwP.x ⟨s.A,t.R.set 0 (Jo t.x p),s.C,t.act,j+1,t.D.set j true⟩=Jo t.x p:=by unfold SwP.x;rw [x_set h.R];rfl
  refine⟨rfl,rfl,h.act,rfl,by rw[List.length_set];exact h.dl,?_,?_,by rw[e];exact x_set h.R,by rw[e,jby (by rw[h.xl];exact hfit.1)];exact h.xl,?_⟩
  ·intro i hi;dsimp only
   by_cases hij:i=j
   ·subst hij;rw[List.getElem?_set_self (by rw[h.dl];exact hi),hgn];simp
   ·rw[List.getElem?_set_ne (by omega),h.D i hi]
    congr 2
    exact decide_eq_decide.2 (by omega)
  ·dsimp only;rw[←h.tl]
   cases t.R<;>rfl
  ·intro i q hq a ha1 ha2;rw[e]
   have hxl:=h.xl
   by_cases hij:i=j
   ·subst hij;rw[hp] at hq;cases hq;rw[hgn];simp only[Nat.lt_succ_self,decide_true,Bool.and_self,if_true];unfold Jo Go.Proofs.YtldomapkmopomaaGreatDoor.cleared;rw[List.append_assoc,List.getElem?_append_right (by rw[List.length_take];omega),List.getElem?_append_left (by rw[List.length_replicate,List.length_take];omega),List.getElem?_replicate,if_pos (by rw[List.length_take];omega)]
   ·have hap:=hg.apart hq hp hij
    rw[show(decide (i<j+1)&&jbt s i)=(decide (i<j)&&jbt s i) by congr 1;exact decide_eq_decide.2 (by omega),←h.x i q hq a ha1 ha2]
    have hfq:=hg.fits hq
    unfold Jo Go.Proofs.YtldomapkmopomaaGreatDoor.cleared
    rcases Nat.lt_or_ge a p.addr with h1|h1
    ·rw[List.append_assoc,List.getElem?_append_left (by rw[List.length_take];omega),List.getElem?_take_of_lt h1]
    ·rw[List.getElem?_append_right (by rw[List.length_append,List.length_take,List.length_replicate];omega),List.getElem?_drop]
     congr 1
     rw[List.length_append,List.length_take,List.length_replicate];omega
 ·rw[if_neg hc]
  have hgn:jbt s j=false:=by
   cases hx:jbt s j with
   |false=>rfl
   |true=>exact absurd (hg'.2 hx) hc
  refine⟨_,rfl,⟨rfl,rfl,h.act,rfl,h.dl,?_,h.tl,h.R,h.xl,?_⟩⟩
  ·intro i hi;dsimp only;rw[h.D i hi]
   by_cases hij:i=j
   ·subst hij;rw [hgn];simp
   ·congr 2
    exact decide_eq_decide.2 (by omega)
  ·intro i q hq a ha1 ha2
   have:=h.x i q hq a ha1 ha2
   show t.x[a]?=_
   rw[this]
   by_cases hij:i=j
   ·subst hij;rw [hgn];simp
   ·rw[show(decide (i<j+1)&&jbt s i)=(decide (i<j)&&jbt s i) by congr 1;exact decide_eq_decide.2 (by omega)]
theorem ok_all: ∀ {A D:List Bool},(∀ i:Nat,D[i]?=some true→A[i]?=some true)→ja4 A D=true
 | [],D,_=>by cases D<;>rfl
 |a::A,[],_=>rfl
 |a::A,d::D,h=>by
  have h1:=h 0
  simp only[List.getElem?_cons_zero,Option.some.injEq] at h1
  have h2:=ok_all (A:=A) (D:=D) (fun i hi=>by have:=h (i+1);simp only[List.getElem?_cons_succ] at this;exact this hi)
  simp only[ja4,h2,Bool.and_true]
  cases d with
  |false=>rfl
  |true=>rw [h1 rfl];rfl
theorem jen: ∀ {A D:List Bool} (i:Nat),A.length=D.length→(jaC A D)[i]?=(A[i]?).map fun a=>a&&!((D[i]?).getD false)
 | [],D,i,h=>by cases D with
  |nil=>simp[jaC]
  |cons d D=>simp at h
 |a::A,[],i,h=>by simp at h
 |a::A,d::D,0,h=>by simp[jaC]
 |a::A,d::D,i+1,h=>by
  simp only[jaC,List.getElem?_cons_succ];exact jen i (by simpa using h)
open Go.RowKit
set_option maxRecDepth 10000
structure AeS where
 k:Nat
 A:jb
theorem each1_K {w0:World} {F A0:jb} {r:J7} {bl:Nat} {yv:Value} (hG:jw w0) (ok:RowOk r) (J:Nat→jb→Prop) (E:jb→Prop)
  (hy: ∀ k i A,J k A→nextB r.bs k true=some i→CallV Tryz.prog w0 yv [.int .i64 (i:Nat)] (A++((bl,cells [.pointer (some ⟨r.b,0,none⟩)] 117)::(jz r++F)))
   (fun u H'=>(u= .bool true∧ ∃ A',J (i+1) A'∧H'=A'++((bl,cells [.pointer (some ⟨r.b,0,none⟩)] 117)::(jz r++F)))∨(u= .bool false∧ ∃ A',E A'∧H'=A'++((bl,cells [.pointer (some ⟨r.b,0,none⟩)] 117)::(jz r++F)))))
  (h0:J 0 A0):
  Call Tryz.prog w0 266 [yv, .pointer (some ⟨bl,0,none⟩)] (A0++((bl,cells [.pointer (some ⟨r.b,0,none⟩)] 117)::(jz r++F)))
   (fun _ H'=> ∃ A',H'=A'++((bl,cells [.pointer (some ⟨r.b,0,none⟩)] 117)::(jz r++F))∧((∃ k,nextB r.bs k true=none∧J k A')∨E A')):=by
 have hn:=ok.n
 refine Call.enter2 (n:=22) (by kernel_rfl) Tryz.func266 rfl rfl rfl ?_;refine yq3 fun T hT=>?_;refine(CallV.part (CallV.fn (jc6 (k:=0) (v:=true) ok hG (by omega))) ja).mono ?_;refine zc ?_;clear hT T;refine yr8 ?_;refine K.loopT (σ:=AeS) [(0,_),(1,_)] (fun s kp_=>(3, .int .i64 (nxI (nextB r.bs s.k true)))::(4, .bool (nextB r.bs s.k true).isSome)::kp_) (fun s=>s.A++((bl,cells [.pointer (some ⟨r.b,0,none⟩)] 117)::(jz r++F))) (fun s=>J s.k s.A) (fun s=>r.bs.length+1-s.k) (⟨0,A0⟩) jg ja (h0) ?_;rintro⟨k,A⟩ hJ;dsimp only at hJ⊢
 cases hnx:nextB r.bs k true with
 |none=>
  unfold nxI;dsimp only[Option.isSome,Option.getD];refine yr11 ?_;exact KE.finN jd rfl jc ja ⟨A,rfl, .inl ⟨k,hnx,hJ⟩⟩
 |some i=>
  unfold nxI;dsimp only[Option.isSome,Option.getD]
  obtain⟨n1,n2,n3,n4⟩:=jaZ hnx
  have he:((i:Nat):Int)+1=((i+1:Nat):Int):=by omega
  refine yq15 fun T hT=>?_;refine(hy k i A hJ hnx).mono ?_;rintro _ _ (⟨rfl,A',hJ',rfl⟩|⟨rfl,A',hE',rfl⟩)
  ·refine za ?_;clear hT T;refine yq11 fun T hT=>?_;rw[he];refine(CallV.part (CallV.fn (jc6 (k:=i+1) (v:=true) ok hG (by omega))) ja).mono ?_;refine zc ?_;clear hT T;refine yr6 ?_;exact KE.again ⟨i+1,A'⟩ jg ja hJ' (by show r.bs.length+1-(i+1)<r.bs.length+1-k;omega)
  ·refine za ?_;clear hT T;refine yr9 ?_;exact KE.fin jd rfl jc ja ⟨A',rfl, .inr hE'⟩
theorem aeach_K {w0:World} {H:jb} {b:Nat}:
  Call Tryz.prog w0 218 [.pointer (some ⟨b,0,none⟩)] H (fun u H'=> ∃ bl,u= .func (.func 266) #[] [.pointer (some ⟨bl,0,none⟩)].toArray∧H'=(bl,cells [.pointer (some ⟨b,0,none⟩)] 117)::H):=by
 refine Call.enter1 (n:=4) (by kernel_rfl) Tryz.func218 rfl rfl rfl ?_;refine yr2 ?_;refine ze ?_;intro b1;refine yr10 ?_;exact KE.fin jd rfl jc ja ⟨b1,rfl,rfl⟩
def jaL (A D:List Bool) (k:Nat):List Bool:=(List.range A.length).map fun i=>(A[i]?).getD false&&!(decide (i<k)&&(D[i]?).getD false)
theorem jbi (A D:List Bool) (k:Nat):(jaL A D k).length=A.length:=by simp[jaL]
theorem jbu {A D:List Bool} {k i:Nat} (h:i<A.length):(jaL A D k)[i]?=some ((A[i]?).getD false&&!(decide (i<k)&&(D[i]?).getD false)):=by
 unfold jaL;rw [List.getElem?_map,List.getElem?_range h];rfl
theorem jgE (A D:List Bool):jaL A D 0=A:=by
 apply List.ext_getElem?
 intro i
 by_cases h:i<A.length
 ·rw[jbu h,List.getElem?_eq_getElem h];simp
 ·rw[List.getElem?_eq_none (by rw[jbi];omega),List.getElem?_eq_none (by omega)]
theorem lessK_next {A D:List Bool} {k i:Nat} (hl:D.length=A.length) (h:nextB D k true=some i):(jaL A D k).set i false=jaL A D (i+1):=by
 obtain⟨n1,n2,n3,n4⟩:=jaZ h
 apply List.ext_getElem?
 intro j
 by_cases hj:j<A.length
 ·rw[jbu hj]
  by_cases hij:j=i
  ·subst hij;rw[List.getElem?_set_self (by rw[jbi];exact hj),n3];simp
  ·rw[List.getElem?_set_ne (by omega),jbu hj]
   by_cases hjk:j<k
   ·simp[hjk,show j<i+1 by omega]
   ·by_cases hji:j<i
    ·have:=n4 j (by omega) hji
     simp only[Bool.not_eq_true] at this;rw[this];simp
    ·simp[hjk,show ¬j<i+1 by omega]
 ·rw[List.getElem?_eq_none (by simp[jbi];omega),List.getElem?_eq_none (by rw[jbi];omega)]
theorem lessK_done {A D:List Bool} {k:Nat} (hl:D.length=A.length) (h:nextB D k true=none):jaL A D k=jaC A D:=by
 apply List.ext_getElem?
 intro j
 by_cases hj:j<A.length
 ·rw[jbu hj,jen j hl.symm,List.getElem?_eq_getElem hj];simp only[Option.map_some,Option.getD_some]
  by_cases hjk:j<k
  ·simp[hjk]
  ·unfold nextB at h;rw[List.find?_eq_none] at h
   have:=h j (List.mem_range.2 (by omega))
   simp only[show k≤j by omega,decide_true,Bool.true_and,beq_iff_eq,Bool.not_eq_true] at this;rw[this];simp[hjk]
 ·rw[List.getElem?_eq_none (by rw[jbi];omega),List.getElem?_eq_none (by rw[jem];omega)]
theorem ok_bad: ∀ {A D:List Bool} {i:Nat},A[i]?=some false→D[i]?=some true→ja4 A D=false
 |a::A,d::D,0,h1,h2=>by
  simp at h1 h2;subst h1;subst h2;rfl
 |a::A,d::D,i+1,h1,h2=>by
  simp only[List.getElem?_cons_succ] at h1 h2
  simp[ja4,ok_bad h1 h2]
 | [],D,i,h1,h2=>by simp at h1
 |a::A,[],i,h1,h2=>by simp at h2
set_option maxRecDepth 10000
structure TiM where
 b:Nat
 l:List Int
 f:Nat
 o:Own
def colP (f:Nat) (v:Int):Int:=if v=2*(f:Int) then 1 else if v=2*(f:Int)+1 then 2 else 0
def tiC (t:TiM):List Int:=t.l.map (colP t.f)
def JP (t:TiM):jb:=(t.b,cells [oV t.o t.l.length, .int .u64 (t.f:Nat)] 292)::oH uE 116 t.l t.o
theorem jad {t:TiM} {F:jb}:JP t++F=(t.b,cells [oV t.o t.l.length, .int .u64 (t.f:Nat)] 292)::(oH uE 116 t.l t.o++F):=rfl
structure TiOk (t:TiM):Prop where
 o:oOk uE t.l t.o
 n:t.l.length≤65536
 f:1≤t.f∧t.f≤1000000000
 v: ∀ v∈t.l,0≤v∧v≤2*(t.f:Int)+1
theorem jaB (t:TiM):(tiC t).length=t.l.length:=by simp[tiC]
section
variable {w0 : World} {F : jb} {t : TiM}
theorem jed (ok:TiOk t):Call Tryz.prog w0 222 [.pointer (some ⟨t.b,0,none⟩)] (JP t++F) (fun r H'=>r= .bool false∧H'=JP t++F):=by
 have hf:=ok.f
 have hne: ¬((t.f:Nat):Int)=0:=by omega
 refine Call.enter1 (n:=12) (by kernel_rfl) Tryz.func222 rfl rfl rfl ?_;simp only[jad];refine yr25 ?_;exact za0
theorem tihas_K {s:Nat} (ok:TiOk t) (hs:s<t.l.length):Call Tryz.prog w0 213 [.pointer (some ⟨t.b,0,none⟩), .int .i64 (s:Nat)] (JP t++F) (fun r H'=>r= .int .i64 0∧H'=JP t++F):=by
 have ho:=ok.o
 have hge: ¬((s:Nat):Int)≥(t.l.length:Nat):=by omega
 refine zeg ?_;refine yq10 fun T hT=>?_;refine(CallV.fn (jed ok)).mono ?_;rintro _ _ ⟨rfl,rfl⟩;refine za ?_;clear hT T;simp only[jad];refine yr37 ?_;exact za0
theorem tihas_E {s:Int} (ok:TiOk t) (hs: ¬(0≤s∧s<(t.l.length:Nat))):Call Tryz.prog w0 213 [.pointer (some ⟨t.b,0,none⟩), .int .i64 s] (JP t++F) (fun r H'=>r= .int .i64 2∧H'=JP t++F):=by
 have ho:=ok.o
 by_cases h0:s<0
 ·refine zeg ?_;refine yq10 fun T hT=>?_;refine(CallV.fn (jed ok)).mono ?_;rintro _ _ ⟨rfl,rfl⟩;refine za ?_;clear hT T;simp only[jad];refine yr29 ?_;exact za0
 ·have hge:s≥((t.l.length:Nat):Int):=by omega
  refine zeg ?_;refine yq10 fun T hT=>?_;refine(CallV.fn (jed ok)).mono ?_;rintro _ _ ⟨rfl,rfl⟩;refine za ?_;clear hT T;simp only[jad];refine yr36 ?_;exact za0
theorem ticol_K {v:Int} (ok:TiOk t):Call Tryz.prog w0 214 [.pointer (some ⟨t.b,0,none⟩), .int .u64 v] (JP t++F) (fun r H'=>r= .int .u8 (colP t.f v)∧H'=JP t++F):=by
 have hf:=ok.f
 by_cases h1:v=2*(t.f:Int)
 ·have e:colP t.f v=1:=by unfold colP;rw [if_pos h1]
  rw[e];refine zeh ?_;simp only[jad];refine yr32 ?_;exact za0
 ·by_cases h2:v=2*(t.f:Int)+1
  ·have e:colP t.f v=2:=by unfold colP;rw [if_neg h1,if_pos h2]
   rw[e];refine zeh ?_;simp only[jad];refine yr45 ?_;exact za0
  ·have e:colP t.f v=0:=by unfold colP;rw [if_neg h1,if_neg h2]
   rw[e];refine zeh ?_;simp only[jad];refine yr46 ?_;exact za0
theorem tiOf_K {s:Nat} {c:Int} (ok:TiOk t) (hc:(tiC t)[s]?=some c):Call Tryz.prog w0 140 [.pointer (some ⟨t.b,0,none⟩), .int .i64 (s:Nat)] (JP t++F) (fun r H'=>r= .tuple [.int .u8 c, .int .i64 0].toArray∧H'=JP t++F):=by
 have hs:s<t.l.length:=by have:=jl hc;rwa[jaB] at this
 have ho:=ok.o
 obtain⟨v,hv⟩:=jn hs
 have hcv:c=colP t.f v:=by
  unfold tiC at hc;rw[List.getElem?_map,hv] at hc
  simpa using hc.symm
 subst hcv;refine Call.enter2 (n:=22) (by kernel_rfl) Tryz.func140 rfl rfl rfl ?_;refine yq11 fun T hT=>?_;refine(CallV.fn (tihas_K ok hs)).mono ?_;rintro _ _ ⟨rfl,rfl⟩;refine za ?_;clear hT T;simp only[jad];refine yq22 fun T hT=>?_;refine(CallV.part (CallV.fn (ticol_K (v:=v) ok)) (by first|exact ja|(simp only[jad];exact ja))).mono ?_;refine zc ?_;clear hT T;simp only[jad];refine yr5 ?_;exact za0
theorem tiOf_E {s:Int} (ok:TiOk t) (hs: ¬(0≤s∧s<(t.l.length:Nat))):Call Tryz.prog w0 140 [.pointer (some ⟨t.b,0,none⟩), .int .i64 s] (JP t++F) (fun r H'=>r= .tuple [.int .u8 0, .int .i64 2].toArray∧H'=JP t++F):=by
 refine Call.enter2 (n:=22) (by kernel_rfl) Tryz.func140 rfl rfl rfl ?_;refine yq11 fun T hT=>?_;refine(CallV.fn (tihas_E ok hs)).mono ?_;rintro _ _ ⟨rfl,rfl⟩;refine za ?_;clear hT T;refine yr19 ?_;exact za0
theorem je0 {s:Nat} (ok:TiOk t) (hs:s<t.l.length):Call Tryz.prog w0 144 [.pointer (some ⟨t.b,0,none⟩), .int .i64 (s:Nat)] (JP t++F) (fun r H'=>r= .int .i64 0∧ ∃ t',TiOk t'∧t'.b=t.b∧t'.f=t.f∧tiC t'=(tiC t).set s 2∧H'=JP t'++F):=by
 have ho:=ok.o
 have hf:=ok.f
 obtain⟨v,hv⟩:=jn hs
 refine Call.enter2 (n:=24) (by kernel_rfl) Tryz.func144 rfl rfl rfl ?_;refine yq9 fun T hT=>?_;refine(CallV.fn (tihas_K ok hs)).mono ?_;rintro _ _ ⟨rfl,rfl⟩;refine za ?_;clear hT T;simp only[jad];refine yr11 ?_;refine K.drawn [] [(0,0),(1,0),(2,0),(3,0),(4,0),(5,0),(6,0),(7,0),(8,0),(9,0),(10,0),(11,0),(12,2)] (by kernel_rfl) (by kernel_rfl) (by kernel_rfl) (by kernel_rfl) (by kernel_rfl) (by kernel_rfl) Part.nil ?_;refine zbd ?_;refine zaX ?_;refine zbF ?_;refine zK ?_;refine zN ?_;refine zbX ?_;refine zY ?_;refine yr8 ?_
 have hle:(t.l.set s (2*(t.f:Int)+1)).length=t.l.length:=List.length_set
 refine KE.fin (H':=JP ⟨t.b,t.l.set s (2*(t.f:Int)+1),t.f,t.o⟩++F) jd rfl jc (by simp only[jad,hle];exact ja) ⟨rfl,⟨t.b,t.l.set s (2*(t.f:Int)+1),t.f,t.o⟩,⟨ho.set s _,by rw[hle];exact ok.n,hf,?_⟩,rfl,rfl,?_,rfl⟩
 ·intro u hu
  rcases List.mem_or_eq_of_mem_set hu with h|h
  ·exact ok.v u h
  ·rw[h];show 0≤2*((t.f:Nat):Int)+1∧2*((t.f:Nat):Int)+1≤2*((t.f:Nat):Int)+1;omega
 ·unfold tiC;rw[List.map_set]
  congr 1
  unfold colP;rw[if_neg (by omega),if_pos rfl]
theorem tiFlip_K (ok:TiOk t) (hb:t.f≤1000000):Call Tryz.prog w0 153 [.pointer (some ⟨t.b,0,none⟩)] (JP t++F) (fun r H'=>r= .tuple #[]∧ ∃ t',TiOk t'∧t'.b=t.b∧t'.f=t.f+1∧tiC t'=List.replicate t.l.length 0∧H'=JP t'++F):=by
 have hf:=ok.f
 have ho:=ok.o
 have he:((t.f:Nat):Int)+1=((t.f+1:Nat):Int):=by omega
 refine Call.enter1 (n:=12) (by kernel_rfl) Tryz.func153 rfl rfl rfl ?_;refine yq3 fun T hT=>?_;refine(CallV.fn (jed ok)).mono ?_;rintro _ _ ⟨rfl,rfl⟩;refine za ?_;clear hT T;simp only[jad];refine yr14 ?_;rw[he];refine KE.finN (H':=JP ⟨t.b,t.l,t.f+1,t.o⟩++F) jd rfl jc (by simp only[jad];exact ja) ⟨rfl,⟨t.b,t.l,t.f+1,t.o⟩,⟨ho,ok.n,by show 1≤t.f+1∧t.f+1≤_;omega,?_⟩,rfl,rfl,?_,rfl⟩
 ·intro v hv
  have:=ok.v v hv
  show 0≤v∧v≤2*((t.f+1:Nat):Int)+1
  omega
 ·refine List.eq_replicate_iff.2 ⟨by simp[tiC],fun c hc=>?_⟩
  obtain⟨v,hv,rfl⟩:=List.mem_map.1 hc
  have:=ok.v v hv
  unfold colP;rw[if_neg (by show ¬v=2*((t.f+1:Nat):Int);omega),if_neg (by show ¬v=2*((t.f+1:Nat):Int)+1;omega)]
end
theorem tiNew_K {w0:World} {H:jb} {n:Nat} (hn:n≤65536):Call Tryz.prog w0 129 [.int .i64 (n:Nat)] H (fun r H'=> ∃ t,TiOk t∧t.f=1∧tiC t=List.replicate n 0∧r= .tuple [.pointer (some ⟨t.b,0,none⟩), .int .i64 0].toArray∧H'=JP t++H):=by
 have hgt: ¬((n:Nat):Int)>65536:=by omega
 refine Call.enter1 (n:=14) (by kernel_rfl) Tryz.func129 rfl rfl rfl ?_;refine yr25 ?_;refine KL.e rfl (Eff.makeR (E:=uE) (x0:=0) rfl rfl rfl rfl rfl rfl (by first|assumption|omega|(simp<;>fail)|(simp;omega))) ?_;rintro _ _ ⟨o11,ok11,rfl,rfl⟩;refine yr1 ?_;refine ze ?_;intro b13;refine yr5 ?_;refine KE.fin (H':=JP ⟨b13,List.replicate n 0,1,o11⟩++H) jd rfl jc (by rw[jad];simp only[List.length_replicate];exact ja) ⟨⟨b13,List.replicate n 0,1,o11⟩,⟨ok11,by simpa using hn,by show 1≤1∧1≤1000000000;omega,fun v hv=>?_⟩,rfl,?_,rfl,rfl⟩
 ·rw[(List.mem_replicate.1 hv).2];show(0:Int)≤0∧(0:Int)≤2*((1:Nat):Int)+1;omega
 ·unfold tiC colP;simp
open Go.RowKit
set_option maxRecDepth 10000
def slL (x:ju):List Value:=[.int .i64 (x.cls:Nat), .int .i64 (x.size:Nat), .int .i64 (x.addr:Nat), .int .i64 (x.page:Nat)]
def slE:Enc ju:=⟨slL,4,fun _=>rfl,by intro x v hv;simp[slL] at hv;rcases hv with rfl|rfl|rfl|rfl<;>rfl⟩
namespace PlG
def firsts (g:PlG):List Int:=(cutL g.pgs (fun k j=>g.first k+j*g.per k) g.m).map fun n=>((n:Nat):Int)
def manys (g:PlG):List Int:=(cutL g.pgs (fun k j=>min (g.per k) (g.n k-j*g.per k)) g.m).map fun n=>((n:Nat):Int)
def clI (g:PlG):List Int:=g.cl.map fun n=>((n:Nat):Int)
end PlG
structure PlV where
 L:Value
 F:Value
 M:Value
 C:Value
def plL (v:PlV) (g:PlG):List Value:=[v.L,v.F,v.M, .int .i64 (g.words:Nat),v.C]
structure J3 (w0:World) (D:jb) (v:PlV) (g:PlG):Prop where
 L:Sli w0 D slE v.L g.L
 F:Sli w0 D iE v.F g.firsts
 M:Sli w0 D iE v.M g.manys
 C:Sli w0 D iE v.C g.clI
 oL:v.L.oneCell'=true
 oF:v.F.oneCell'=true
 oM:v.M.oneCell'=true
 oC:v.C.oneCell'=true
theorem J3.part {w0:World} {D D':jb} {v:PlV} {g:PlG} (h:J3 w0 D v g) (hp:Part D' D):J3 w0 D' v g:=⟨h.L.part hp,h.F.part hp,h.M.part hp,h.C.part hp,h.oL,h.oF,h.oM,h.oC⟩
structure ArD (w0:World) (D:jb) (v:PlV) (va:Value) (g:PlG) (A:List Bool):Prop where
 p:J3 w0 D v g
 a:Sli w0 D boE va A
 o:va.oneCell'=true
theorem ArD.part {w0:World} {D D':jb} {v:PlV} {va:Value} {g:PlG} {A:List Bool} (h:ArD w0 D v va g A) (hp:Part D' D):ArD w0 D' v va g A:=⟨h.p.part hp,h.a.part hp,h.o⟩
structure RwD where
 a:Option Addr
 n:Nat
 c:Nat
 x:List Int
def rwE:Enc RwD:=⟨fun r=> [.slice r.a r.n r.c],1,fun _=>rfl,by intro x v hv;simp at hv;subst hv;rfl⟩
structure jat (w0:World) (D:jb) (vr:Value) (R:List RwD):Prop where
 r:Sli w0 D rwE vr R
 o:vr.oneCell'=true
 x: ∀ q∈R,Sli w0 D uE (.slice q.a q.n q.c) q.x
theorem jat.part {w0:World} {D D':jb} {vr:Value} {R:List RwD} (h:jat w0 D vr R) (hp:Part D' D):jat w0 D' vr R:=⟨h.r.part hp,h.o,fun q hq=>(h.x q hq).part hp⟩
def rwX (R:List RwD):List (List Int):=R.map (·.x)
open Go.ChangeShapes Go.WideShapes Go.ChangeAt Go.RowKit
set_option maxRecDepth 100000
def laidL : List (String × DataW Unit) := [("math/bits.deBruijn64tab", Rows.laid_math_bits_deBruijn64tab), ("commonage/head.widths", Rows.laid_commonage_head_widths)]
def tabZ:List Int:=Lib.deBruijn64tab.map fun n=>((n:Nat):Int)
def wdZ:List Int:=wdL.map fun n=>((n:Nat):Int)
theorem cells_of {W:World} {n t e f:Nat} {k:IntKind} {zs:List Int} {cs:Array Value} {p:List MemPlace} (ht:Tryz.prog.underlying t=some (.array n e)) (he:Tryz.prog.underlying e=some (.int k)) (hc:Tryz.prog.cellsOf e=1) (hz:zs.length=n)
  (hd:DataW.trod (fun x:TypeId × Value=>()) Tryz.prog W 0 (fun _=>true) false f t cs.toList=some (.agg (zs.map fun n=> .lit (.int k n)),p)) (r:Nat) (hr:r<n):cs.toList[r]?=some (.int k (zs.getD r 0)):=by
 obtain⟨xs,m,_,ex,_,hl,hel⟩:=DataW.trod_array ht hd
 have hE:=hel r hr
 rw[hc,Nat.mul_one,List.getElem?_eq_getElem (by omega)] at hE
 obtain⟨z,e1,e2,_⟩:=DataW.trod_int he hE
 have e3:(xs.map (·.1))=zs.map fun n=> .lit (.int k n):=(DataW.agg.inj (Prod.mk.inj ex).1).symm
 have e4:(xs.map (·.1))[r]?=(zs.map fun n=>(DataW.lit (.int k n):DataW Unit))[r]? :=by rw[e3]
 rw[List.getElem?_map,List.getElem?_map,List.getElem?_eq_getElem (by omega:r<xs.length),List.getElem?_eq_getElem (by omega:r<zs.length),e2] at e4
 have hz:z=zs.getD r 0:=by
  simp only[Option.map_some,Option.some.injEq,DataW.lit.injEq,Lit.int.injEq,true_and] at e4;rw[e4,List.getD,List.getElem?_eq_getElem (by omega:r<zs.length)];rfl
 rw[←hz]
 have h0:((cs.toList.drop r).take 1)[0]?=some (.int k z):=by rw[e1];rfl
 simpa using h0
theorem glob_of_laid {W:World} (h:laidMetH Tryz.prog laidL W):jw W:=by
 rw[MakeChecks.laidMetH_plain _ _ _ (by kernel_rfl)] at h
 obtain⟨ps,⟨g0,t0,cs0,f0,p0,q0,hg0,ht0,hv0,hd0,⟨g1,t1,cs1,f1,p1,q1,hg1,ht1,hv1,hd1,_,_⟩,_⟩,_,_⟩:=h
 obtain rfl := Option.some.inj ((show Tryz.prog.globalNamed "math/bits.deBruijn64tab" = some 0 by kernel_rfl).symm.trans hg0)
 obtain rfl := Option.some.inj ((show Tryz.prog.globalNamed "commonage/head.widths" = some 1 by kernel_rfl).symm.trans hg1)
 obtain rfl:=Option.some.inj ((show(Tryz.prog.globals[0]?).map (·.type)=some 331 by kernel_rfl).symm.trans ht0)
 obtain rfl:=Option.some.inj ((show(Tryz.prog.globals[1]?).map (·.type)=some 332 by kernel_rfl).symm.trans ht1)
 refine⟨fun j hj=>?_,fun j n hn=>?_⟩
 ·have hj64:j<64:=hj
  have h1:=cells_of (zs:=tabZ) Tryz.underlying331 Tryz.underlying5 (by kernel_rfl) (by kernel_rfl) hd0 j hj64
  have h2:=World.var?_cell hg0 hv0 j
  have h3:tabZ.getD j 0=((Lib.deBruijn64tab.getD j 0:Nat):Int):=by
   unfold tabZ;simp only[List.getD_eq_getElem?_getD,List.getElem?_map]
   cases Lib.deBruijn64tab[j]?<;>rfl
  rw[h2,←h3]
  simpa using h1
 ·have hj5:j<5:=(List.getElem?_eq_some_iff.1 hn).1
  have h1:=cells_of (zs:=wdZ) Tryz.underlying332 Tryz.underlying3 (by kernel_rfl) (by kernel_rfl) hd1 j hj5
  have h2:=World.var?_cell hg1 hv1 j
  have h3:wdZ.getD j 0=((n:Nat):Int):=by
   unfold wdZ;simp only[List.getD_eq_getElem?_getD,List.getElem?_map,hn];rfl
  rw[h2,←h3]
  simpa using h1
theorem door_met (os:Os) (args:Array Value):laidMetH Tryz.prog laidL ((World.doorLaid Tryz.prog 400 os).forCall (fun _ _=>0) ⟨#[],args,[]⟩).memory:=
 laidMetH_of_parts3 (fuel:=8) (laidMet_of_run' 8 (by kernel_rfl) (by kernel_rfl)) (by kernel_rfl) (by kernel_rfl)
end Go.Proofs.YtldomapkmopomaaGreatDoor.Sw
