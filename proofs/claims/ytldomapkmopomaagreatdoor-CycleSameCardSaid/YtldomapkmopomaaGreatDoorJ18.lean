/-The walker and the contracts that the law needs,part 18. -/
import Derived.Test.YtldomapkmopomaaGreatDoorD1
import Derived.ArgAppend
import Derived.ChangeMaps5
import Derived.Deep.Fields
import Derived.Deep.LoopGhost
import Derived.Deep.OwnRows
import Derived.Deep.Quiet
import Derived.Deep.Slices
import Derived.IntWalk
import Derived.Laws.Cells
import Derived.Laws.CopyOwn
import Derived.Laws.Externs
import Derived.Laws.FloatArith
import Derived.Laws.IdiomStrings
import Derived.Laws.NewFold
import Derived.Laws.StructEq
import Derived.Lib.BitFns
import Derived.Lib.Hide
import Derived.Lib.SmallJoins
import Derived.Lib.TrailingZeros
import Derived.Maps.RangeRun
import Derived.OrdersIn
import Derived.ProofKit
import Derived.RangeFuncBound
import Derived.RangeFuncCalls
import Derived.RangeFuncLeaves
import Derived.RangeFuncNested
import Derived.RecoverIn
import Derived.Shelf.Bits.Mul64
import Derived.Shelf.Slices.Turned
import Derived.Shelf.Spec.TrailingZeros
import Derived.Shelf.Strconv.Itoa0
import Derived.SizedLaws
import Derived.Sort.BigQuietIn
import Derived.StillTailTactics
import Derived.Test.YtldomapkmopomaaGreatDoorProg
import Derived.WalkKit
import Derived.Test.YtldomapkmopomaaGreatDoorJ17
set_option linter.unusedVariables false set_option linter.unusedSimpArgs false namespace Go.Proofs.YtldomapkmopomaaGreatDoor.Sw
set_option maxHeartbeats 8000000
open Go.Proofs.YtldomapkmopomaaGreatDoor renaming lo → qL, hi → qH
open Go.RowKit
set_option linter.unusedVariables false
set_option linter.unusedSimpArgs false
set_option maxRecDepth 10000
def jag (h:HdP):Int × Int:=if Jd h then(h.r+h.w+1,0) else(0,2)
def JT (h:HdP) (i:Int):Bool × Int:=if Jd h then(if i<0∨i≥h.r+h.w then(false,110) else(decide (i<h.r),0)) else(false,2)
theorem jdJ {h:HdP} (hm:Jd h=true):0≤h.c∧h.c<8∧0≤h.r∧0≤h.w∧h.r≤63∧h.w≤63-h.r:=of_decide_eq_true hm
theorem Need_K {w0:World} {H:jb} {h:HdP}:Call Tryz.prog w0 186 [hdV h] H (fun u H'=>u= .tuple [.int .i64 (jag h).1, .int .i64 (jag h).2].toArray∧H'=H):=by
 have hu:hdV h= .agg [.int .i64 h.c, .int .i64 h.r, .int .i64 h.w].toArray:=rfl
 rw[hu];refine Call.enter1 (n:=13) (by kernel_rfl) Tryz.func186 rfl rfl rfl ?_;refine yr2 ?_;refine ze ?_;intro b1;refine yq8 fun T hT=>?_;refine(CallV.fn (hmay_K (h:=h))).mono ?_;rintro _ _ ⟨rfl,rfl⟩
 cases hm:Jd h with
 |true=>
  have hb:=jdJ hm
  have hn:jag h=(h.r+h.w+1,0):=by unfold jag;rw [if_pos hm]
  refine za ?_;clear hT T;rw[hn];refine yr19 ?_;exact zd
 |false=>
  have hn:jag h=(0,2):=by unfold jag;rw [if_neg (by simp[hm])]
  refine za ?_;clear hT T;rw[hn];refine yr12 ?_;exact zd
theorem hField_K {w0:World} {H:jb} {h:HdP} {i:Int}:Call Tryz.prog w0 316 [hdV h, .int .i64 i] H (fun u H'=>u= .tuple [.bool (JT h i).1, .int .i64 (JT h i).2].toArray∧H'=H):=by
 have hu:hdV h= .agg [.int .i64 h.c, .int .i64 h.r, .int .i64 h.w].toArray:=rfl
 rw[hu];refine Call.enter2 (n:=26) (by kernel_rfl) Tryz.func316 rfl rfl rfl ?_;refine yr2 ?_;refine ze ?_;intro b2;refine yq9 fun T hT=>?_;refine(CallV.fn (hmay_K (h:=h))).mono ?_;rintro _ _ ⟨rfl,rfl⟩
 cases hm:Jd h with
 |true=>
  have hb:=jdJ hm
  refine za ?_;clear hT T
  by_cases h1:i<0
  ·have hn:JT h i=(false,110):=by unfold JT;rw [if_pos hm,if_pos (.inl h1)]
   rw[hn];refine yr31 ?_;exact zd
  by_cases h2:i≥h.r+h.w
  ·have hn:JT h i=(false,110):=by unfold JT;rw [if_pos hm,if_pos (.inr h2)]
   rw[hn];refine yr38 ?_;exact zd
  ·have hn:JT h i=(decide (i<h.r),0):=by unfold JT;rw [if_pos hm,if_neg (by omega)]
   rw[hn]
   by_cases h3:i<h.r
   ·have hd:decide (i<h.r)=true:=decide_eq_true h3
    refine yr43 ?_;exact zda
   ·have hd:decide (i<h.r)=false:=decide_eq_false h3
    refine yr43 ?_;exact zda
 |false=>
  have hn:JT h i=(false,2):=by unfold JT;rw [if_neg (by simp[hm])]
  refine za ?_;clear hT T;rw[hn];refine yr14 ?_;exact zd
theorem rMay_K {w0:World} {H:jb} {h:HdP}:Call Tryz.prog w0 301 [hdV h] H (fun r H'=>r= .bool (Jd h)∧H'=H):=by
 obtain⟨c,r,w⟩:=h
 unfold hdV
 have yes:(0≤c∧c<8∧0≤r∧0≤w∧r≤63∧w≤63-r)→Jd ⟨c,r,w⟩=true:=fun h=>decide_eq_true h
 have no: ¬(0≤c∧c<8∧0≤r∧0≤w∧r≤63∧w≤63-r)→Jd ⟨c,r,w⟩=false:=fun h=>decide_eq_false h
 refine Call.enter1 (n:=34) (by kernel_rfl) Tryz.func301 rfl rfl rfl ?_
 by_cases h1:c≥0
 ·by_cases h2:c≤7
  ·by_cases h3:r≥0
   ·by_cases h5:r≤63
    ·by_cases h4:w≥0
     ·by_cases h6:w≤63-r
      ·rw[yes (by omega)];refine yr2 ?_;refine ze ?_;intro b1;refine yr58 ?_;exact zd
      ·rw[no (by omega)];refine yr2 ?_;refine ze ?_;intro b1;refine yr58 ?_;exact zd
     ·rw[no (by omega)];refine yr2 ?_;refine ze ?_;intro b1;refine yr52 ?_;exact zd
    ·rw[no (by omega)];refine yr2 ?_;refine ze ?_;intro b1;refine yr49 ?_;exact zd
   ·rw[no (by omega)];refine yr2 ?_;refine ze ?_;intro b1;refine yr46 ?_;exact zd
  ·rw[no (by omega)];refine yr2 ?_;refine ze ?_;intro b1;refine yr43 ?_;exact zd
 ·rw[no (by omega)];refine yr2 ?_;refine ze ?_;intro b1;refine yr40 ?_;exact zd
def putP (h:HdP):Value:=if Jd h then .tuple [.int .u64 (putN h.c.toNat h.r.toNat h.w.toNat:Nat), .int .i64 0].toArray else .tuple [.int .u64 0, .int .i64 2].toArray
theorem rPut_K {w0:World} {H:jb} {h:HdP}:Call Tryz.prog w0 272 [hdV h] H (fun u H'=>u=putP h∧H'=H):=by
 have hu:hdV h= .agg [.int .i64 h.c, .int .i64 h.r, .int .i64 h.w].toArray:=rfl
 rw[hu];refine Call.enter1 (n:=22) (by kernel_rfl) Tryz.func272 rfl rfl rfl ?_;refine yr2 ?_;refine ze ?_;intro b1;refine yq8 fun T hT=>?_;refine(CallV.fn (rMay_K (h:=h))).mono ?_;rintro _ _ ⟨rfl,rfl⟩
 cases hm:Jd h with
 |true=>
  have hb:=jdJ hm
  have hn:putP h= .tuple [.int .u64 (putN h.c.toNat h.r.toNat h.w.toNat:Nat), .int .i64 0].toArray:=by unfold putP;rw [if_pos hm]
  refine za ?_;clear hT T;rw[hn];clear hm hn
  obtain⟨c,r,w⟩:=h
  dsimp only at hb⊢
  obtain⟨c,rfl⟩: ∃ q:Nat,c=q:=⟨c.toNat,by omega⟩
  obtain⟨r,rfl⟩: ∃ q:Nat,r=q:=⟨r.toNat,by omega⟩
  obtain⟨w,rfl⟩: ∃ q:Nat,w=q:=⟨w.toNat,by omega⟩
  simp only[Int.toNat_natCast]
  obtain⟨A,hA⟩: ∃ A,A=c*2^48:=⟨_,rfl⟩
  obtain⟨B,hB⟩: ∃ A,A=r*2^32:=⟨_,rfl⟩
  obtain⟨C,hC⟩: ∃ A,A=w*2^16:=⟨_,rfl⟩
  have bA:A≤7*2^48:=by rw[hA];exact Nat.mul_le_mul_right _ (by omega)
  have bB:B≤63*2^32:=by rw[hB];exact Nat.mul_le_mul_right _ (by omega)
  have bC:C≤63*2^16:=by rw[hC];exact Nat.mul_le_mul_right _ (by omega)
  rw[show 7*2^48=1970324836974592 by decide] at bA;rw[show 63*2^32=270582939648 by decide] at bB;rw[show 63*2^16=4128768 by decide] at bC
  have hp:putN c r w=14339461213547659264+A+B+C:=by
   unfold putN;rw[←hA,←hB,←hC,show 199*2^56=14339461213547659264 by decide];omega
  have s1:IntKind.u64.wrap ((c:Int)*2^(min (Int.toNat 48) IntKind.u64.bits))=(A:Int):=by rw[hA];exact jdz (j:=48) (by omega) (by rw[←hA];omega)
  have s2:IntKind.u64.wrap ((r:Int)*2^(min (Int.toNat 32) IntKind.u64.bits))=(B:Int):=by rw[hB];exact jdz (j:=32) (by omega) (by rw[←hB];omega)
  have s3:IntKind.u64.wrap ((w:Int)*2^(min (Int.toNat 16) IntKind.u64.bits))=(C:Int):=by rw[hC];exact jdz (j:=16) (by omega) (by rw[←hC];omega)
  have t1:(14339461213547659264:Int)+(A:Int)=((14339461213547659264+A:Nat):Int):=by omega
  rw[hp];clear hA hB hC hp;refine yr6 ?_;refine zk ?_;refine yr4 ?_;rw[s1];refine yr5 ?_;rw[s2];refine yr5 ?_;rw[s3];refine yr6 ?_;exact KE.fin jd rfl jc ja ⟨by show Value.tuple [.int .u64 ((14339461213547659264:Int)+(A:Int)+(B:Int)+(C:Int)),_].toArray=_;rfl,rfl⟩
 |false=>
  have hn:putP h= .tuple [.int .u64 0, .int .i64 2].toArray:=by unfold putP;rw [if_neg (by simp[hm])]
  refine za ?_;clear hT T;rw[hn];refine yr12 ?_;exact zd
theorem dig_pack {ws:List Nat} {w:Nat}: ∀ k,k≤ws.length→packK ws (digK ws w ws.length) k=w%2^(ws.take k).sum
 |0,_=>by simp[packK,Nat.mod_one]
 |k+1,h=>by
  obtain⟨n,hn⟩:=jn (l:=ws) (k:=k) (by omega)
  have hd:(digK ws w ws.length)[k]?=some (w/2^(ws.take k).sum%2^n):=by
   unfold digK;rw[List.getElem?_map,List.getElem?_range (by omega),Option.map_some,hn];rfl
  rw[jaO hd,dig_pack k (by omega),jaP hn,List.sum_append,List.sum_cons,List.sum_nil,Nat.add_zero,Nat.pow_add,Nat.mod_mul,Nat.mul_comm (w/2^(ws.take k).sum%2^n)]
theorem pack5 (a b c d e:Nat):packK wdL [a,b,c,d,e] 5=a+b*2^16+c*2^32+d*2^48+e*2^56:=by
 have h1:=jaO (ws:=wdL) (vs:=[a,b,c,d,e]) (k:=0) rfl
 have h2:=jaO (ws:=wdL) (vs:=[a,b,c,d,e]) (k:=1) rfl
 have h3:=jaO (ws:=wdL) (vs:=[a,b,c,d,e]) (k:=2) rfl
 have h4:=jaO (ws:=wdL) (vs:=[a,b,c,d,e]) (k:=3) rfl
 have h5:=jaO (ws:=wdL) (vs:=[a,b,c,d,e]) (k:=4) rfl
 have e0:packK wdL [a,b,c,d,e] 0=0:=rfl
 rw[show(wdL.take 0).sum=0 from rfl,Nat.pow_zero,Nat.mul_one] at h1;rw[show(wdL.take 1).sum=16 from rfl] at h2;rw[show(wdL.take 2).sum=32 from rfl] at h3;rw[show(wdL.take 3).sum=48 from rfl] at h4;rw[show(wdL.take 4).sum=56 from rfl] at h5;rw[h5,h4,h3,h2,h1,e0,Nat.zero_add]
theorem put_get {w d0 d1 d2 d3 d4:Nat} (hw:w<18446744073709551616) (h0:d0=w%2^16) (h1:d1=w/2^16%2^16) (h2:d2=w/2^32%2^16) (h3:d3=w/2^48%2^8) (h4:d4=w/2^56%2^8):putN d3 d2 d1=w↔d0=0∧d4=199:=by
 have hp:=dig_pack (ws:=wdL) (w:=w) 5 (by decide)
 rw[show wdL.length=5 from rfl,dig_wd,←h0,←h1,←h2,←h3,←h4,pack5,show(wdL.take 5).sum=64 from rfl,show(2:Nat)^64=18446744073709551616 by decide,Nat.mod_eq_of_lt hw] at hp
 have hd0:d0<65536:=by rw[h0];exact Nat.mod_lt _ (by decide)
 clear h0 h1 h2 h3 h4;unfold putN;clear hw
 have hE0:65536≤2^56:=by decide
 obtain⟨A,hA⟩: ∃ A,A=d1*2^16:=⟨_,rfl⟩
 obtain⟨B,hB⟩: ∃ A,A=d2*2^32:=⟨_,rfl⟩
 obtain⟨C,hC⟩: ∃ A,A=d3*2^48:=⟨_,rfl⟩
 obtain⟨E,hE⟩: ∃ A,A=2^56:=⟨_,rfl⟩
 rw[←hA,←hB,←hC,←hE] at hp⊢;rw[←hE] at hE0;clear hA hB hC hE
 constructor
 ·intro h
  have he:d0+d4*E=199*E:=by omega
  have h0:d0=0:=by
   have h5:(d0+d4*E)%E=(199*E)%E:=by rw[he]
   rw[Nat.add_mul_mod_self_right,Nat.mul_mod_left,Nat.mod_eq_of_lt (by omega)] at h5;exact h5
  refine⟨h0,?_⟩;rw[h0,Nat.zero_add] at he;exact Nat.eq_of_mul_eq_mul_right (by omega) he
 ·rintro⟨h0,h4⟩;rw[h0,h4] at hp
  omega
theorem rGet_K {w0:World} {H:jb} {w:Nat} (hw:w<18446744073709551616):Call Tryz.prog w0 238 [.int .u64 (w:Nat)] H (fun u H'=>u=ja5 w∧H'=H):=by
 obtain⟨d0,hd0⟩: ∃ d,d=w%2^16:=⟨_,rfl⟩
 obtain⟨d1,hd1⟩: ∃ d,d=w/2^16%2^16:=⟨_,rfl⟩
 obtain⟨d2,hd2⟩: ∃ d,d=w/2^32%2^16:=⟨_,rfl⟩
 obtain⟨d3,hd3⟩: ∃ d,d=w/2^48%2^8:=⟨_,rfl⟩
 obtain⟨d4,hd4⟩: ∃ d,d=w/2^56%2^8:=⟨_,rfl⟩
 have hpg:=put_get hw hd0 hd1 hd2 hd3 hd4
 have c1:d1<65536:=by rw[hd1];exact Nat.mod_lt _ (by decide)
 have c2:d2<65536:=by rw[hd2];exact Nat.mod_lt _ (by decide)
 have c3:d3<256:=by rw[hd3];exact Nat.mod_lt _ (by decide)
 have hg:getH w=if d0=0∧d4=199∧Jd ⟨(d3:Int),(d2:Int),(d1:Int)⟩=true then some ⟨(d3:Int),(d2:Int),(d1:Int)⟩ else none:=by unfold getH;rw [←hd0,←hd1,←hd2,←hd3,←hd4]
 obtain⟨u1,hu1⟩: ∃ u,u=w/2^48:=⟨_,rfl⟩
 obtain⟨u2,hu2⟩: ∃ u,u=w/2^32:=⟨_,rfl⟩
 obtain⟨u3,hu3⟩: ∃ u,u=w/2^16:=⟨_,rfl⟩
 have s1:(w:Int).fdiv (2^(min (Int.toNat 48) IntKind.u64.bits))=(u1:Int):=by rw[hu1];exact ja0 (j:=48) (by omega)
 have s2:(w:Int).fdiv (2^(min (Int.toNat 32) IntKind.u64.bits))=(u2:Int):=by rw[hu2];exact ja0 (j:=32) (by omega)
 have s3:(w:Int).fdiv (2^(min (Int.toNat 16) IntKind.u64.bits))=(u3:Int):=by rw[hu3];exact ja0 (j:=16) (by omega)
 have m1:(u1:Int)%256=(d3:Int):=by rw[←hu1,show(2:Nat)^8=256 by decide] at hd3;omega
 have m2:(u2:Int)%65536=(d2:Int):=by rw[←hu2,show(2:Nat)^16=65536 by decide] at hd2;omega
 have m3:(u3:Int)%65536=(d1:Int):=by rw[←hu3,show(2:Nat)^16=65536 by decide] at hd1;omega
 clear hd0 hd1 hd2 hd3 hd4 hu1 hu2 hu3;refine Call.enter1 (n:=34) (by kernel_rfl) Tryz.func238 rfl rfl rfl ?_;refine yr2 ?_;refine zf ?_;intro b2;refine yr3 ?_;refine zk ?_;refine yr2 ?_;rw[s1];refine yr1 ?_;rw[m1];refine yr3 ?_;rw[s2];refine yr1 ?_;rw[m2];refine yr3 ?_;rw[s3];refine yr1 ?_;rw[m3];refine yr2 ?_;refine zf ?_;intro b4;refine yq6 fun T hT=>?_;refine(CallV.fn (rPut_K (h:=⟨(d3:Int),(d2:Int),(d1:Int)⟩))).mono ?_;rintro _ _ ⟨rfl,rfl⟩
 cases hm:Jd ⟨(d3:Int),(d2:Int),(d1:Int)⟩ with
 |true=>
  have hpp:putP ⟨(d3:Int),(d2:Int),(d1:Int)⟩= .tuple [.int .u64 (putN d3 d2 d1:Nat), .int .i64 0].toArray:=by unfold putP;rw [if_pos hm];rfl
  rw[hpp]
  by_cases he:putN d3 d2 d1=w
  ·have hr:ja5 w= .tuple [.agg [.int .i64 (d3:Nat), .int .i64 (d2:Nat), .int .i64 (d1:Nat)].toArray, .int .i64 0].toArray:=by
    unfold ja5;rw [hg,if_pos ⟨(hpg.1 he).1,(hpg.1 he).2,hm⟩];rfl
   rw[he]
   have hne: ¬(w:Int)≠(w:Int):=by omega
   refine za ?_;clear hT T;rw[hr];refine yr33 ?_;exact zd
  ·have hr:ja5 w= .tuple [.agg [.int .i64 0, .int .i64 0, .int .i64 0].toArray, .int .i64 5].toArray:=by
    unfold ja5;rw [hg,if_neg fun h=>he (hpg.2 ⟨h.1,h.2.1⟩)];rfl
   have hne:((putN d3 d2 d1:Nat):Int)≠(w:Int):=by omega
   refine za ?_;clear hT T;rw[hr];refine yr32 ?_;exact zd
 |false=>
  have hpp:putP ⟨(d3:Int),(d2:Int),(d1:Int)⟩= .tuple [.int .u64 0, .int .i64 2].toArray:=by unfold putP;rw [if_neg (by simp[hm])]
  have hr:ja5 w= .tuple [.agg [.int .i64 0, .int .i64 0, .int .i64 0].toArray, .int .i64 5].toArray:=by
   unfold ja5;rw [hg,if_neg fun h=>by rw[hm] at h;exact absurd h.2.2 (by simp)];rfl
  rw[hpp];refine za ?_;clear hT T;rw[hr];refine yr29 ?_;exact zd
theorem rNeed_K {w0:World} {H:jb} {h:HdP}:Call Tryz.prog w0 279 [hdV h] H (fun u H'=>u= .tuple [.int .i64 (jag h).1, .int .i64 (jag h).2].toArray∧H'=H):=by
 have hu:hdV h= .agg [.int .i64 h.c, .int .i64 h.r, .int .i64 h.w].toArray:=rfl
 rw[hu];refine Call.enter1 (n:=13) (by kernel_rfl) Tryz.func279 rfl rfl rfl ?_;refine yr2 ?_;refine ze ?_;intro b1;refine yq8 fun T hT=>?_;refine(CallV.fn (rMay_K (h:=h))).mono ?_;rintro _ _ ⟨rfl,rfl⟩
 cases hm:Jd h with
 |true=>
  have hb:=jdJ hm
  have hn:jag h=(1+h.r+h.w,0):=by unfold jag;rw [if_pos hm];congr 1;omega
  refine za ?_;clear hT T;rw[hn];refine yr19 ?_;exact zd
 |false=>
  have hn:jag h=(0,2):=by unfold jag;rw [if_neg (by simp[hm])]
  refine za ?_;clear hT T;rw[hn];refine yr12 ?_;exact zd
theorem rField_K {w0:World} {H:jb} {h:HdP} {i:Int}:Call Tryz.prog w0 280 [hdV h, .int .i64 i] H (fun u H'=>u= .tuple [.bool (JT h i).1, .int .i64 (JT h i).2].toArray∧H'=H):=by
 have hu:hdV h= .agg [.int .i64 h.c, .int .i64 h.r, .int .i64 h.w].toArray:=rfl
 rw[hu];refine Call.enter2 (n:=24) (by kernel_rfl) Tryz.func280 rfl rfl rfl ?_;refine yr2 ?_;refine ze ?_;intro b2;refine yq8 fun T hT=>?_;refine(CallV.fn (rMay_K (h:=h))).mono ?_;rintro _ _ ⟨rfl,rfl⟩
 cases hm:Jd h with
 |true=>
  have hb:=jdJ hm
  refine za ?_;clear hT T
  by_cases h1:i<0
  ·have hn:JT h i=(false,110):=by unfold JT;rw [if_pos hm,if_pos (.inl h1)]
   rw[hn];refine yr31 ?_;exact zd
  by_cases h2:i≥h.r+h.w
  ·have hn:JT h i=(false,110):=by unfold JT;rw [if_pos hm,if_pos (.inr h2)]
   rw[hn];refine yr38 ?_;exact zd
  ·have hn:JT h i=(decide (i<h.r),0):=by unfold JT;rw [if_pos hm,if_neg (by omega)]
   rw[hn]
   by_cases h3:i<h.r
   ·have hd:decide (i<h.r)=true:=decide_eq_true h3
    refine yr43 ?_;exact zda
   ·have hd:decide (i<h.r)=false:=decide_eq_false h3
    refine yr43 ?_;exact zda
 |false=>
  have hn:JT h i=(false,2):=by unfold JT;rw [if_neg (by simp[hm])]
  refine za ?_;clear hT T;rw[hn];refine yr12 ?_;exact zd
end Go.Proofs.YtldomapkmopomaaGreatDoor.Sw
