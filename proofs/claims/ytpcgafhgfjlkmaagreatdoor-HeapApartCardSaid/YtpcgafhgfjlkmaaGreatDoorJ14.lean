/-The walker and the contracts that the law needs,part 14. -/
import Derived.Test.YtpcgafhgfjlkmaaGreatDoorD1
import Derived.Lib.TrailingZeros
import Derived.Lib.BitFns
import Derived.ArgAppend
import Derived.ChangeMaps5
import Derived.Deep.Fields
import Derived.Deep.LoopGhost
import Derived.Deep.OwnRows
import Derived.Deep.Quiet
import Derived.Deep.Slices
import Derived.IntWalk
import Derived.Laws.Cells
import Derived.Laws.CopyOwn
import Derived.Laws.Externs
import Derived.Laws.FloatArith
import Derived.Laws.IdiomStrings
import Derived.Laws.NewFold
import Derived.Laws.StructEq
import Derived.Lib.Hide
import Derived.Lib.SmallJoins
import Derived.Maps.RangeRun
import Derived.OrdersIn
import Derived.ProofKit
import Derived.RangeFuncBound
import Derived.RangeFuncCalls
import Derived.RangeFuncLeaves
import Derived.RangeFuncNested
import Derived.RecoverIn
import Derived.Shelf.Bits.Mul64
import Derived.Shelf.Slices.Turned
import Derived.Shelf.Strconv.Itoa0
import Derived.SizedLaws
import Derived.Sort.BigQuietIn
import Derived.StillTailTactics
import Derived.Test.YtpcgafhgfjlkmaaGreatDoorProg
import Derived.WalkKit
import Derived.Shelf.Spec.TrailingZeros
import Derived.Test.YtpcgafhgfjlkmaaGreatDoorJ13
set_option linter.unusedVariables false set_option linter.unusedSimpArgs false set_option linter.unusedVariables false
set_option linter.unusedSimpArgs false
namespace Go.Proofs.YtpcgafhgfjlkmaaGreatDoor.Sw
set_option maxHeartbeats 8000000
open Go.Proofs.YtpcgafhgfjlkmaaGreatDoor renaming lo → qL, hi → qH
open Go.RowKit
theorem jd3 {n:Nat} (h:n<18446744073709551616):IntKind.u64.wrap (n:Int)=(n:Int):=by
 rw[IntKind.wrap_u64];omega
theorem jfd {n:Nat} (h:n<18446744073709551616):(BitVec.ofInt 64 (n:Int)).toNat=n:=by
 grind
theorem jc2 {a b:Nat} (ha:a<18446744073709551616) (hb:b<18446744073709551616):jaq .and .u64 (a:Int) (b:Int)=((a&&&b:Nat):Int):=by
 show IntKind.u64.wrap ((BitVec.ofInt 64 (a:Int)&&&BitVec.ofInt 64 (b:Int)).toNat:Int)=_
 grind[jfd,jd3]
theorem and_one {a:Nat} (ha:a<18446744073709551616):jaq .and .u64 (a:Int) 1=((a&&&1:Nat):Int):=jc2 (b:=1) ha (by omega)
theorem or_nat {a b:Nat} (ha:a<18446744073709551616) (hb:b<18446744073709551616):jaq .or .u64 (a:Int) (b:Int)=((a|||b:Nat):Int):=by
 show IntKind.u64.wrap ((BitVec.ofInt 64 (a:Int)|||BitVec.ofInt 64 (b:Int)).toNat:Int)=_
 grind[jfd,jd3]
theorem xor_nat {a b:Nat} (ha:a<18446744073709551616) (hb:b<18446744073709551616):jaq .xor .u64 (a:Int) (b:Int)=((a^^^b:Nat):Int):=by
 show IntKind.u64.wrap ((BitVec.ofInt 64 (a:Int)^^^BitVec.ofInt 64 (b:Int)).toNat:Int)=_
 grind[jfd,jd3]
def lessN (a b:Nat):Nat:=a&&&(18446744073709551616-(b+1))
theorem jku {a b:Nat} (ha:a<18446744073709551616):lessN a b<18446744073709551616:=by
 exact Nat.lt_of_le_of_lt Nat.and_le_left ha
theorem jhD {a b:Nat} (ha:a<18446744073709551616) (hb:b<18446744073709551616):jaq .andNot .u64 (a:Int) (b:Int)=((lessN a b:Nat):Int):=by
 show IntKind.u64.wrap ((BitVec.ofInt 64 (a:Int)&&& ~~~(BitVec.ofInt 64 (b:Int))).toNat:Int)=_
 rw[BitVec.toNat_and,BitVec.toNat_not,jfd ha,jfd hb];rw[show 2^64-1-b=18446744073709551616-(b+1) by omega];exact jd3 (jku ha)
theorem jhc {a b:Nat} (hb:b<18446744073709551616) (t:Nat):(lessN a b).testBit t=(a.testBit t&&(decide (t<64)&&!b.testBit t)):=by
 unfold lessN;rw[Nat.testBit_and,show(18446744073709551616:Nat)=2^64 by decide,Nat.testBit_two_pow_sub_succ (by omega)]
theorem jcz {a j:Nat} (hj:j<64):((a:Int)).fdiv (2^(min (Int.toNat (j:Int)) IntKind.u64.bits))=((a/2^j:Nat):Int):=by
 have e:min (Int.toNat (j:Int)) IntKind.u64.bits=j:=by
  exact Nat.min_eq_left (by show j≤64;omega)
 grind
theorem jh6 {j:Nat} (hj:j<64):IntKind.u64.wrap (1*2^(min (Int.toNat (j:Int)) IntKind.u64.bits))=((2^j:Nat):Int):=by
 have e:min (Int.toNat (j:Int)) IntKind.u64.bits=j:=by
  exact Nat.min_eq_left (by show j≤64;omega)
 rw[e,show(1:Int)*2^j=((2^j:Nat):Int) by simp];exact jd3 (by have:2^j<2^64:=Nat.pow_lt_pow_right (by omega) hj;omega)
def bitsN:List Bool→Nat
 | []=>0
 |b::l=>(if b then 1 else 0)+2*bitsN l
theorem jfA: ∀ (l:List Bool) (t:Nat),(bitsN l).testBit t=(l[t]?).getD false
 | [],t=>by simp[bitsN]
 |b::l,0=>by
  grind[bitsN]
 |b::l,t+1=>by
  rw[show t+1=t.succ from rfl,Nat.testBit_succ]
  have:bitsN (b::l)/2=bitsN l:=by
   grind[bitsN]
  rw[this,jfA l t];simp
theorem jfS: ∀ l:List Bool,bitsN l<2^l.length
 | []=>by simp[bitsN]
 |b::l=>by
  have:=jfS l
  grind[bitsN]
def wordN (bs:List Bool) (k:Nat):Nat:=bitsN ((bs.drop (64*k)).take 64)
theorem jfC (bs:List Bool) (k:Nat):wordN bs k<18446744073709551616:=by
 have h:=jfS ((bs.drop (64*k)).take 64)
 have h2:2^((bs.drop (64*k)).take 64).length≤2^64:=Nat.pow_le_pow_right (by omega) (by grind)
 grind[wordN]
theorem jez (bs:List Bool) (k t:Nat):(wordN bs k).testBit t=(decide (t<64)&&(bs[64*k+t]?).getD false):=by
 grind[wordN,jfA]
def wordsOf (bs:List Bool):List Int:=(List.range ((bs.length+63)/64)).map fun k=>((wordN bs k:Nat):Int)
theorem jby (bs:List Bool):(wordsOf bs).length=(bs.length+63)/64:=by simp[wordsOf]
theorem jdY {bs:List Bool} {k:Nat} (h:k<(bs.length+63)/64):(wordsOf bs)[k]?=some ((wordN bs k:Nat):Int):=by
 grind[wordsOf]
theorem jjT {bs:List Bool} {i:Nat} (h:i<bs.length):(wordsOf bs)[i/64]?=some ((wordN bs (i/64):Nat):Int):=jdY (by omega)
theorem jkC {bs:List Bool} {i j:Nat} {v:Bool} (hi:i<bs.length):((bs.set i v)[j]?).getD false=if i=j then v else(bs[j]?).getD false:=by
 grind
theorem jmB {bs:List Bool} {i:Nat} {v:Bool} (hi:i<bs.length):
  wordsOf (bs.set i v)=(wordsOf bs).set (i/64) (((if v then wordN bs (i/64)|||2^(i%64) else lessN (wordN bs (i/64)) (2^(i%64))):Nat):Int):=by
 have hp:2^(i%64)<18446744073709551616:=by
  have:2^(i%64)<2^64:=Nat.pow_lt_pow_right (by omega) (by omega)
  omega
 have key:wordN (bs.set i v) (i/64)=if v then wordN bs (i/64)|||2^(i%64) else lessN (wordN bs (i/64)) (2^(i%64)):=by
  apply Nat.eq_of_testBit_eq
  grind[jez,jkC,jhc]
 apply List.ext_getElem?
 intro k
 by_cases hk:k<(bs.length+63)/64
 ·rw[jdY (by grind)]
  by_cases e:i/64=k
  ·grind[jby]
  ·rw[List.getElem?_set_ne e,jdY hk]
   congr 2
   apply Nat.eq_of_testBit_eq
   grind[jez,jkC]
 grind[jby]
theorem jja (n:Nat):wordsOf (List.replicate n false)=List.replicate ((n+63)/64) 0:=by
 apply List.ext_getElem?
 intro k
 by_cases hk:k<(n+63)/64
 ·rw[jdY (by grind),List.getElem?_replicate,if_pos hk]
  have:wordN (List.replicate n false) k=0:=by
   apply Nat.eq_of_testBit_eq
   grind[jez]
  grind
 grind[jby]
theorem get_bit {bs:List Bool} {i:Nat} (hi:i<bs.length):(decide (((wordN bs (i/64)/2^(i%64)&&&1:Nat):Int)=1))=(bs[i]?).getD false:=by
 have h:=jez bs (i/64) (i%64)
 grind
theorem ctz_bit {x:Nat} (h0:x≠0) (h:x<18446744073709551616):Lib.ctz 64 x<64∧x.testBit (Lib.ctz 64 x)=true∧ ∀ t,t<Lib.ctz 64 x→x.testBit t=false:=by
 obtain⟨m,hm,hk⟩:=Lib.ctzFrom_spec 64 x (by omega) (by omega)
 have e:Lib.ctz 64 x=Lib.ctzFrom 64 x:=by simp[Lib.ctz,h0]
 grind
open Go.RowKit
set_option maxRecDepth 10000
structure jan where
 b:Nat
 bs:List Bool
 o:Own
def jH (r:jan):jb:=(r.b,cells [oV r.o (wordsOf r.bs).length, .int .i64 (r.bs.length:Nat), .bool true] 164)::oH uE 33 (wordsOf r.bs) r.o
theorem Jg {r:jan} {F:jb}:jH r++F=(r.b,cells [oV r.o (wordsOf r.bs).length, .int .i64 (r.bs.length:Nat), .bool true] 164)::(oH uE 33 (wordsOf r.bs) r.o++F):=rfl
structure RowOk (r:jan):Prop where
 o:oOk uE (wordsOf r.bs) r.o
 n:r.bs.length≤65536
def getB (bs:List Bool) (i:Int):Bool:=decide (0≤i)&&(bs[i.toNat]?).getD false
theorem rnone_K {w0:World} {H:jb} {b:Nat} (hS:jI w0 H ⟨b,2,none⟩ (.bool true)):
  Call Tryz.prog w0 206 [.pointer (some ⟨b,0,none⟩)] H (fun r H'=>r= .bool false∧H'=H):=by
 refine Call.enter1 (n:=12) (by rfl) Tryz.func206 rfl rfl rfl ?_;refine zcp ?_;refine zbn ?_;refine zfm ?_;refine zd4 ?_;exact zt
theorem jgl {w0:World} {F:jb} {r:jan}:
  Call Tryz.prog w0 142 [.pointer (some ⟨r.b,0,none⟩)] (jH r++F) (fun v H'=>v= .int .i64 (r.bs.length:Nat)∧H'=jH r++F):=by
 refine Call.enter1 (n:=9) (by rfl) Tryz.func142 rfl rfl rfl ?_;simp only[Jg];refine zY ?_;refine jq (rnone_K (jI.cell jF rfl)) ?_;refine zR ?_;refine zF ?_;refine zf ?_;exact zj4
theorem has_K {w0:World} {F:jb} {r:jan} {i:Int}:
  Call Tryz.prog w0 94 [.pointer (some ⟨r.b,0,none⟩), .int .i64 i] (jH r++F) (fun v H'=>v= .bool (decide (0≤i∧i<(r.bs.length:Nat)))∧H'=jH r++F):=by
 refine Call.enter2 (n:=13) (by rfl) Tryz.func94 rfl rfl rfl ?_
 by_cases h:i≥0
 ·refine zgR ?_;refine zcA ?_;refine zaz ?_;refine zbM ?_;refine zn ?_;refine jq (jgl (r:=r)) ?_
  by_cases h2:i<(r.bs.length:Nat)
  ·have e:decide (0≤i∧i<(r.bs.length:Nat))=true:=decide_eq_true ⟨h,h2⟩
   refine zi ?_;refine zjU ?_;refine zf ?_;exact zj5
  ·have e:decide (0≤i∧i<(r.bs.length:Nat))=false:=decide_eq_false (by omega)
   refine zi ?_;refine zT ?_;refine zcE ?_;exact zj5
 ·have e:decide (0≤i∧i<(r.bs.length:Nat))=false:=decide_eq_false (by omega)
  refine zf2 ?_;refine zbO ?_;refine zdc ?_;refine zC ?_;refine zf ?_;exact zj5
theorem jdC {bs:List Bool} {i:Nat}:getB bs (i:Int)=(bs[i]?).getD false:=by rfl
theorem getB_out {bs:List Bool} {i:Int} (h: ¬(0≤i∧i<(bs.length:Nat))):getB bs i=false:=by
 grind[getB]
theorem Get_K {w0:World} {F:jb} {r:jan} {i:Int} (ok:RowOk r):
  Call Tryz.prog w0 60 [.pointer (some ⟨r.b,0,none⟩), .int .i64 i] (jH r++F) (fun v H'=>v= .bool (getB r.bs i)∧H'=jH r++F):=by
 have ok1:=ok.o
 have hn:=ok.n
 refine Call.enter2 (n:=23) (by rfl) Tryz.func60 rfl rfl rfl ?_;refine z7 ?_;refine zaC fun T hT=>?_;refine(CallV.fn (has_K (r:=r) (i:=i))).mono ?_;rintro _ _ ⟨rfl,rfl⟩
 by_cases h:0≤i∧i<(r.bs.length:Nat)
 ·obtain⟨k,rfl⟩: ∃ k:Nat,i=k:=⟨i.toNat,by omega⟩
  have hk:k<r.bs.length:=by omega
  have hx:(wordsOf r.bs)[((k:Int)/64).toNat]?=some ((wordN r.bs (k/64):Nat):Int):=by
   rw[show((k:Int)/64).toNat=k/64 by omega];grind[jjT]
  have hlt:((k:Int)/64).toNat<(wordsOf r.bs).length:=jx hx
  have hm:(k:Int)%64=((k%64:Nat):Int):=by omega
  have hlw:=jfC r.bs (k/64)
  have hdl:wordN r.bs (k/64)/2^(k%64)<18446744073709551616:=Nat.lt_of_le_of_lt (Nat.div_le_self _ _) hlw
  rw[decide_eq_true h];refine zd ?_;clear hT T;simp only[Jg];refine ze ?_;refine ziI ?_
  (first|refine KL.skipG rfl rfl rfl ?_|refine KL.skipU rfl rfl rfl ?_|(refine KL.yes rfl rfl ?_;refine KL.v rfl (Val.nilCheck rfl) ?_)|(refine KL.yes rfl rfl ?_;refine KL.v rfl (Val.nilCheckF rfl) ?_)|(refine KL.yes rfl rfl ?_;refine KL.v rfl (Val.nilCheckY rfl) ?_))
  (first|refine KL.skipG rfl rfl rfl ?_|refine KL.skipU rfl rfl rfl ?_|(refine KL.yes rfl rfl ?_;refine KL.v rfl (Val.fieldSl (k:=0) rfl rfl) ?_)|(refine KL.yes rfl rfl ?_;refine KL.v rfl (Val.fieldAddr0 (k:=0) rfl rfl) ?_)|(refine KL.yes rfl rfl ?_;refine KL.v rfl (Val.fieldAddrZ rfl rfl) ?_)|(refine KL.yes rfl rfl ?_;refine KL.v rfl (Val.fieldAddr (k:=0) rfl rfl) ?_))
  refine zlm ?_;refine ziI ?_
  (first|refine KL.skipG rfl rfl rfl ?_|refine KL.skipU rfl rfl rfl ?_|(refine KL.yes rfl rfl ?_;refine KL.v rfl (Val.quoN rfl rfl (by grind[qL,qH])) ?_)|(refine KL.yes rfl rfl ?_;refine KL.v rfl (Val.quo rfl rfl (by omega)) ?_))
  (first|refine KL.skipG rfl rfl rfl ?_|refine KL.skipU rfl rfl rfl ?_|(refine KL.yes rfl rfl ?_;refine KL.v rfl (Val.idxSl rfl rfl rfl J3 rfl jL) ?_)|(refine KL.yes rfl rfl ?_;refine KL.v rfl (Val.idxSlZ rfl rfl rfl J3 rfl (by omega)) ?_)|(refine KL.yes rfl rfl ?_;refine KL.v rfl (Val.indexS1 rfl rfl rfl rfl (by omega)) ?_)|(refine KL.yes rfl rfl ?_;refine KL.v rfl (Val.indexS rfl rfl rfl rfl (by omega)) ?_)|(refine KL.yes rfl rfl ?_;refine KL.v rfl (Val.indexSO rfl rfl rfl rfl (by omega)) ?_)|(refine KL.yes rfl rfl ?_;refine KL.v rfl (Val.indexSG rfl rfl rfl rfl (by omega)) ?_))
  refine zlm ?_;refine ziI ?_
  (first|refine KL.skipG rfl rfl rfl ?_|refine KL.skipU rfl rfl rfl ?_|(refine KL.yes rfl rfl ?_;refine KL.v rfl (Val.remN rfl rfl (by omega)) ?_)|(refine KL.yes rfl rfl ?_;refine KL.v rfl (Val.rem rfl rfl (by omega)) ?_))
  rw[hm]
  (first|refine KL.skipG rfl rfl rfl ?_|refine KL.skipU rfl rfl rfl ?_|(refine KL.yes rfl rfl ?_;refine KL.v rfl (Val.shr rfl rfl (by omega)) ?_))
  rw[jcz (j:=k%64) (by omega)]
  (first|refine KL.skipG rfl rfl rfl ?_|refine KL.skipU rfl rfl rfl ?_|(refine KL.yes rfl rfl ?_;refine KL.v rfl (Val.and rfl rfl) ?_))
  rw[and_one hdl]
  have hg:=get_bit (bs:=r.bs) (i:=k) hk
  (first|refine KL.skipG rfl rfl rfl ?_|refine KL.skipU rfl rfl rfl ?_|(refine KL.yes rfl rfl ?_;refine KL.v rfl (Val.isT (Val.eql rfl rfl) jL) ?_)|(refine KL.yes rfl rfl ?_;refine KL.v rfl (Val.isF (Val.eql rfl rfl) jL) ?_)|(refine KL.yes rfl rfl ?_;refine KL.v rfl (Val.eql rfl rfl) ?_))
  refine zln ?_;refine zf ?_;exact KE.fin je rfl jd (by first|exact ja|(simp only[Jg];exact ja)) ⟨by rw[jdC,←hg];rfl,rfl⟩
 ·rw[decide_eq_false h]
  have hg:=getB_out (bs:=r.bs) h
  refine zd ?_;clear hT T;rw[hg];refine zdZ ?_;refine zcc ?_;refine zcc ?_;refine zcc ?_;refine zjS ?_;exact zt
def Jx (r:jan) (k:Nat) (v:Bool):jan:=⟨r.b,r.bs.set k v,r.o⟩
theorem jdw {r:jan} (ok:RowOk r) (k:Nat) (v:Bool):RowOk (Jx r k v):=by
 refine⟨?_,by simpa [Jx] using ok.n⟩
 have h:=ok.o
 simp_all[wordsOf,Jx,oOk]
theorem jgm {j:Nat} (h:j<64):2^j<18446744073709551616:=by
 have:2^j<2^64:=Nat.pow_lt_pow_right (by omega) h
 omega
theorem jdU {w0:World} {F:jb} {r:jan} {k:Nat} {v:Bool} (ok:RowOk r) (hk:k<r.bs.length):
  Call Tryz.prog w0 177 [.pointer (some ⟨r.b,0,none⟩), .int .i64 (k:Nat), .bool v] (jH r++F) (fun u H'=>u= .int .i64 0∧H'=jH (Jx r k v)++F):=by
 have ok1:=ok.o
 have hn:=ok.n
 have hx:(wordsOf r.bs)[((k:Int)/64).toNat]?=some ((wordN r.bs (k/64):Nat):Int):=by
  rw[show((k:Int)/64).toNat=k/64 by omega];grind[jjT]
 have hlt:((k:Int)/64).toNat<(wordsOf r.bs).length:=jx hx
 have hm:(k:Int)%64=((k%64:Nat):Int):=by omega
 have hlw:=jfC r.bs (k/64)
 have hpl:=jgm (j:=k%64) (by omega)
 have hk64:((k:Int)/64).toNat=k/64:=by omega
 have hws:=jmB (v:=v) hk
 have hle:(wordsOf (r.bs.set k v)).length=(wordsOf r.bs).length:=by grind
 refine Call.enter3 (n:=43) (by rfl) Tryz.func177 rfl rfl rfl ?_;refine zae ?_;refine zdI ?_;refine zx fun T hT=>?_;simp only[Jg];refine ziJ ?_;rintro _ _ ⟨rfl,rfl⟩;refine zd ?_;clear hT T;refine zau ?_;refine zaC fun T hT=>?_;refine(CallV.part (CallV.fn (has_K (r:=r) (i:=(k:Nat)))) (by first|exact ja|(simp only[Jg];exact ja))).mono ?_;rintro _ _ ⟨rfl,rfl⟩;rw[decide_eq_true (show 0≤((k:Nat):Int)∧((k:Nat):Int)<(r.bs.length:Nat) by omega)];refine zd ?_;clear hT T;simp only[Jg]
 cases v with
 |true=>
  simp only[if_true] at hws;refine zE ?_;refine zau ?_;refine zbe ?_;refine zcI ?_;refine zgW ?_;refine zfJ ?_;refine zgr ?_;refine zbP ?_;refine zej ?_;refine zj ?_;refine zhG ?_;refine KD.v0 rfl rfl (Val.shl rfl rfl (by omega)) ?_;refine KD.v0 rfl rfl (Val.or rfl rfl) ?_;refine zbP ?_;refine zhH ?_;refine zfe ?_;refine zeU ?_;refine zf ?_;rw[hm,jh6 (j:=k%64) (by omega),or_nat hlw hpl,←hws];simp only[Jx,List.length_set,hle];exact zj4
 |false=>
  simp only[Bool.false_eq_true,if_false] at hws;refine zE ?_;refine zau ?_;refine zbe ?_;refine zj6 ?_;refine zgW ?_;refine zfJ ?_;refine zgr ?_;refine zbP ?_;refine zej ?_;refine zj ?_;refine zhG ?_;refine KD.v0 rfl rfl (Val.shl rfl rfl (by omega)) ?_;refine KD.v0 rfl rfl (Val.andNot rfl rfl) ?_;refine zbP ?_;refine zhH ?_;refine zfe ?_;refine zeU ?_;refine zf ?_;rw[hm,jh6 (j:=k%64) (by omega),jhD hlw hpl,←hws];simp only[Jx,List.length_set,hle];exact zj4
theorem jfJ (n:Nat):(List.replicate n false).length=n:=List.length_replicate
theorem je5 {w0:World} {H:jb} {n:Nat} (hn:n≤65536):
  Call Tryz.prog w0 145 [.int .i64 (n:Nat)] H (fun v H'=> ∃ r,RowOk r∧r.bs=List.replicate n false∧v= .tuple [.pointer (some ⟨r.b,0,none⟩), .int .i64 0].toArray∧H'=jH r++H):=by
 have h1:((n:Int)+64-1)/64=(((n+63)/64:Nat):Int):=by omega
 refine Call.enter1 (n:=18) (by rfl) Tryz.func145 rfl rfl rfl ?_;refine zae ?_;refine z6 ?_;refine zT ?_;refine zdE ?_;refine zaR ?_;refine zdC ?_;refine zfP ?_;refine zj7 ?_;refine zlo ?_;rw[h1];refine KL.e rfl (Eff.makeR (E:=uE) (x0:=0) rfl rfl rfl rfl rfl rfl (by omega)) ?_;rintro _ _ ⟨o14,ok14,rfl,rfl⟩;refine zco ?_;refine zbR ?_;intro b17;refine zaI ?_
 have hw:=jja n
 rw[←hw] at ok14⊢;exact KE.fin (H':=jH ⟨b17,List.replicate n false,o14⟩++H) je rfl jd (by rw[Jg,jfJ];exact ja) ⟨⟨b17,List.replicate n false,o14⟩,⟨ok14,by grind⟩,rfl,rfl,rfl⟩
theorem jix {w0:World} {F:jb} {r:jan} (ok:RowOk r):
  Call Tryz.prog w0 311 [.pointer (some ⟨r.b,0,none⟩)] (jH r++F) (fun u H'=>u= .tuple #[]∧ ∃ r',RowOk r'∧r'.b=r.b∧r'.bs=List.replicate r.bs.length false∧H'=jH r'++F):=by
 have ok1:=ok.o
 refine Call.enter1 (n:=9) (by rfl) Tryz.func311 rfl rfl rfl ?_;refine zy ?_;refine zx fun T hT=>?_;simp only[Jg];refine ziJ ?_;rintro _ _ ⟨rfl,rfl⟩;refine zd ?_;clear hT T;refine zU ?_;refine zaS ?_;refine zK ?_;refine zB ?_;refine KL.eN (Eff.clearS (x0:=(0:Int)) (i:=0) rfl (clr_all (by assumption)) rfl rfl (Nat.zero_le _) (Nat.le_refl _) jn (by omega)) ?_;rintro _ _ ⟨rfl,okc,rfl⟩;refine zN ?_
 skip
 have hw:cleared (wordsOf r.bs) 0 (wordsOf r.bs).length 0=wordsOf (List.replicate r.bs.length false):=by rw[jiR,jja,jby]
 rw[hw] at okc⊢
 have hl:(wordsOf (List.replicate r.bs.length false)).length=(wordsOf r.bs).length:=by grind[jby,jfJ]
 exact KE.finN (H':=jH ⟨r.b,List.replicate r.bs.length false,r.o⟩++F) je rfl jd (by simp only[Jg,jfJ,hl];exact ja) ⟨rfl,⟨r.b,List.replicate r.bs.length false,r.o⟩,⟨okc,by rw[jfJ];exact ok.n⟩,rfl,rfl,rfl⟩
open Go.RowKit
theorem jeH {a c p d:Nat} (ha:a<256) (hc:c<256):(a+256*p)&&&(c+256*d)=(a&&&c)+256*(p&&&d):=by
 have h1:(a&&&c)<2^8:=Nat.lt_of_le_of_lt Nat.and_le_left (by omega)
 apply Nat.eq_of_testBit_eq
 intro t;rw[Nat.testBit_and,Nat.add_comm a,Nat.add_comm c,Nat.add_comm (a&&&c),show(256:Nat)=2^8 by decide,Nat.testBit_two_pow_mul_add _ (by omega),Nat.testBit_two_pow_mul_add _ (by omega),Nat.testBit_two_pow_mul_add _ h1]
 grind
def rep (c:Nat):Nat→Nat
 |0=>0
 |n+1=>c+256*rep c n
def J4:List Nat→Nat
 | []=>0
 |b::l=>b+256*J4 l
def f1 (b:Nat):Nat:=(b/2&&&85)+(b&&&85)
def f2 (b:Nat):Nat:=(b/4&&&51)+(b&&&51)
def f3 (b:Nat):Nat:=(b/16+b)&&&15
def g1 (n x:Nat):Nat:=(x/2&&&rep 85 n)+(x&&&rep 85 n)
def g2 (n x:Nat):Nat:=(x/4&&&rep 51 n)+(x&&&rep 51 n)
def g3 (n x:Nat):Nat:=(x/16+x)&&&rep 15 n
set_option maxRecDepth 100000 in
theorem h1: ∀ b,b<256→ ∀ e,e<2→(b/2+128*e)&&&85=b/2&&&85:=by decide+kernel
set_option maxRecDepth 100000 in
theorem h2: ∀ b,b<256→ ∀ e,e<4→(b/4+64*e)&&&51=b/4&&&51:=by decide+kernel
set_option maxRecDepth 100000 in
theorem h3: ∀ b,b<70→ ∀ e,e<5→(b/16+b+16*e)&&&15=(b/16+b)&&&15:=by decide+kernel
theorem g1_val: ∀ l:List Nat,(∀ b∈l,b<256)→g1 l.length (J4 l)=J4 (l.map f1)
 | [],_=>by rfl
 |b::l,h=>by
  have hb:=h b (.head _)
  have ih:=g1_val l fun x hx=>h x (.tail _ hx)
  obtain⟨y,hy⟩: ∃ y,y=J4 l:=⟨_,rfl⟩
  show(((b+256*J4 l)/2)&&&(85+256*rep 85 l.length))+((b+256*J4 l)&&&(85+256*rep 85 l.length))=f1 b+256*J4 (l.map f1)
  rw[←ih,←hy,show(b+256*y)/2=(b/2+128*(y%2))+256*(y/2) by omega,jeH (by omega) (by omega),jeH hb (by omega),h1 b hb (y%2) (by omega)]
  grind[f1,g1]
theorem g2_val: ∀ l:List Nat,(∀ b∈l,b<256)→g2 l.length (J4 l)=J4 (l.map f2)
 | [],_=>by rfl
 |b::l,h=>by
  have hb:=h b (.head _)
  have ih:=g2_val l fun x hx=>h x (.tail _ hx)
  obtain⟨y,hy⟩: ∃ y,y=J4 l:=⟨_,rfl⟩
  show(((b+256*J4 l)/4)&&&(51+256*rep 51 l.length))+((b+256*J4 l)&&&(51+256*rep 51 l.length))=f2 b+256*J4 (l.map f2)
  rw[←ih,←hy,show(b+256*y)/4=(b/4+64*(y%4))+256*(y/4) by omega,jeH (by omega) (by omega),jeH hb (by omega),h2 b hb (y%4) (by omega)]
  grind[f2,g2]
theorem valB_mod: ∀ l:List Nat,(∀ b∈l,b<70∧b%16<5)→J4 l%16<5
 | [],_=>by simp[J4]
 |b::l,h=>by
  have:=(h b (.head _)).2
  grind[J4]
theorem g3_val: ∀ l:List Nat,(∀ b∈l,b<70∧b%16<5)→g3 l.length (J4 l)=J4 (l.map f3)
 | [],_=>by rfl
 |b::l,h=>by
  have hb:=h b (.head _)
  have ih:=g3_val l fun x hx=>h x (.tail _ hx)
  have hm:=valB_mod l fun x hx=>h x (.tail _ hx)
  obtain⟨y,hy⟩: ∃ y,y=J4 l:=⟨_,rfl⟩
  show(((b+256*J4 l)/16+(b+256*J4 l))&&&(15+256*rep 15 l.length))=f3 b+256*J4 (l.map f3)
  rw[←ih,←hy];rw[←hy] at hm;rw[show(b+256*y)/16+(b+256*y)=(b/16+b+16*(y%16))+256*(y/16+y) by omega,jeH (by omega) (by omega),h3 b hb.1 (y%16) hm]
  rfl
theorem dv {p q:Nat} (h:p<256):(p+256*q)/256=q:=by omega
theorem ad {a b x y:Nat}:(a+256*x)+(b+256*y)=(a+b)+256*(x+y):=by omega
theorem jbl {a x m:Nat} (ha:a<256) (hx:x<m):a+256*x<256*m:=by omega
theorem tail_sum {p0 p1 p2 p3 p4 p5 p6 p7 v a b c:Nat} (h0:p0≤8) (h1:p1≤8) (h2:p2≤8) (h3:p3≤8) (h4:p4≤8) (h5:p5≤8) (h6:p6≤8) (h7:p7≤8)
  (hv:v=p0+256*(p1+256*(p2+256*(p3+256*(p4+256*(p5+256*(p6+256*p7)))))))
  (ha:a=v+v/256) (hb:b=a+a/65536) (hc:c=b+b/4294967296):c%128=p0+p1+p2+p3+p4+p5+p6+p7∧a<18446744073709551616∧b<18446744073709551616∧c<648518346341351424:=by
 have e1:v/256=p1+256*(p2+256*(p3+256*(p4+256*(p5+256*(p6+256*p7))))):=by rw[hv];exact dv (by omega)
 have z1: ∀ x:Nat,x+256*0=x:=fun x=>by omega
 have ea:a=(p0+p1)+256*((p1+p2)+256*((p2+p3)+256*((p3+p4)+256*((p4+p5)+256*((p5+p6)+256*((p6+p7)+256*p7)))))):=by
  rw[ha,e1,hv,ad,ad,ad,ad,ad,ad]
  congr 7;omega
 clear ha hv e1
 have e2:a/65536=(p2+p3)+256*((p3+p4)+256*((p4+p5)+256*((p5+p6)+256*((p6+p7)+256*p7)))):=by
  rw[show(65536:Nat)=256*256 by decide,←Nat.div_div_eq_div_mul,ea,dv (by omega),dv (by omega)]
 have eb:b=(p0+p1+(p2+p3))+256*((p1+p2+(p3+p4))+256*((p2+p3+(p4+p5))+256*((p3+p4+(p5+p6))+256*((p4+p5+(p6+p7))+256*((p5+p6+p7)+256*((p6+p7)+256*p7)))))):=by
  rw[hb,e2,ea,ad,ad,ad,ad,ad]
  congr 6;omega
 have la:a<18446744073709551616:=by
  rw[ea];exact zlp
 clear hb e2 ea
 have e3:b/4294967296=(p4+p5+(p6+p7))+256*((p5+p6+p7)+256*((p6+p7)+256*p7)):=by
  rw[show(4294967296:Nat)=256*256*256*256 by decide,←Nat.div_div_eq_div_mul,←Nat.div_div_eq_div_mul,←Nat.div_div_eq_div_mul,eb,dv (by omega),dv (by omega),dv (by omega),dv (by omega)]
 have ec:c=(p0+p1+(p2+p3)+(p4+p5+(p6+p7)))+256*((p1+p2+(p3+p4)+(p5+p6+p7))+256*((p2+p3+(p4+p5)+(p6+p7))+256*((p3+p4+(p5+p6)+p7)+256*((p4+p5+(p6+p7))+256*((p5+p6+p7)+256*((p6+p7)+256*p7)))))):=by
  rw[hc,e3,eb,ad,ad,ad]
  congr 4;omega
 have lb:b<18446744073709551616:=by
  rw[eb];exact zlp
 clear hc e3 eb;refine⟨?_,la,lb,?_⟩
 ·rw[ec]
  generalize (p1+p2+(p3+p4)+(p5+p6+p7))+256*((p2+p3+(p4+p5)+(p6+p7))+256*((p3+p4+(p5+p6)+p7)+256*((p4+p5+(p6+p7))+256*((p5+p6+p7)+256*((p6+p7)+256*p7)))))=z
  omega
 ·rw[ec];exact jbl (m:=2533274790395904) (by omega) (jbl (m:=9895604649984) (by omega) (jbl (m:=38654705664) (by omega) (jbl (m:=150994944) (by omega) (jbl (m:=589824) (by omega) (jbl (m:=2304) (by omega) (jbl (m:=9) (by omega) (by omega)))))))
set_option maxRecDepth 100000 in
theorem jio: ∀ b,b<256→f1 b<256∧f2 (f1 b)<70∧f2 (f1 b)%16<5∧f3 (f2 (f1 b))≤8:=by decide+kernel
theorem byte_pop: ∀ b0 b1 b2 b3 b4 b5 b6 b7:Bool,f3 (f2 (f1 (bitsN [b0,b1,b2,b3,b4,b5,b6,b7])))=[b0,b1,b2,b3,b4,b5,b6,b7].count true:=by decide+kernel
theorem jkM: ∀ (n:Nat) (l:List Bool),l.length=8*n→ ∃ bl:List Nat,bl.length=n∧(∀ b∈bl,b<256)∧J4 bl=bitsN l∧(bl.map fun b=>f3 (f2 (f1 b))).sum=l.count true
 |0,l,h=>by
  have:l=[]:=List.length_eq_zero_iff.1 (by omega)
  subst this;exact⟨[],rfl,by simp,rfl,rfl⟩
 |n+1,l,h=>by
  match l,h with
  |b0::b1::b2::b3::b4::b5::b6::b7::r,h=>
   obtain⟨bl,e1,e2,e3,e4⟩:=jkM n r (by simp only[List.length_cons] at h;omega)
   refine⟨bitsN [b0,b1,b2,b3,b4,b5,b6,b7]::bl,by simp[e1],fun b hb=>?_,?_,?_⟩
   ·rcases List.mem_cons.1 hb with rfl|hb
    ·have h8:=jfS [b0,b1,b2,b3,b4,b5,b6,b7]
     rw[show([b0,b1,b2,b3,b4,b5,b6,b7]:List Bool).length=8 from rfl,show 2^8=256 by decide] at h8;exact h8
    ·exact e2 b hb
   ·show bitsN [b0,b1,b2,b3,b4,b5,b6,b7]+256*J4 bl=_
    rw[e3];simp only[bitsN]
    omega
   ·rw[List.map_cons,List.sum_cons,e4,byte_pop]
    have:b0::b1::b2::b3::b4::b5::b6::b7::r=[b0,b1,b2,b3,b4,b5,b6,b7]++r:=rfl
    rw[this,List.count_append]
  | [],h=>simp at h
  | [_],h=>simp only[List.length_cons,List.length_nil] at h;omega
  | [_,_],h=>simp only[List.length_cons,List.length_nil] at h;omega
  | [_,_,_],h=>simp only[List.length_cons,List.length_nil] at h;omega
  | [_,_,_,_],h=>simp only[List.length_cons,List.length_nil] at h;omega
  | [_,_,_,_,_],h=>simp only[List.length_cons,List.length_nil] at h;omega
  | [_,_,_,_,_,_],h=>simp only[List.length_cons,List.length_nil] at h;omega
  | [_,_,_,_,_,_,_],h=>simp only[List.length_cons,List.length_nil] at h;omega
theorem bitsN_pad (l:List Bool) (n:Nat):bitsN (l++List.replicate n false)=bitsN l:=by
 apply Nat.eq_of_testBit_eq
 intro t;rw[jfA,jfA,List.getElem?_append]
 split
 ·rfl
 ·rename_i h
  rw[List.getElem?_replicate,List.getElem?_eq_none (by omega)]
  split<;>rfl
theorem pop_law {l:List Bool} (hl:l.length≤64) {x a b c:Nat} (hx:x=g3 8 (g2 8 (g1 8 (bitsN l)))) (ha:a=x+x/256) (hb:b=a+a/65536) (hc:c=b+b/4294967296):
  c%128=l.count true∧a<18446744073709551616∧b<18446744073709551616∧c<648518346341351424:=by
 obtain⟨bl,e1,e2,e3,e4⟩:=jkM 8 (l++List.replicate (64-l.length) false) (by simp;omega)
 rw[bitsN_pad] at e3;rw[List.count_append,show(List.replicate (64-l.length) false).count true=0 by rw[List.count_replicate];rfl,Nat.add_zero] at e4
 have b1: ∀ y∈bl.map f1,y<256:=fun y hy=>by
  obtain⟨q,hq,rfl⟩:=List.mem_map.1 hy
  exact(jio q (e2 q hq)).1
 have b2: ∀ y∈(bl.map f1).map f2,y<70∧y%16<5:=fun y hy=>by
  rw[List.map_map] at hy
  obtain⟨q,hq,rfl⟩:=List.mem_map.1 hy
  have:=jio q (e2 q hq)
  exact⟨this.2.1,this.2.2.1⟩
 have hx':x=J4 (((bl.map f1).map f2).map f3):=by
  rw[hx,←e3]
  have q1:=g1_val bl e2
  rw[e1] at q1
  have q2:=g2_val (bl.map f1) b1
  rw[List.length_map,e1] at q2
  have q3:=g3_val ((bl.map f1).map f2) b2
  rw[List.length_map,List.length_map,e1] at q3;rw[q1,q2,q3]
 rw[List.map_map,List.map_map] at hx';rw[←e4]
 match bl,e1,e2 with
 | [p0,p1,p2,p3,p4,p5,p6,p7],_,e2=>
  have k:=fun q hq=>(jio q (e2 q hq)).2.2.2
  have:=tail_sum (k p0 (by simp)) (k p1 (by simp)) (k p2 (by simp)) (k p3 (by simp)) (k p4 (by simp)) (k p5 (by simp)) (k p6 (by simp)) (k p7 (by simp)) (v:=x) (by rw[hx'];simp[J4]) ha hb hc
  refine⟨?_,this.2⟩;rw[this.1];simp only[List.map_cons,List.map_nil,List.sum_cons,List.sum_nil]
  omega
theorem rep_85:rep 85 8=6148914691236517205:=by decide+kernel
theorem rep_51:rep 51 8=3689348814741910323:=by decide+kernel
theorem rep_15:rep 15 8=1085102592571150095:=by decide+kernel
open Go.RowKit
set_option maxRecDepth 10000
theorem fmask {n:Nat} (h1:1≤n) (h:n≤64):18446744073709551615/2^(64-n)=2^n-1:=by
 have e:(18446744073709551616:Nat)=2^n*2^(64-n):=by rw[←Nat.pow_add,show n+(64-n)=64 by omega]
 have hp:0<2^(64-n):=Nat.two_pow_pos _
 rw[show(18446744073709551615:Nat)=2^n*2^(64-n)-1 by omega];rw[Nat.div_eq_iff hp]
 grind
theorem jjN {x n:Nat} (hx:x<18446744073709551616) (h:x<2^n):Lib.bitLen x≤n:=by
 rcases Nat.lt_or_ge 63 n with h64|h64
 ·have: ∀ f y,Lib.bitLenAux f y≤f:=fun f=>by
   induction f with
   |zero=>simp[Lib.bitLenAux]
   |succ f ih=>unfold Lib.bitLenAux;grind
  have:=this 64 x
  unfold Lib.bitLen;omega
 ·have: ∀ n f y,y<2^n→Lib.bitLenAux f y≤n:=fun n=>by
   induction n with
   |zero=>
    intro f y hy
    have:y=0:=by omega
    subst this
    cases f<;>simp[Lib.bitLenAux]
   |succ n ih=>
    intro f y hy
    cases f with
    |zero=>simp[Lib.bitLenAux]
    |succ f=>
     unfold Lib.bitLenAux
     grind
  exact this n 64 x h
theorem less_high {w a n:Nat} (hw:w<2^a) (h:n+a≤64) (hn:(2^n-1)*2^a<18446744073709551616):lessN w ((2^n-1)*2^a)=w:=by
 apply Nat.eq_of_testBit_eq
 intro t;rw[jhc hn,Nat.testBit_mul_two_pow]
 by_cases ht:t<a
 ·grind
 ·rw[Nat.testBit_lt_two_pow (Nat.lt_of_lt_of_le hw (Nat.pow_le_pow_right (by omega) (by omega)))];simp
theorem or_high {w a v:Nat} (hw:w<2^a):w|||v*2^a=w+v*2^a:=by
 rw[Nat.mul_comm,Nat.or_comm,←Nat.two_pow_add_eq_or_of_lt hw,Nat.add_comm]
theorem jid {a n:Nat} (h:n+a≤64):(2^n-1)*2^a<18446744073709551616:=by
 have e:2^n*2^a≤2^64:=by rw[←Nat.pow_add];exact Nat.pow_le_pow_right (by omega) h
 have hq:0<2^n:=Nat.two_pow_pos _
 have hp:0<2^a:=Nat.two_pow_pos _
 have:(2^n-1)*2^a+2^a=2^n*2^a:=by
  obtain⟨m,hm⟩: ∃ m,2^n=m+1:=⟨2^n-1,by omega⟩
  rw[hm,show m+1-1=m by omega,Nat.succ_mul]
 omega
theorem val_lt {a n v:Nat} (h:n+a≤64) (hv:v<2^n):v*2^a<18446744073709551616:=by
 have h1:v*2^a≤(2^n-1)*2^a:=Nat.mul_le_mul_right _ (by omega)
 have:=jid h
 omega
theorem jlc {b j:Nat} (hj:j<64) (h:b*2^j<18446744073709551616):IntKind.u64.wrap ((b:Int)*2^(min (Int.toNat (j:Int)) IntKind.u64.bits))=((b*2^j:Nat):Int):=by
 have e:min (Int.toNat (j:Int)) IntKind.u64.bits=j:=by
  exact Nat.min_eq_left (by show j≤64;omega)
 rw[e,show(b:Int)*2^j=((b*2^j:Nat):Int) by simp];exact jd3 h
end Go.Proofs.YtpcgafhgfjlkmaaGreatDoor.Sw
