/-The walker and the contracts that the law needs,part 13. -/
import Derived.Test.YtldomapkmopomaaGreatDoorD1
import Derived.Lib.TrailingZeros
import Derived.Lib.BitFns
import Derived.ArgAppend
import Derived.ChangeMaps5
import Derived.Deep.Fields
import Derived.Deep.LoopGhost
import Derived.Deep.OwnRows
import Derived.Deep.Quiet
import Derived.Deep.Slices
import Derived.IntWalk
import Derived.Laws.Cells
import Derived.Laws.CopyOwn
import Derived.Laws.Externs
import Derived.Laws.FloatArith
import Derived.Laws.IdiomStrings
import Derived.Laws.NewFold
import Derived.Laws.StructEq
import Derived.Lib.Hide
import Derived.Lib.SmallJoins
import Derived.Maps.RangeRun
import Derived.OrdersIn
import Derived.ProofKit
import Derived.RangeFuncBound
import Derived.RangeFuncCalls
import Derived.RangeFuncLeaves
import Derived.RangeFuncNested
import Derived.RecoverIn
import Derived.Shelf.Bits.Mul64
import Derived.Shelf.Slices.Turned
import Derived.Shelf.Strconv.Itoa0
import Derived.SizedLaws
import Derived.Sort.BigQuietIn
import Derived.StillTailTactics
import Derived.Test.YtldomapkmopomaaGreatDoorProg
import Derived.WalkKit
import Derived.Shelf.Spec.TrailingZeros
import Derived.Test.YtldomapkmopomaaGreatDoorJ12
set_option linter.unusedVariables false set_option linter.unusedSimpArgs false namespace Go.Proofs.YtldomapkmopomaaGreatDoor.Sw
set_option maxHeartbeats 8000000
open Go.Proofs.YtldomapkmopomaaGreatDoor renaming lo → qL, hi → qH
open Go.RowKit
set_option linter.unusedVariables false
set_option linter.unusedSimpArgs false
theorem jcI {n:Nat} (h:n<18446744073709551616):IntKind.u64.wrap (n:Int)=(n:Int):=by
 rw[IntKind.wrap_u64];omega
theorem jbq {n:Nat} (h:n<18446744073709551616):(BitVec.ofInt 64 (n:Int)).toNat=n:=by
 rw[BitVec.ofInt_natCast,BitVec.toNat_ofNat];exact Nat.mod_eq_of_lt (by omega)
theorem jb0 {a b:Nat} (ha:a<18446744073709551616) (hb:b<18446744073709551616):jaa .and .u64 (a:Int) (b:Int)=((a&&&b:Nat):Int):=by
 show IntKind.u64.wrap ((BitVec.ofInt 64 (a:Int)&&&BitVec.ofInt 64 (b:Int)).toNat:Int)=_
 rw[BitVec.toNat_and,jbq ha,jbq hb];exact jcI (Nat.and_lt_two_pow _ (n:=64) (by omega))
theorem and_one {a:Nat} (ha:a<18446744073709551616):jaa .and .u64 (a:Int) 1=((a&&&1:Nat):Int):=jb0 (b:=1) ha (by omega)
theorem or_nat {a b:Nat} (ha:a<18446744073709551616) (hb:b<18446744073709551616):jaa .or .u64 (a:Int) (b:Int)=((a|||b:Nat):Int):=by
 show IntKind.u64.wrap ((BitVec.ofInt 64 (a:Int)|||BitVec.ofInt 64 (b:Int)).toNat:Int)=_
 rw[BitVec.toNat_or,jbq ha,jbq hb];exact jcI (Nat.or_lt_two_pow (n:=64) (by omega) (by omega))
theorem xor_nat {a b:Nat} (ha:a<18446744073709551616) (hb:b<18446744073709551616):jaa .xor .u64 (a:Int) (b:Int)=((a^^^b:Nat):Int):=by
 show IntKind.u64.wrap ((BitVec.ofInt 64 (a:Int)^^^BitVec.ofInt 64 (b:Int)).toNat:Int)=_
 rw[BitVec.toNat_xor,jbq ha,jbq hb];exact jcI (Nat.xor_lt_two_pow (n:=64) (by omega) (by omega))
def lessN (a b:Nat):Nat:=a&&&(18446744073709551616-(b+1))
theorem lessN_lt {a b:Nat} (ha:a<18446744073709551616):lessN a b<18446744073709551616:=by
 unfold lessN;exact Nat.lt_of_le_of_lt Nat.and_le_left ha
theorem jfC {a b:Nat} (ha:a<18446744073709551616) (hb:b<18446744073709551616):jaa .andNot .u64 (a:Int) (b:Int)=((lessN a b:Nat):Int):=by
 show IntKind.u64.wrap ((BitVec.ofInt 64 (a:Int)&&& ~~~(BitVec.ofInt 64 (b:Int))).toNat:Int)=_
 rw[BitVec.toNat_and,BitVec.toNat_not,jbq ha,jbq hb];rw[show 2^64-1-b=18446744073709551616-(b+1) by omega];exact jcI (lessN_lt ha)
theorem jfe {a b:Nat} (hb:b<18446744073709551616) (t:Nat):(lessN a b).testBit t=(a.testBit t&&(decide (t<64)&&!b.testBit t)):=by
 unfold lessN;rw[Nat.testBit_and,show(18446744073709551616:Nat)=2^64 by decide,Nat.testBit_two_pow_sub_succ (by omega)]
theorem ja0 {a j:Nat} (hj:j<64):((a:Int)).fdiv (2^(min (Int.toNat (j:Int)) IntKind.u64.bits))=((a/2^j:Nat):Int):=by
 have e:min (Int.toNat (j:Int)) IntKind.u64.bits=j:=by
  exact zeX
 rw[e,show(2:Int)^j=((2^j:Nat):Int) by simp,Int.fdiv_eq_ediv_of_nonneg _ (Int.natCast_nonneg _)];exact(Int.natCast_ediv a (2^j)).symm
theorem jfV {j:Nat} (hj:j<64):IntKind.u64.wrap (1*2^(min (Int.toNat (j:Int)) IntKind.u64.bits))=((2^j:Nat):Int):=by
 have e:min (Int.toNat (j:Int)) IntKind.u64.bits=j:=by
  exact zeX
 rw[e,show(1:Int)*2^j=((2^j:Nat):Int) by simp];exact jcI (by have:2^j<2^64:=Nat.pow_lt_pow_right (by omega) hj;omega)
def bitsN:List Bool→Nat
 | []=>0
 |b::l=>(if b then 1 else 0)+2*bitsN l
theorem jea: ∀ (l:List Bool) (t:Nat),(bitsN l).testBit t=(l[t]?).getD false
 | [],t=>by simp[bitsN]
 |b::l,0=>by
  rw[Nat.testBit_zero]
  cases b<;>simp[bitsN]
 |b::l,t+1=>by
  rw[show t+1=t.succ from rfl,Nat.testBit_succ]
  have:bitsN (b::l)/2=bitsN l:=by
   show((if b then 1 else 0)+2*bitsN l)/2=_
   split<;>omega
  rw[this,jea l t];simp
theorem jeq: ∀ l:List Bool,bitsN l<2^l.length
 | []=>by simp[bitsN]
 |b::l=>by
  have:=jeq l
  rw[List.length_cons,Nat.pow_succ]
  show(if b then 1 else 0)+2*bitsN l<_
  split<;>omega
def wordN (bs:List Bool) (k:Nat):Nat:=bitsN ((bs.drop (64*k)).take 64)
theorem jeb (bs:List Bool) (k:Nat):wordN bs k<18446744073709551616:=by
 have h:=jeq ((bs.drop (64*k)).take 64)
 have h2:2^((bs.drop (64*k)).take 64).length≤2^64:=Nat.pow_le_pow_right (by omega) (by rw[List.length_take];omega)
 unfold wordN;omega
theorem jbN (bs:List Bool) (k t:Nat):(wordN bs k).testBit t=(decide (t<64)&&(bs[64*k+t]?).getD false):=by
 unfold wordN;rw[jea,List.getElem?_take]
 by_cases h:t<64
 ·rw[if_pos h,List.getElem?_drop];simp[h]
 ·rw[if_neg h];simp[h]
def wordsOf (bs:List Bool):List Int:=(List.range ((bs.length+63)/64)).map fun k=>((wordN bs k:Nat):Int)
theorem jak (bs:List Bool):(wordsOf bs).length=(bs.length+63)/64:=by simp[wordsOf]
theorem jcA {bs:List Bool} {k:Nat} (h:k<(bs.length+63)/64):(wordsOf bs)[k]?=some ((wordN bs k:Nat):Int):=by
 unfold wordsOf;rw[List.getElem?_map,List.getElem?_range h];rfl
theorem words_at {bs:List Bool} {i:Nat} (h:i<bs.length):(wordsOf bs)[i/64]?=some ((wordN bs (i/64):Nat):Int):=jcA (by omega)
theorem getD_set {bs:List Bool} {i j:Nat} {v:Bool} (hi:i<bs.length):((bs.set i v)[j]?).getD false=if i=j then v else(bs[j]?).getD false:=by
 rw[List.getElem?_set]
 by_cases h:i=j
 ·subst h;simp[hi]
 ·simp[h]
theorem words_set {bs:List Bool} {i:Nat} {v:Bool} (hi:i<bs.length):
  wordsOf (bs.set i v)=(wordsOf bs).set (i/64) (((if v then wordN bs (i/64)|||2^(i%64) else lessN (wordN bs (i/64)) (2^(i%64))):Nat):Int):=by
 have hp:2^(i%64)<18446744073709551616:=by
  have:2^(i%64)<2^64:=Nat.pow_lt_pow_right (by omega) (by omega)
  omega
 have key:wordN (bs.set i v) (i/64)=if v then wordN bs (i/64)|||2^(i%64) else lessN (wordN bs (i/64)) (2^(i%64)):=by
  apply Nat.eq_of_testBit_eq
  intro t;rw[jbN,getD_set hi]
  cases v
  ·simp only[Bool.false_eq_true,if_false];rw[jfe hp,jbN,Nat.testBit_two_pow]
   by_cases ht:t<64
   ·by_cases e:i=64*(i/64)+t
    ·have:i%64=t:=by omega
     simp[←e,this]
    ·have: ¬i%64=t:=by omega
     simp[e,this,ht]
   ·simp[ht]
  ·simp only[if_true];rw[Nat.testBit_or,jbN,Nat.testBit_two_pow]
   by_cases ht:t<64
   ·by_cases e:i=64*(i/64)+t
    ·have:i%64=t:=by omega
     simp[←e,this,ht]
    ·have: ¬i%64=t:=by omega
     simp[e,this,ht]
   ·have: ¬i%64=t:=by omega
    simp[ht,this]
 apply List.ext_getElem?
 intro k
 by_cases hk:k<(bs.length+63)/64
 ·rw[jcA (by rw[List.length_set];exact hk)]
  by_cases e:i/64=k
  ·subst e;rw[List.getElem?_set_self (by rw[jak];exact hk),key]
  ·rw[List.getElem?_set_ne e,jcA hk]
   congr 2
   apply Nat.eq_of_testBit_eq
   intro t;rw[jbN,jbN,getD_set hi]
   by_cases ht:t<64
   ·rw[if_neg (by omega)]
   ·simp[ht]
 ·rw[List.getElem?_eq_none (by rw[jak,List.length_set];omega),List.getElem?_eq_none (by rw[List.length_set,jak];omega)]
theorem jgP (n:Nat):wordsOf (List.replicate n false)=List.replicate ((n+63)/64) 0:=by
 apply List.ext_getElem?
 intro k
 by_cases hk:k<(n+63)/64
 ·rw[jcA (by rw[List.length_replicate];exact hk),List.getElem?_replicate,if_pos hk]
  have:wordN (List.replicate n false) k=0:=by
   apply Nat.eq_of_testBit_eq
   intro t;rw[jbN,List.getElem?_replicate]
   split<;>simp
  rw[this];rfl
 ·rw[List.getElem?_eq_none (by rw[jak,List.length_replicate];omega),List.getElem?_eq_none (by rw[List.length_replicate];omega)]
theorem get_bit {bs:List Bool} {i:Nat} (hi:i<bs.length):(decide (((wordN bs (i/64)/2^(i%64)&&&1:Nat):Int)=1))=(bs[i]?).getD false:=by
 have h:=jbN bs (i/64) (i%64)
 rw[show 64*(i/64)+i%64=i by omega,decide_eq_true (by omega:i%64<64),Bool.true_and] at h;rw[←h,Nat.testBit_eq_decide_div_mod_eq,Nat.and_one_is_mod]
 congr 1
 apply propext
 omega
theorem ctz_bit {x:Nat} (h0:x≠0) (h:x<18446744073709551616):Lib.ctz 64 x<64∧x.testBit (Lib.ctz 64 x)=true∧ ∀ t,t<Lib.ctz 64 x→x.testBit t=false:=by
 obtain⟨m,hm,hk⟩:=Lib.ctzFrom_spec 64 x (by omega) (by omega)
 have e:Lib.ctz 64 x=Lib.ctzFrom 64 x:=by simp[Lib.ctz,h0]
 rw[e]
 generalize Lib.ctzFrom 64 x=k at*
 have hb: ∀ t,x.testBit t=(decide (k≤t)&&(2*m+1).testBit (t-k)):=fun t=>by
  rw[hm,Nat.mul_comm,Nat.testBit_mul_two_pow]
 refine⟨hk,?_,fun t ht=>?_⟩
 ·rw[hb];simp
 ·rw[hb];simp;omega
open Go.RowKit
set_option maxRecDepth 10000
structure J7 where
 b:Nat
 bs:List Bool
 o:Own
def jz (r:J7):jb:=(r.b,cells [oV r.o (wordsOf r.bs).length, .int .i64 (r.bs.length:Nat), .bool true] 183)::oH uE 116 (wordsOf r.bs) r.o
theorem jB {r:J7} {F:jb}:jz r++F=(r.b,cells [oV r.o (wordsOf r.bs).length, .int .i64 (r.bs.length:Nat), .bool true] 183)::(oH uE 116 (wordsOf r.bs) r.o++F):=rfl
structure RowOk (r:J7):Prop where
 o:oOk uE (wordsOf r.bs) r.o
 n:r.bs.length≤65536
def getB (bs:List Bool) (i:Int):Bool:=decide (0≤i)&&(bs[i.toNat]?).getD false
theorem rnone_K {w0:World} {H:jb} {b:Nat} (hS:jA w0 H ⟨b,2,none⟩ (.bool true)):
  Call Tryz.prog w0 167 [.pointer (some ⟨b,0,none⟩)] H (fun r H'=>r= .bool false∧H'=H):=by
 refine Call.enter1 (n:=12) (by kernel_rfl) Tryz.func167 rfl rfl rfl ?_;refine K.seq (K.region ?_);refine KL.v rfl (Val.assign rfl) ?_;refine KL.nil (KE.next (K.seq (K.region ?_)));refine KL.v rfl (Val.move rfl) ?_;refine KL.v rfl (Val.eqlPN rfl rfl rfl) ?_;refine KL.v rfl (Val.move rfl) ?_;refine KL.yes rfl rfl ?_;refine KL.v rfl (Val.move rfl) ?_;refine KL.yes rfl rfl ?_;refine KL.v rfl (Val.nilCheck rfl) ?_;refine KL.yes rfl rfl ?_;refine KL.v rfl (Val.fieldAddr0 (k:=2) rfl rfl) ?_;refine KL.yes rfl rfl ?_;refine KL.v rfl (Val.loadP rfl rfl jaW) ?_;refine KL.yes rfl rfl ?_;refine KL.v rfl (Val.notT rfl) ?_;refine KL.v rfl (Val.pickF rfl rfl rfl) ?_;refine KL.v rfl (Val.assign rfl) ?_;refine KL.nil (KE.next ?_);refine K.ret ?_;exact KE.fin jd rfl jc ja ⟨rfl,rfl⟩
theorem rLen_K {w0:World} {F:jb} {r:J7}:
  Call Tryz.prog w0 168 [.pointer (some ⟨r.b,0,none⟩)] (jz r++F) (fun v H'=>v= .int .i64 (r.bs.length:Nat)∧H'=jz r++F):=by
 refine Call.enter1 (n:=9) (by kernel_rfl) Tryz.func168 rfl rfl rfl ?_;simp only[jB];refine K.seq (K.region ?_);refine KL.v rfl (Val.assign rfl) ?_;refine KL.nil (KE.next (K.seq (K.seq (K.region ?_))));refine KL.v rfl (Val.move rfl) ?_;refine KL.callc rfl rfl js fun T hT=>?_;refine(CallV.fn (rnone_K (jA.cell jq rfl))).mono ?_;rintro _ _ ⟨rfl,rfl⟩;refine hT _ _ ?_;clear hT T;refine KL.nil (KE.next (K.condF rfl (K.skip (KE.next (K.seq (K.region ?_))))));refine KL.v rfl (Val.move rfl) ?_;refine KL.v rfl (Val.nilCheck rfl) ?_;refine KL.v rfl (Val.fieldAddr0 (k:=1) rfl rfl) ?_;refine KL.v rfl (Val.loadP rfl rfl (jA.cell jq rfl)) ?_;refine KL.v rfl (Val.assign rfl) ?_;refine KL.nil (KE.next ?_);refine K.ret ?_;exact KE.fin jd rfl jc (by first|exact ja|(simp only[jB];exact ja)) ⟨rfl,rfl⟩
theorem has_K {w0:World} {F:jb} {r:J7} {i:Int}:
  Call Tryz.prog w0 87 [.pointer (some ⟨r.b,0,none⟩), .int .i64 i] (jz r++F) (fun v H'=>v= .bool (decide (0≤i∧i<(r.bs.length:Nat)))∧H'=jz r++F):=by
 refine Call.enter2 (n:=13) (by kernel_rfl) Tryz.func87 rfl rfl rfl ?_
 by_cases h:i≥0
 ·refine K.seq ?_;refine K.region ?_;refine KL.v rfl (Val.assign rfl) ?_;refine KL.nil (KE.next (K.seq (K.region ?_)));refine KL.v rfl (Val.move rfl) ?_;refine KL.v rfl (Val.isT (Val.geq rfl rfl) jr) ?_;refine KL.v rfl (Val.move rfl) ?_;refine KL.yes rfl rfl ?_;refine KL.v rfl (Val.move rfl) ?_;refine KL.yes rfl rfl ?_;refine KL.v rfl (Val.move rfl) ?_;refine KL.yes rfl rfl ?_;refine KL.callc rfl rfl js fun T hT=>?_;refine(CallV.fn (rLen_K (r:=r))).mono ?_;rintro _ _ ⟨rfl,rfl⟩;refine hT _ _ ?_;clear hT T
  by_cases h2:i<(r.bs.length:Nat)
  ·have e:decide (0≤i∧i<(r.bs.length:Nat))=true:=decide_eq_true ⟨h,h2⟩
   refine KL.yes rfl rfl ?_;refine KL.v rfl (Val.isT (Val.lss rfl rfl) jr) ?_;refine KL.v rfl (Val.pickT rfl rfl rfl) ?_;refine KL.v rfl (Val.assign rfl) ?_;refine KL.nil (KE.next ?_);refine K.ret ?_;exact KE.fin jd rfl jc ja ⟨by rw[e];rfl,rfl⟩
  ·have e:decide (0≤i∧i<(r.bs.length:Nat))=false:=decide_eq_false (by omega)
   refine KL.yes rfl rfl ?_;refine KL.v rfl (Val.isF (Val.lss rfl rfl) jr) ?_;refine KL.v rfl (Val.pickT rfl rfl rfl) ?_;refine KL.v rfl (Val.assign rfl) ?_;refine KL.nil (KE.next ?_);refine K.ret ?_;exact KE.fin jd rfl jc ja ⟨by rw[e];rfl,rfl⟩
 ·have e:decide (0≤i∧i<(r.bs.length:Nat))=false:=decide_eq_false (by omega)
  refine K.seq (K.region ?_);refine KL.v rfl (Val.assign rfl) ?_;refine KL.nil (KE.next (K.seq (K.region ?_)));refine KL.v rfl (Val.move rfl) ?_;refine KL.v rfl (Val.isF (Val.geq rfl rfl) jr) ?_;refine KL.v rfl (Val.move rfl) ?_;refine KL.skipG rfl rfl rfl ?_;refine KL.skipG rfl rfl rfl ?_;refine KL.skipG rfl rfl rfl ?_;refine KL.skipG rfl rfl rfl ?_;refine KL.v rfl (Val.pickF rfl rfl rfl) ?_;refine KL.v rfl (Val.assign rfl) ?_;refine KL.nil (KE.next ?_);refine K.ret ?_;exact KE.fin jd rfl jc ja ⟨by rw[e];rfl,rfl⟩
theorem jcX {bs:List Bool} {i:Nat}:getB bs (i:Int)=(bs[i]?).getD false:=by simp[getB]
theorem getB_out {bs:List Bool} {i:Int} (h: ¬(0≤i∧i<(bs.length:Nat))):getB bs i=false:=by
 unfold getB
 by_cases h0:0≤i
 ·rw[List.getElem?_eq_none (by omega)];simp
 ·simp[h0]
theorem Get_K {w0:World} {F:jb} {r:J7} {i:Int} (ok:RowOk r):
  Call Tryz.prog w0 43 [.pointer (some ⟨r.b,0,none⟩), .int .i64 i] (jz r++F) (fun v H'=>v= .bool (getB r.bs i)∧H'=jz r++F):=by
 have ok1:=ok.o
 have hn:=ok.n
 refine Call.enter2 (n:=23) (by kernel_rfl) Tryz.func43 rfl rfl rfl ?_;refine K.seq (K.region ?_);refine KL.v rfl (Val.assign rfl) ?_;refine KL.nil (KE.next (K.seq (K.region ?_)));refine KL.v rfl (Val.move rfl) ?_;refine KL.v rfl (Val.move rfl) ?_;refine KL.callc rfl rfl js fun T hT=>?_;refine(CallV.fn (has_K (r:=r) (i:=i))).mono ?_;rintro _ _ ⟨rfl,rfl⟩
 by_cases h:0≤i∧i<(r.bs.length:Nat)
 ·obtain⟨k,rfl⟩: ∃ k:Nat,i=k:=⟨i.toNat,by omega⟩
  have hk:k<r.bs.length:=by omega
  have hx:(wordsOf r.bs)[((k:Int)/64).toNat]?=some ((wordN r.bs (k/64):Nat):Int):=by
   rw[show((k:Int)/64).toNat=k/64 by omega];exact words_at hk
  have hlt:((k:Int)/64).toNat<(wordsOf r.bs).length:=jl hx
  have hm:(k:Int)%64=((k%64:Nat):Int):=by omega
  have hlw:=jeb r.bs (k/64)
  have hdl:wordN r.bs (k/64)/2^(k%64)<18446744073709551616:=Nat.lt_of_le_of_lt (Nat.div_le_self _ _) hlw
  rw[decide_eq_true h];refine hT _ _ ?_;clear hT T;simp only[jB];refine KL.v rfl (Val.move rfl) ?_
  (first|refine KL.skipG rfl rfl rfl ?_|refine KL.skipU rfl rfl rfl ?_|(refine KL.yes rfl rfl ?_;refine KL.v rfl (Val.move rfl) ?_))
  (first|refine KL.skipG rfl rfl rfl ?_|refine KL.skipU rfl rfl rfl ?_|(refine KL.yes rfl rfl ?_;refine KL.v rfl (Val.nilCheck rfl) ?_)|(refine KL.yes rfl rfl ?_;refine KL.v rfl (Val.nilCheckF rfl) ?_)|(refine KL.yes rfl rfl ?_;refine KL.v rfl (Val.nilCheckY rfl) ?_))
  (first|refine KL.skipG rfl rfl rfl ?_|refine KL.skipU rfl rfl rfl ?_|(refine KL.yes rfl rfl ?_;refine KL.v rfl (Val.fieldSl (k:=0) rfl rfl) ?_)|(refine KL.yes rfl rfl ?_;refine KL.v rfl (Val.fieldAddr0 (k:=0) rfl rfl) ?_)|(refine KL.yes rfl rfl ?_;refine KL.v rfl (Val.fieldAddrZ rfl rfl) ?_)|(refine KL.yes rfl rfl ?_;refine KL.v rfl (Val.fieldAddr (k:=0) rfl rfl) ?_))
  (first|refine KL.skipG rfl rfl rfl ?_|refine KL.skipU rfl rfl rfl ?_|(refine KL.yes rfl rfl ?_;refine KL.v rfl (Val.loadP rfl rfl jaW) ?_)|(refine KL.yes rfl rfl ?_;refine KL.v rfl (Val.loadP rfl rfl (jA.more (by assumption) ja)) ?_))
  (first|refine KL.skipG rfl rfl rfl ?_|refine KL.skipU rfl rfl rfl ?_|(refine KL.yes rfl rfl ?_;refine KL.v rfl (Val.move rfl) ?_))
  (first|refine KL.skipG rfl rfl rfl ?_|refine KL.skipU rfl rfl rfl ?_|(refine KL.yes rfl rfl ?_;refine KL.v rfl (Val.quoN rfl rfl (by simp only[qL,qH];omega)) ?_)|(refine KL.yes rfl rfl ?_;refine KL.v rfl (Val.quo rfl rfl (by omega)) ?_))
  (first|refine KL.skipG rfl rfl rfl ?_|refine KL.skipU rfl rfl rfl ?_|(refine KL.yes rfl rfl ?_;refine KL.v rfl (Val.idxSl rfl rfl rfl Jm rfl jr) ?_)|(refine KL.yes rfl rfl ?_;refine KL.v rfl (Val.idxSlZ rfl rfl rfl Jm rfl (by omega)) ?_)|(refine KL.yes rfl rfl ?_;refine KL.v rfl (Val.indexS1 rfl rfl rfl rfl (by omega)) ?_)|(refine KL.yes rfl rfl ?_;refine KL.v rfl (Val.indexS rfl rfl rfl rfl (by omega)) ?_)|(refine KL.yes rfl rfl ?_;refine KL.v rfl (Val.indexSO rfl rfl rfl rfl (by omega)) ?_)|(refine KL.yes rfl rfl ?_;refine KL.v rfl (Val.indexSG rfl rfl rfl rfl (by omega)) ?_))
  (first|refine KL.skipG rfl rfl rfl ?_|refine KL.skipU rfl rfl rfl ?_|(refine KL.yes rfl rfl ?_;refine KL.v rfl (Val.loadP rfl rfl jaW) ?_)|(refine KL.yes rfl rfl ?_;refine KL.v rfl (Val.loadP rfl rfl (jA.more (by assumption) ja)) ?_))
  (first|refine KL.skipG rfl rfl rfl ?_|refine KL.skipU rfl rfl rfl ?_|(refine KL.yes rfl rfl ?_;refine KL.v rfl (Val.move rfl) ?_))
  (first|refine KL.skipG rfl rfl rfl ?_|refine KL.skipU rfl rfl rfl ?_|(refine KL.yes rfl rfl ?_;refine KL.v rfl (Val.remN rfl rfl (by omega)) ?_)|(refine KL.yes rfl rfl ?_;refine KL.v rfl (Val.rem rfl rfl (by omega)) ?_))
  rw[hm]
  (first|refine KL.skipG rfl rfl rfl ?_|refine KL.skipU rfl rfl rfl ?_|(refine KL.yes rfl rfl ?_;refine KL.v rfl (Val.shr rfl rfl (by omega)) ?_))
  rw[ja0 (j:=k%64) (by omega)]
  (first|refine KL.skipG rfl rfl rfl ?_|refine KL.skipU rfl rfl rfl ?_|(refine KL.yes rfl rfl ?_;refine KL.v rfl (Val.and rfl rfl) ?_))
  rw[and_one hdl]
  have hg:=get_bit (bs:=r.bs) (i:=k) hk
  (first|refine KL.skipG rfl rfl rfl ?_|refine KL.skipU rfl rfl rfl ?_|(refine KL.yes rfl rfl ?_;refine KL.v rfl (Val.isT (Val.eql rfl rfl) jr) ?_)|(refine KL.yes rfl rfl ?_;refine KL.v rfl (Val.isF (Val.eql rfl rfl) jr) ?_)|(refine KL.yes rfl rfl ?_;refine KL.v rfl (Val.eql rfl rfl) ?_))
  (first|(refine KL.v rfl (Val.pickT rfl rfl rfl) ?_)|(refine KL.v rfl (Val.pickF rfl rfl rfl) ?_)|(refine KL.v rfl (Val.pickB rfl rfl rfl) ?_))
  refine KL.v rfl (Val.assign rfl) ?_;refine KL.nil (KE.next ?_);refine K.ret ?_;exact KE.fin jd rfl jc (by first|exact ja|(simp only[jB];exact ja)) ⟨by rw[jcX,←hg];rfl,rfl⟩
 ·rw[decide_eq_false h]
  have hg:=getB_out (bs:=r.bs) h
  refine hT _ _ ?_;clear hT T;rw[hg];refine KL.v rfl (Val.move rfl) ?_;refine KL.skipG rfl rfl rfl ?_;refine KL.skipG rfl rfl rfl ?_;refine KL.skipG rfl rfl rfl ?_;refine KL.skipG rfl rfl rfl ?_;refine KL.skipG rfl rfl rfl ?_;refine KL.skipG rfl rfl rfl ?_;refine KL.skipG rfl rfl rfl ?_;refine KL.skipG rfl rfl rfl ?_;refine KL.skipG rfl rfl rfl ?_;refine KL.skipG rfl rfl rfl ?_;refine KL.skipG rfl rfl rfl ?_;refine KL.skipG rfl rfl rfl ?_;refine KL.skipG rfl rfl rfl ?_;refine KL.v rfl (Val.pickF rfl rfl rfl) ?_;refine KL.v rfl (Val.assign rfl) ?_;refine KL.nil (KE.next ?_);refine K.ret ?_;exact KE.fin jd rfl jc ja ⟨rfl,rfl⟩
def Jr (r:J7) (k:Nat) (v:Bool):J7:=⟨r.b,r.bs.set k v,r.o⟩
theorem jcs {r:J7} (ok:RowOk r) (k:Nat) (v:Bool):RowOk (Jr r k v):=by
 refine⟨?_,by simpa [Jr] using ok.n⟩
 have h:=ok.o
 have hl:(wordsOf (r.bs.set k v)).length=(wordsOf r.bs).length:=by rw[jak,jak,List.length_set]
 unfold Jr;dsimp only
 cases ho:r.o with
 |none=>
  rw[ho] at h;simp only[oOk] at h⊢;rw[h] at hl;exact List.length_eq_zero_iff.1 hl
 |some ob=>
  rw[ho] at h;simp only[oOk] at h⊢;rw[hl];exact h
theorem pow_lt {j:Nat} (h:j<64):2^j<18446744073709551616:=by
 have:2^j<2^64:=Nat.pow_lt_pow_right (by omega) h
 omega
theorem Set_K {w0:World} {F:jb} {r:J7} {k:Nat} {v:Bool} (ok:RowOk r) (hk:k<r.bs.length):
  Call Tryz.prog w0 182 [.pointer (some ⟨r.b,0,none⟩), .int .i64 (k:Nat), .bool v] (jz r++F) (fun u H'=>u= .int .i64 0∧H'=jz (Jr r k v)++F):=by
 have ok1:=ok.o
 have hn:=ok.n
 have hx:(wordsOf r.bs)[((k:Int)/64).toNat]?=some ((wordN r.bs (k/64):Nat):Int):=by
  rw[show((k:Int)/64).toNat=k/64 by omega];exact words_at hk
 have hlt:((k:Int)/64).toNat<(wordsOf r.bs).length:=jl hx
 have hm:(k:Int)%64=((k%64:Nat):Int):=by omega
 have hlw:=jeb r.bs (k/64)
 have hpl:=pow_lt (j:=k%64) (by omega)
 have hk64:((k:Int)/64).toNat=k/64:=by omega
 have hws:=words_set (v:=v) hk
 have hle:(wordsOf (r.bs.set k v)).length=(wordsOf r.bs).length:=by rw[jak,jak,List.length_set]
 refine Call.enter3 (n:=43) (by kernel_rfl) Tryz.func182 rfl rfl rfl ?_;refine K.seq (K.region ?_);refine KL.v rfl (Val.assign rfl) ?_;refine KL.nil (KE.next (K.seq (K.block (K.seq (K.region ?_)))));refine KL.v rfl (Val.move rfl) ?_;refine KL.callc rfl rfl js fun T hT=>?_;simp only[jB];refine(CallV.fn (rnone_K (jA.cell jq rfl))).mono ?_;rintro _ _ ⟨rfl,rfl⟩;refine hT _ _ ?_;clear hT T;refine KL.v rfl (Val.assign rfl) ?_;refine KL.nil (KE.next (K.condF rfl (K.seq (K.region ?_))));refine KL.v rfl (Val.move rfl) ?_;refine KL.v rfl (Val.move rfl) ?_;refine KL.callc rfl rfl js fun T hT=>?_;refine(CallV.part (CallV.fn (has_K (r:=r) (i:=(k:Nat)))) (by first|exact ja|(simp only[jB];exact ja))).mono ?_;rintro _ _ ⟨rfl,rfl⟩;rw[decide_eq_true (show 0≤((k:Nat):Int)∧((k:Nat):Int)<(r.bs.length:Nat) by omega)];refine hT _ _ ?_;clear hT T;simp only[jB]
 cases v with
 |true=>
  simp only[if_true] at hws;refine KL.v rfl (Val.notT rfl) ?_;refine KL.v rfl (Val.assign rfl) ?_;refine KL.nil (KE.next (K.condF rfl (K.seq (K.region ?_))));refine KL.v rfl (Val.move rfl) ?_;refine KL.v rfl (Val.assign rfl) ?_;refine KL.nil (KE.next (K.condT rfl ?_));refine K.drawn [] [(0,0),(1,0),(2,0),(3,0),(4,0),(5,0),(6,0),(7,0),(8,0),(9,0),(10,0),(11,0),(12,0),(13,2)] (by kernel_rfl) (by kernel_rfl) (by kernel_rfl) (by kernel_rfl) (by kernel_rfl) (by kernel_rfl) Part.nil ?_;refine KD.v0 rfl rfl (Val.move rfl) ?_;refine KD.v0 rfl rfl (Val.nilCheck rfl) ?_;refine KD.v0 rfl rfl (Val.fieldAddr0 (k:=0) rfl rfl) ?_;refine KD.v0 rfl rfl (Val.loadP rfl rfl (jA.cell jq rfl)) ?_;refine KD.v0 rfl rfl (Val.move rfl) ?_;refine KD.v0 rfl rfl (Val.quoN rfl rfl (by simp only[qL,qH];omega)) ?_;refine KD.v0 rfl rfl (Val.idxSl rfl rfl rfl (Sli.own jh (by assumption) jG) rfl jr) ?_;refine KD.v0 rfl rfl (Val.loadP rfl rfl (jA.sl0 (Sli.own jh (by assumption) jG) (by assumption) rfl)) ?_;refine KD.v0 rfl rfl (Val.move rfl) ?_;refine KD.v0 rfl rfl (Val.remN rfl rfl (by omega)) ?_;refine KD.v0 rfl rfl (Val.shl rfl rfl (by omega)) ?_;refine KD.v0 rfl rfl (Val.or rfl rfl) ?_;refine KD.v0 rfl rfl (Val.idxSl rfl rfl rfl (Sli.own jh (by assumption) jG) rfl jr) ?_;refine KD.eN rfl (Eff.stSl0 rfl rfl rfl rfl jh (by assumption) (by assumption) rfl rfl) ?_;rintro _ _ rfl;refine⟨ja,?_⟩;refine KD.nil ?_;refine KE.blkN ?_;refine KE.next (K.seq (K.region ?_));refine KL.v rfl (Val.assign rfl) ?_;refine KL.nil (KE.next ?_);refine K.ret ?_;rw[hm,jfV (j:=k%64) (by omega),or_nat hlw hpl,←hws];simp only[Jr,List.length_set,hle];exact KE.fin jd rfl jc (by first|exact ja|(simp only[jB];exact ja)) ⟨rfl,rfl⟩
 |false=>
  simp only[Bool.false_eq_true,if_false] at hws;refine KL.v rfl (Val.notT rfl) ?_;refine KL.v rfl (Val.assign rfl) ?_;refine KL.nil (KE.next (K.condF rfl (K.seq (K.region ?_))));refine KL.v rfl (Val.move rfl) ?_;refine KL.v rfl (Val.assign rfl) ?_;refine KL.nil (KE.next (K.condF rfl ?_));refine K.drawn [] [(0,0),(1,0),(2,0),(3,0),(4,0),(5,0),(6,0),(7,0),(8,0),(9,0),(10,0),(11,0),(12,0),(13,2)] (by kernel_rfl) (by kernel_rfl) (by kernel_rfl) (by kernel_rfl) (by kernel_rfl) (by kernel_rfl) Part.nil ?_;refine KD.v0 rfl rfl (Val.move rfl) ?_;refine KD.v0 rfl rfl (Val.nilCheck rfl) ?_;refine KD.v0 rfl rfl (Val.fieldAddr0 (k:=0) rfl rfl) ?_;refine KD.v0 rfl rfl (Val.loadP rfl rfl (jA.cell jq rfl)) ?_;refine KD.v0 rfl rfl (Val.move rfl) ?_;refine KD.v0 rfl rfl (Val.quoN rfl rfl (by simp only[qL,qH];omega)) ?_;refine KD.v0 rfl rfl (Val.idxSl rfl rfl rfl (Sli.own jh (by assumption) jG) rfl jr) ?_;refine KD.v0 rfl rfl (Val.loadP rfl rfl (jA.sl0 (Sli.own jh (by assumption) jG) (by assumption) rfl)) ?_;refine KD.v0 rfl rfl (Val.move rfl) ?_;refine KD.v0 rfl rfl (Val.remN rfl rfl (by omega)) ?_;refine KD.v0 rfl rfl (Val.shl rfl rfl (by omega)) ?_;refine KD.v0 rfl rfl (Val.andNot rfl rfl) ?_;refine KD.v0 rfl rfl (Val.idxSl rfl rfl rfl (Sli.own jh (by assumption) jG) rfl jr) ?_;refine KD.eN rfl (Eff.stSl0 rfl rfl rfl rfl jh (by assumption) (by assumption) rfl rfl) ?_;rintro _ _ rfl;refine⟨ja,?_⟩;refine KD.nil ?_;refine KE.blkN ?_;refine KE.next (K.seq (K.region ?_));refine KL.v rfl (Val.assign rfl) ?_;refine KL.nil (KE.next ?_);refine K.ret ?_;rw[hm,jfV (j:=k%64) (by omega),jfC hlw hpl,←hws];simp only[Jr,List.length_set,hle];exact KE.fin jd rfl jc (by first|exact ja|(simp only[jB];exact ja)) ⟨rfl,rfl⟩
theorem jdt (n:Nat):(List.replicate n false).length=n:=List.length_replicate
theorem jdH {w0:World} {H:jb} {n:Nat} (hn:n≤65536):
  Call Tryz.prog w0 122 [.int .i64 (n:Nat)] H (fun v H'=> ∃ r,RowOk r∧r.bs=List.replicate n false∧v= .tuple [.pointer (some ⟨r.b,0,none⟩), .int .i64 0].toArray∧H'=jz r++H):=by
 have h1:((n:Int)+64-1)/64=(((n+63)/64:Nat):Int):=by omega
 refine Call.enter1 (n:=18) (by kernel_rfl) Tryz.func122 rfl rfl rfl ?_;refine K.seq (K.region ?_);refine KL.v rfl (Val.assign rfl) ?_;refine KL.v rfl (Val.assign rfl) ?_;refine KL.nil (KE.next (K.seq (K.seq (K.region ?_))));refine KL.v rfl (Val.move rfl) ?_;refine KL.v rfl (Val.isF (Val.lss rfl rfl) jr) ?_;refine KL.v rfl (Val.move rfl) ?_;refine KL.yes rfl rfl ?_;refine KL.v rfl (Val.move rfl) ?_;refine KL.yes rfl rfl ?_;refine KL.v rfl (Val.isF (Val.gtr rfl rfl) jr) ?_;refine KL.v rfl (Val.pickF rfl rfl rfl) ?_;refine KL.nil (KE.next (K.condF rfl (K.skip (KE.next ?_))));refine jdM ?_;refine KL.v rfl (Val.move rfl) ?_
 (first|(refine KL.v rfl (Val.add rfl rfl (by simp only[qL,qH];omega)) ?_)|(refine KL.v rfl (Val.addW rfl rfl) ?_))
 (first|(refine KL.v rfl (Val.sub rfl rfl (by simp only[qL,qH];omega)) ?_)|(refine KL.v rfl (Val.subW rfl rfl) ?_))
 (first|(refine KL.v rfl (Val.quoN rfl rfl (by simp only[qL,qH];omega)) ?_)|(refine KL.v rfl (Val.quo rfl rfl (by omega)) ?_))
 rw[h1];refine KL.e rfl (Eff.makeR (E:=uE) (x0:=0) rfl rfl rfl rfl rfl rfl (by first|assumption|omega|(simp<;>fail)|(simp;omega))) ?_;rintro _ _ ⟨o14,ok14,rfl,rfl⟩;refine KL.v rfl (Val.move rfl) ?_;refine KL.v rfl (Val.build jbZ rfl rfl jb5) ?_;refine KL.e rfl (Eff.box rfl rfl) ?_;rintro _ _ ⟨b17,rfl,rfl⟩;refine KL.v rfl (Val.assign rfl) ?_;refine KL.v rfl (Val.assign rfl) ?_;refine KL.nil (KE.next ?_);refine K.ret ?_
 have hw:=jgP n
 rw[←hw] at ok14⊢;exact KE.fin (H':=jz ⟨b17,List.replicate n false,o14⟩++H) jd rfl jc (by rw[jB,jdt];exact ja) ⟨⟨b17,List.replicate n false,o14⟩,⟨ok14,by rw[jdt];exact hn⟩,rfl,rfl,rfl⟩
theorem Clear_K {w0:World} {F:jb} {r:J7} (ok:RowOk r):
  Call Tryz.prog w0 149 [.pointer (some ⟨r.b,0,none⟩)] (jz r++F) (fun u H'=>u= .tuple #[]∧ ∃ r',RowOk r'∧r'.b=r.b∧r'.bs=List.replicate r.bs.length false∧H'=jz r'++F):=by
 have ok1:=ok.o
 refine Call.enter1 (n:=9) (by kernel_rfl) Tryz.func149 rfl rfl rfl ?_;refine K.seq (K.region ?_);refine KL.v rfl (Val.move rfl) ?_;refine KL.callc rfl rfl js fun T hT=>?_;simp only[jB];refine(CallV.fn (rnone_K (jA.cell jq rfl))).mono ?_;rintro _ _ ⟨rfl,rfl⟩;refine hT _ _ ?_;clear hT T;refine KL.v rfl (Val.notF rfl) ?_;refine KL.nil (KE.next (K.condT rfl (K.region ?_)));refine KL.v rfl (Val.move rfl) ?_;refine KL.v rfl (Val.nilCheck rfl) ?_;refine KL.v rfl (Val.fieldAddr0 (k:=0) rfl rfl) ?_;refine KL.v rfl (Val.loadP rfl rfl (jA.cell jq rfl)) ?_;refine KL.eN (Eff.clearS (x0:=(0:Int)) (i:=0) rfl (clr_all (by assumption)) rfl rfl (Nat.zero_le _) (Nat.le_refl _) jh (by assumption)) ?_;rintro _ _ ⟨rfl,okc,rfl⟩;refine KL.nil ?_
 skip
 have hw:cleared (wordsOf r.bs) 0 (wordsOf r.bs).length 0=wordsOf (List.replicate r.bs.length false):=by rw[jgp,jgP,jak]
 rw[hw] at okc⊢
 have hl:(wordsOf (List.replicate r.bs.length false)).length=(wordsOf r.bs).length:=by rw[jak,jak,jdt]
 exact KE.finN (H':=jz ⟨r.b,List.replicate r.bs.length false,r.o⟩++F) jd rfl jc (by simp only[jB,jdt,hl];exact ja) ⟨rfl,⟨r.b,List.replicate r.bs.length false,r.o⟩,⟨okc,by rw[jdt];exact ok.n⟩,rfl,rfl,rfl⟩
open Go.RowKit
theorem jdp {a c p d:Nat} (ha:a<256) (hc:c<256):(a+256*p)&&&(c+256*d)=(a&&&c)+256*(p&&&d):=by
 have h1:(a&&&c)<2^8:=Nat.lt_of_le_of_lt Nat.and_le_left (by omega)
 apply Nat.eq_of_testBit_eq
 intro t;rw[Nat.testBit_and,Nat.add_comm a,Nat.add_comm c,Nat.add_comm (a&&&c),show(256:Nat)=2^8 by decide,Nat.testBit_two_pow_mul_add _ (by omega),Nat.testBit_two_pow_mul_add _ (by omega),Nat.testBit_two_pow_mul_add _ h1]
 by_cases h:t<8
 ·simp[h]
 ·simp[h]
def rep (c:Nat):Nat→Nat
 |0=>0
 |n+1=>c+256*rep c n
def JB:List Nat→Nat
 | []=>0
 |b::l=>b+256*JB l
def f1 (b:Nat):Nat:=(b/2&&&85)+(b&&&85)
def f2 (b:Nat):Nat:=(b/4&&&51)+(b&&&51)
def f3 (b:Nat):Nat:=(b/16+b)&&&15
def g1 (n x:Nat):Nat:=(x/2&&&rep 85 n)+(x&&&rep 85 n)
def g2 (n x:Nat):Nat:=(x/4&&&rep 51 n)+(x&&&rep 51 n)
def g3 (n x:Nat):Nat:=(x/16+x)&&&rep 15 n
set_option maxRecDepth 100000 in
theorem h1: ∀ b,b<256→ ∀ e,e<2→(b/2+128*e)&&&85=b/2&&&85:=by decide+kernel
set_option maxRecDepth 100000 in
theorem h2: ∀ b,b<256→ ∀ e,e<4→(b/4+64*e)&&&51=b/4&&&51:=by decide+kernel
set_option maxRecDepth 100000 in
theorem h3: ∀ b,b<70→ ∀ e,e<5→(b/16+b+16*e)&&&15=(b/16+b)&&&15:=by decide+kernel
theorem g1_val: ∀ l:List Nat,(∀ b∈l,b<256)→g1 l.length (JB l)=JB (l.map f1)
 | [],_=>by simp[g1,JB,rep]
 |b::l,h=>by
  have hb:=h b (.head _)
  have ih:=g1_val l fun x hx=>h x (.tail _ hx)
  obtain⟨y,hy⟩: ∃ y,y=JB l:=⟨_,rfl⟩
  show(((b+256*JB l)/2)&&&(85+256*rep 85 l.length))+((b+256*JB l)&&&(85+256*rep 85 l.length))=f1 b+256*JB (l.map f1)
  rw[←ih,←hy,show(b+256*y)/2=(b/2+128*(y%2))+256*(y/2) by omega,jdp (by omega) (by omega),jdp hb (by omega),h1 b hb (y%2) (by omega)];unfold f1 g1;omega
theorem g2_val: ∀ l:List Nat,(∀ b∈l,b<256)→g2 l.length (JB l)=JB (l.map f2)
 | [],_=>by simp[g2,JB,rep]
 |b::l,h=>by
  have hb:=h b (.head _)
  have ih:=g2_val l fun x hx=>h x (.tail _ hx)
  obtain⟨y,hy⟩: ∃ y,y=JB l:=⟨_,rfl⟩
  show(((b+256*JB l)/4)&&&(51+256*rep 51 l.length))+((b+256*JB l)&&&(51+256*rep 51 l.length))=f2 b+256*JB (l.map f2)
  rw[←ih,←hy,show(b+256*y)/4=(b/4+64*(y%4))+256*(y/4) by omega,jdp (by omega) (by omega),jdp hb (by omega),h2 b hb (y%4) (by omega)];unfold f2 g2;omega
theorem valB_mod: ∀ l:List Nat,(∀ b∈l,b<70∧b%16<5)→JB l%16<5
 | [],_=>by simp[JB]
 |b::l,h=>by
  have:=(h b (.head _)).2
  show(b+256*JB l)%16<5
  omega
theorem g3_val: ∀ l:List Nat,(∀ b∈l,b<70∧b%16<5)→g3 l.length (JB l)=JB (l.map f3)
 | [],_=>by simp[g3,JB,rep]
 |b::l,h=>by
  have hb:=h b (.head _)
  have ih:=g3_val l fun x hx=>h x (.tail _ hx)
  have hm:=valB_mod l fun x hx=>h x (.tail _ hx)
  obtain⟨y,hy⟩: ∃ y,y=JB l:=⟨_,rfl⟩
  show(((b+256*JB l)/16+(b+256*JB l))&&&(15+256*rep 15 l.length))=f3 b+256*JB (l.map f3)
  rw[←ih,←hy];rw[←hy] at hm;rw[show(b+256*y)/16+(b+256*y)=(b/16+b+16*(y%16))+256*(y/16+y) by omega,jdp (by omega) (by omega),h3 b hb.1 (y%16) hm]
  rfl
theorem dv {p q:Nat} (h:p<256):(p+256*q)/256=q:=by omega
theorem ad {a b x y:Nat}:(a+256*x)+(b+256*y)=(a+b)+256*(x+y):=by omega
theorem jaI {a x m:Nat} (ha:a<256) (hx:x<m):a+256*x<256*m:=by omega
theorem tail_sum {p0 p1 p2 p3 p4 p5 p6 p7 v a b c:Nat} (h0:p0≤8) (h1:p1≤8) (h2:p2≤8) (h3:p3≤8) (h4:p4≤8) (h5:p5≤8) (h6:p6≤8) (h7:p7≤8)
  (hv:v=p0+256*(p1+256*(p2+256*(p3+256*(p4+256*(p5+256*(p6+256*p7)))))))
  (ha:a=v+v/256) (hb:b=a+a/65536) (hc:c=b+b/4294967296):c%128=p0+p1+p2+p3+p4+p5+p6+p7∧a<18446744073709551616∧b<18446744073709551616∧c<648518346341351424:=by
 have e1:v/256=p1+256*(p2+256*(p3+256*(p4+256*(p5+256*(p6+256*p7))))):=by rw[hv];exact dv (by omega)
 have z1: ∀ x:Nat,x+256*0=x:=fun x=>by omega
 have ea:a=(p0+p1)+256*((p1+p2)+256*((p2+p3)+256*((p3+p4)+256*((p4+p5)+256*((p5+p6)+256*((p6+p7)+256*p7)))))):=by
  rw[ha,e1,hv,ad,ad,ad,ad,ad,ad]
  congr 7;omega
 clear ha hv e1
 have e2:a/65536=(p2+p3)+256*((p3+p4)+256*((p4+p5)+256*((p5+p6)+256*((p6+p7)+256*p7)))):=by
  rw[show(65536:Nat)=256*256 by decide,←Nat.div_div_eq_div_mul,ea,dv (by omega),dv (by omega)]
 have eb:b=(p0+p1+(p2+p3))+256*((p1+p2+(p3+p4))+256*((p2+p3+(p4+p5))+256*((p3+p4+(p5+p6))+256*((p4+p5+(p6+p7))+256*((p5+p6+p7)+256*((p6+p7)+256*p7)))))):=by
  rw[hb,e2,ea,ad,ad,ad,ad,ad]
  congr 6;omega
 have la:a<18446744073709551616:=by
  rw[ea];exact ze4
 clear hb e2 ea
 have e3:b/4294967296=(p4+p5+(p6+p7))+256*((p5+p6+p7)+256*((p6+p7)+256*p7)):=by
  rw[show(4294967296:Nat)=256*256*256*256 by decide,←Nat.div_div_eq_div_mul,←Nat.div_div_eq_div_mul,←Nat.div_div_eq_div_mul,eb,dv (by omega),dv (by omega),dv (by omega),dv (by omega)]
 have ec:c=(p0+p1+(p2+p3)+(p4+p5+(p6+p7)))+256*((p1+p2+(p3+p4)+(p5+p6+p7))+256*((p2+p3+(p4+p5)+(p6+p7))+256*((p3+p4+(p5+p6)+p7)+256*((p4+p5+(p6+p7))+256*((p5+p6+p7)+256*((p6+p7)+256*p7)))))):=by
  rw[hc,e3,eb,ad,ad,ad]
  congr 4;omega
 have lb:b<18446744073709551616:=by
  rw[eb];exact ze4
 clear hc e3 eb;refine⟨?_,la,lb,?_⟩
 ·rw[ec]
  generalize (p1+p2+(p3+p4)+(p5+p6+p7))+256*((p2+p3+(p4+p5)+(p6+p7))+256*((p3+p4+(p5+p6)+p7)+256*((p4+p5+(p6+p7))+256*((p5+p6+p7)+256*((p6+p7)+256*p7)))))=z
  omega
 ·rw[ec];exact jaI (m:=2533274790395904) (by omega) (jaI (m:=9895604649984) (by omega) (jaI (m:=38654705664) (by omega) (jaI (m:=150994944) (by omega) (jaI (m:=589824) (by omega) (jaI (m:=2304) (by omega) (jaI (m:=9) (by omega) (by omega)))))))
set_option maxRecDepth 100000 in
theorem jgc: ∀ b,b<256→f1 b<256∧f2 (f1 b)<70∧f2 (f1 b)%16<5∧f3 (f2 (f1 b))≤8:=by decide+kernel
theorem byte_pop: ∀ b0 b1 b2 b3 b4 b5 b6 b7:Bool,f3 (f2 (f1 (bitsN [b0,b1,b2,b3,b4,b5,b6,b7])))=[b0,b1,b2,b3,b4,b5,b6,b7].count true:=by decide+kernel
theorem bytes_of: ∀ (n:Nat) (l:List Bool),l.length=8*n→ ∃ bl:List Nat,bl.length=n∧(∀ b∈bl,b<256)∧JB bl=bitsN l∧(bl.map fun b=>f3 (f2 (f1 b))).sum=l.count true
 |0,l,h=>by
  have:l=[]:=List.length_eq_zero_iff.1 (by omega)
  subst this;exact⟨[],rfl,by simp,rfl,rfl⟩
 |n+1,l,h=>by
  match l,h with
  |b0::b1::b2::b3::b4::b5::b6::b7::r,h=>
   obtain⟨bl,e1,e2,e3,e4⟩:=bytes_of n r (by simp only[List.length_cons] at h;omega)
   refine⟨bitsN [b0,b1,b2,b3,b4,b5,b6,b7]::bl,by simp[e1],fun b hb=>?_,?_,?_⟩
   ·rcases List.mem_cons.1 hb with rfl|hb
    ·have h8:=jeq [b0,b1,b2,b3,b4,b5,b6,b7]
     rw[show([b0,b1,b2,b3,b4,b5,b6,b7]:List Bool).length=8 from rfl,show 2^8=256 by decide] at h8;exact h8
    ·exact e2 b hb
   ·show bitsN [b0,b1,b2,b3,b4,b5,b6,b7]+256*JB bl=_
    rw[e3];simp only[bitsN]
    omega
   ·rw[List.map_cons,List.sum_cons,e4,byte_pop]
    have:b0::b1::b2::b3::b4::b5::b6::b7::r=[b0,b1,b2,b3,b4,b5,b6,b7]++r:=rfl
    rw[this,List.count_append]
  | [],h=>simp at h
  | [_],h=>simp only[List.length_cons,List.length_nil] at h;omega
  | [_,_],h=>simp only[List.length_cons,List.length_nil] at h;omega
  | [_,_,_],h=>simp only[List.length_cons,List.length_nil] at h;omega
  | [_,_,_,_],h=>simp only[List.length_cons,List.length_nil] at h;omega
  | [_,_,_,_,_],h=>simp only[List.length_cons,List.length_nil] at h;omega
  | [_,_,_,_,_,_],h=>simp only[List.length_cons,List.length_nil] at h;omega
  | [_,_,_,_,_,_,_],h=>simp only[List.length_cons,List.length_nil] at h;omega
theorem bitsN_pad (l:List Bool) (n:Nat):bitsN (l++List.replicate n false)=bitsN l:=by
 apply Nat.eq_of_testBit_eq
 intro t;rw[jea,jea,List.getElem?_append]
 split
 ·rfl
 ·rename_i h
  rw[List.getElem?_replicate,List.getElem?_eq_none (by omega)]
  split<;>rfl
theorem pop_law {l:List Bool} (hl:l.length≤64) {x a b c:Nat} (hx:x=g3 8 (g2 8 (g1 8 (bitsN l)))) (ha:a=x+x/256) (hb:b=a+a/65536) (hc:c=b+b/4294967296):
  c%128=l.count true∧a<18446744073709551616∧b<18446744073709551616∧c<648518346341351424:=by
 obtain⟨bl,e1,e2,e3,e4⟩:=bytes_of 8 (l++List.replicate (64-l.length) false) (by simp;omega)
 rw[bitsN_pad] at e3;rw[List.count_append,show(List.replicate (64-l.length) false).count true=0 by rw[List.count_replicate];rfl,Nat.add_zero] at e4
 have b1: ∀ y∈bl.map f1,y<256:=fun y hy=>by
  obtain⟨q,hq,rfl⟩:=List.mem_map.1 hy
  exact(jgc q (e2 q hq)).1
 have b2: ∀ y∈(bl.map f1).map f2,y<70∧y%16<5:=fun y hy=>by
  rw[List.map_map] at hy
  obtain⟨q,hq,rfl⟩:=List.mem_map.1 hy
  have:=jgc q (e2 q hq)
  exact⟨this.2.1,this.2.2.1⟩
 have hx':x=JB (((bl.map f1).map f2).map f3):=by
  rw[hx,←e3]
  have q1:=g1_val bl e2
  rw[e1] at q1
  have q2:=g2_val (bl.map f1) b1
  rw[List.length_map,e1] at q2
  have q3:=g3_val ((bl.map f1).map f2) b2
  rw[List.length_map,List.length_map,e1] at q3;rw[q1,q2,q3]
 rw[List.map_map,List.map_map] at hx';rw[←e4]
 match bl,e1,e2 with
 | [p0,p1,p2,p3,p4,p5,p6,p7],_,e2=>
  have k:=fun q hq=>(jgc q (e2 q hq)).2.2.2
  have:=tail_sum (k p0 (by simp)) (k p1 (by simp)) (k p2 (by simp)) (k p3 (by simp)) (k p4 (by simp)) (k p5 (by simp)) (k p6 (by simp)) (k p7 (by simp)) (v:=x) (by rw[hx'];simp[JB]) ha hb hc
  refine⟨?_,this.2⟩;rw[this.1];simp only[List.map_cons,List.map_nil,List.sum_cons,List.sum_nil]
  omega
theorem rep_85:rep 85 8=6148914691236517205:=by decide+kernel
theorem rep_51:rep 51 8=3689348814741910323:=by decide+kernel
theorem rep_15:rep 15 8=1085102592571150095:=by decide+kernel
open Go.RowKit
set_option maxRecDepth 10000
theorem fmask {n:Nat} (h1:1≤n) (h:n≤64):18446744073709551615/2^(64-n)=2^n-1:=by
 have e:(18446744073709551616:Nat)=2^n*2^(64-n):=by rw[←Nat.pow_add,show n+(64-n)=64 by omega]
 have hp:0<2^(64-n):=Nat.two_pow_pos _
 have hq:0<2^n:=Nat.two_pow_pos _
 rw[show(18446744073709551615:Nat)=2^n*2^(64-n)-1 by omega];rw[Nat.div_eq_iff hp]
 obtain⟨m,hm⟩: ∃ m,2^n=m+1:=⟨2^n-1,by omega⟩
 rw[hm,Nat.succ_mul,show m+1-1=m by omega]
 omega
theorem jhj {x n:Nat} (hx:x<18446744073709551616) (h:x<2^n):Lib.bitLen x≤n:=by
 rcases Nat.lt_or_ge 63 n with h64|h64
 ·have: ∀ f y,Lib.bitLenAux f y≤f:=fun f=>by
   induction f with
   |zero=>intro y;simp[Lib.bitLenAux]
   |succ f ih=>intro y;unfold Lib.bitLenAux;split;omega;have:=ih (y/2);omega
  have:=this 64 x
  unfold Lib.bitLen;omega
 ·have: ∀ n f y,y<2^n→Lib.bitLenAux f y≤n:=fun n=>by
   induction n with
   |zero=>
    intro f y hy
    have:y=0:=by simpa using hy
    subst this
    cases f<;>simp[Lib.bitLenAux]
   |succ n ih=>
    intro f y hy
    cases f with
    |zero=>simp[Lib.bitLenAux]
    |succ f=>
     unfold Lib.bitLenAux
     split
     ·omega
     ·have:=ih f (y/2) (by rw[Nat.pow_succ] at hy;omega);omega
  exact this n 64 x h
theorem less_high {w a n:Nat} (hw:w<2^a) (h:n+a≤64) (hn:(2^n-1)*2^a<18446744073709551616):lessN w ((2^n-1)*2^a)=w:=by
 apply Nat.eq_of_testBit_eq
 intro t;rw[jfe hn,Nat.testBit_mul_two_pow]
 by_cases ht:t<a
 ·simp[show ¬a≤t by omega,show t<64 by omega]
 ·rw[Nat.testBit_lt_two_pow (Nat.lt_of_lt_of_le hw (Nat.pow_le_pow_right (by omega) (by omega)))];simp
theorem or_high {w a v:Nat} (hw:w<2^a):w|||v*2^a=w+v*2^a:=by
 rw[Nat.mul_comm,Nat.or_comm,←Nat.two_pow_add_eq_or_of_lt hw,Nat.add_comm]
theorem jf4 {a n:Nat} (h:n+a≤64):(2^n-1)*2^a<18446744073709551616:=by
 have e:2^n*2^a≤2^64:=by rw[←Nat.pow_add];exact Nat.pow_le_pow_right (by omega) h
 have hq:0<2^n:=Nat.two_pow_pos _
 have hp:0<2^a:=Nat.two_pow_pos _
 have:(2^n-1)*2^a+2^a=2^n*2^a:=by
  obtain⟨m,hm⟩: ∃ m,2^n=m+1:=⟨2^n-1,by omega⟩
  rw[hm,show m+1-1=m by omega,Nat.succ_mul]
 omega
theorem val_lt {a n v:Nat} (h:n+a≤64) (hv:v<2^n):v*2^a<18446744073709551616:=by
 have h1:v*2^a≤(2^n-1)*2^a:=Nat.mul_le_mul_right _ (by omega)
 have:=jf4 h
 omega
theorem jdz {b j:Nat} (hj:j<64) (h:b*2^j<18446744073709551616):IntKind.u64.wrap ((b:Int)*2^(min (Int.toNat (j:Int)) IntKind.u64.bits))=((b*2^j:Nat):Int):=by
 have e:min (Int.toNat (j:Int)) IntKind.u64.bits=j:=by
  exact zeX
 rw[e,show(b:Int)*2^j=((b*2^j:Nat):Int) by simp];exact jcI h
end Go.Proofs.YtldomapkmopomaaGreatDoor.Sw
