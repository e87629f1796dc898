/-The walker and contracts, part 14.-/
import Derived.Test.YtciaccbemnpipaaGreatDoorD1
set_option linter.all false
namespace Go.Proofs.YtciaccbemnpipaaGreatDoor.Sw
set_option maxHeartbeats 8000000
open Go.Proofs.YtciaccbemnpipaaGreatDoor renaming lo -> qL, hi -> qH
open Go.RowKit
theorem jdx {n:Nat} (h:n<18446744073709551616):IntKind.u64.wrap (n:Int)=(n:Int):=by
 rw[IntKind.wrap_u64];omega
theorem jb9 {n:Nat} (h:n<18446744073709551616):(BitVec.ofInt 64 (n:Int)).toNat=n:=by
 rw[BitVec.ofInt_natCast,BitVec.toNat_ofNat];exact Nat.mod_eq_of_lt bc
theorem jcJ {a b:Nat} (ha:a<18446744073709551616) (hb:b<18446744073709551616):jaq .and .u64 (a:Int) (b:Int)=((a&&&b:Nat):Int):=by
 show IntKind.u64.wrap ((BitVec.ofInt 64 (a:Int)&&&BitVec.ofInt 64 (b:Int)).toNat:Int)=_
 rw[BitVec.toNat_and,jb9 ha,jb9 hb];exact jdx (Nat.and_lt_two_pow _ (n:=64) bc)
theorem and_one {a:Nat} (ha:a<18446744073709551616):jaq .and .u64 (a:Int) 1=((a&&&1:Nat):Int):=jcJ (b:=1) ha bc
theorem or_nat {a b:Nat} (ha:a<18446744073709551616) (hb:b<18446744073709551616):jaq .or .u64 (a:Int) (b:Int)=((a|||b:Nat):Int):=by
 show IntKind.u64.wrap ((BitVec.ofInt 64 (a:Int)|||BitVec.ofInt 64 (b:Int)).toNat:Int)=_
 rw[BitVec.toNat_or,jb9 ha,jb9 hb];exact jdx (Nat.or_lt_two_pow (n:=64) bc bc)
theorem xor_nat {a b:Nat} (ha:a<18446744073709551616) (hb:b<18446744073709551616):jaq .xor .u64 (a:Int) (b:Int)=((a^^^b:Nat):Int):=by
 show IntKind.u64.wrap ((BitVec.ofInt 64 (a:Int)^^^BitVec.ofInt 64 (b:Int)).toNat:Int)=_
 rw[BitVec.toNat_xor,jb9 ha,jb9 hb];exact jdx (Nat.xor_lt_two_pow (n:=64) bc bc)
def lessN (a b:Nat):Nat:=a&&&(18446744073709551616-(b+1))
theorem jjF {a b:Nat} (ha:a<18446744073709551616):lessN a b<18446744073709551616:=by
 unfold lessN;exact Nat.lt_of_le_of_lt Nat.and_le_left ha
theorem jgE {a b:Nat} (ha:a<18446744073709551616) (hb:b<18446744073709551616):jaq .andNot .u64 (a:Int) (b:Int)=((lessN a b:Nat):Int):=by
 show IntKind.u64.wrap ((BitVec.ofInt 64 (a:Int)&&& ~~~(BitVec.ofInt 64 (b:Int))).toNat:Int)=_
 rw[BitVec.toNat_and,BitVec.toNat_not,jb9 ha,jb9 hb];rw[show 2^64-1-b=18446744073709551616-(b+1) by omega];exact jdx (jjF ha)
theorem jgi {a b:Nat} (hb:b<18446744073709551616) (t:Nat):(lessN a b).testBit t=(a.testBit t&&(decide (t<64)&&!b.testBit t)):=by
 unfold lessN;rw[Nat.testBit_and,show(18446744073709551616:Nat)=2^64 by decide,Nat.testBit_two_pow_sub_succ bc]
theorem jby {a j:Nat} (hj:j<64):((a:Int)).fdiv (2^(min (Int.toNat (j:Int)) IntKind.u64.bits))=((a/2^j:Nat):Int):=by
 have e:min (Int.toNat (j:Int)) IntKind.u64.bits=j:=by
  exact zbQ
 rw[e,show(2:Int)^j=((2^j:Nat):Int) by simp,Int.fdiv_eq_ediv_of_nonneg _ (Int.natCast_nonneg _)];exact(Int.natCast_ediv a (2^j)).symm
theorem jg1 {j:Nat} (hj:j<64):IntKind.u64.wrap (1*2^(min (Int.toNat (j:Int)) IntKind.u64.bits))=((2^j:Nat):Int):=by
 have e:min (Int.toNat (j:Int)) IntKind.u64.bits=j:=by
  exact zbQ
 rw[e,show(1:Int)*2^j=((2^j:Nat):Int) by simp];exact jdx (by have:2^j<2^64:=Nat.pow_lt_pow_right bc hj;omega)
def bitsN:List Bool->Nat
 | []=>0
 |b::l=>(if b then 1 else 0)+2*bitsN l
theorem jeQ: ∀ (l:List Bool) (t:Nat),(bitsN l).testBit t=(l[t]?).getD false
 | [],t=>by simp[bitsN]
 |b::l,0=>by
  rw[Nat.testBit_zero]
  cases b<;>simp[bitsN]
 |b::l,t+1=>by
  rw[show t+1=t.succ from rfl,Nat.testBit_succ]
  have:bitsN (b::l)/2=bitsN l:=by
   show((if b then 1 else 0)+2*bitsN l)/2=_
   split<;>omega
  rw[this,jeQ l t];simp
theorem jfd: ∀ l:List Bool,bitsN l<2^l.length
 | []=>by simp[bitsN]
 |b::l=>by
  have:=jfd l
  rw[List.length_cons,Nat.pow_succ]
  show(if b then 1 else 0)+2*bitsN l<_
  split<;>omega
def wordN (bs:List Bool) (k:Nat):Nat:=bitsN ((bs.drop (64*k)).take 64)
theorem jeR (bs:List Bool) (k:Nat):wordN bs k<18446744073709551616:=by
 have h:=jfd ((bs.drop (64*k)).take 64)
 have h2:2^((bs.drop (64*k)).take 64).length<=2^64:=Nat.pow_le_pow_right bc bK
 unfold wordN;omega
theorem jcx (bs:List Bool) (k t:Nat):(wordN bs k).testBit t=(decide (t<64)&&(bs[64*k+t]?).getD false):=by
 unfold wordN;rw[jeQ,List.getElem?_take]
 by_cases h:t<64
 ·rw[if_pos h,List.getElem?_drop];simp[h]
 ·rw[if_neg h];simp[h]
def wordsOf (bs:List Bool):List Int:=(List.range ((bs.length+63)/64)).map fun k=>((wordN bs k:Nat):Int)
theorem jaF (bs:List Bool):(wordsOf bs).length=(bs.length+63)/64:=by simp[wordsOf]
theorem jdr {bs:List Bool} {k:Nat} (h:k<(bs.length+63)/64):(wordsOf bs)[k]?=some ((wordN bs k:Nat):Int):=by
 unfold wordsOf;rw[List.getElem?_map,List.getElem?_range h];rfl
theorem jiU {bs:List Bool} {i:Nat} (h:i<bs.length):(wordsOf bs)[i/64]?=some ((wordN bs (i/64):Nat):Int):=jdr bc
theorem jjO {bs:List Bool} {i j:Nat} {v:Bool} (hi:i<bs.length):((bs.set i v)[j]?).getD false=if i=j then v else(bs[j]?).getD false:=by
 rw[List.getElem?_set]
 by_cases h:i=j
 ·subst h;simp[hi]
 ·simp[h]
theorem jl9 {bs:List Bool} {i:Nat} {v:Bool} (hi:i<bs.length):
  wordsOf (bs.set i v)=(wordsOf bs).set (i/64) (((if v then wordN bs (i/64)|||2^(i%64) else lessN (wordN bs (i/64)) (2^(i%64))):Nat):Int):=by
 have hp:2^(i%64)<18446744073709551616:=by
  have:2^(i%64)<2^64:=Nat.pow_lt_pow_right bc bc
  omega
 have key:wordN (bs.set i v) (i/64)=if v then wordN bs (i/64)|||2^(i%64) else lessN (wordN bs (i/64)) (2^(i%64)):=by
  apply Nat.eq_of_testBit_eq
  intro t;rw[jcx,jjO hi]
  cases v
  ·simp only[Bool.false_eq_true,if_false];rw[jgi hp,jcx,Nat.testBit_two_pow]
   by_cases ht:t<64
   ·by_cases e:i=64*(i/64)+t
    ·have:i%64=t:=by omega
     simp[<-e,this]
    ·have: ¬i%64=t:=by omega
     simp[e,this,ht]
   ·simp[ht]
  ·simp only[if_true];rw[Nat.testBit_or,jcx,Nat.testBit_two_pow]
   by_cases ht:t<64
   ·by_cases e:i=64*(i/64)+t
    ·have:i%64=t:=by omega
     simp[<-e,this,ht]
    ·have: ¬i%64=t:=by omega
     simp[e,this,ht]
   ·have: ¬i%64=t:=by omega
    simp[ht,this]
 apply List.ext_getElem?
 intro k
 by_cases hk:k<(bs.length+63)/64
 ·rw[jdr (by rw[List.length_set];exact hk)]
  by_cases e:i/64=k
  ·subst e;rw[List.getElem?_set_self (by rw[jaF];exact hk),key]
  ·rw[List.getElem?_set_ne e,jdr hk]
   congr 2
   apply Nat.eq_of_testBit_eq
   intro t;rw[jcx,jcx,jjO hi]
   by_cases ht:t<64
   ·rw[if_neg bc]
   ·simp[ht]
 ·rw[List.getElem?_eq_none (by rw[jaF,List.length_set];omega),List.getElem?_eq_none (by rw[List.length_set,jaF];omega)]
theorem jib (n:Nat):wordsOf (List.replicate n false)=List.replicate ((n+63)/64) 0:=by
 apply List.ext_getElem?
 intro k
 by_cases hk:k<(n+63)/64
 ·rw[jdr (by rw[List.length_replicate];exact hk),List.getElem?_replicate,if_pos hk]
  have:wordN (List.replicate n false) k=0:=by
   apply Nat.eq_of_testBit_eq
   intro t;rw[jcx,List.getElem?_replicate]
   split<;>simp
  rw[this];rfl
 ·rw[List.getElem?_eq_none (by rw[jaF,List.length_replicate];omega),List.getElem?_eq_none (by rw[List.length_replicate];omega)]
theorem get_bit {bs:List Bool} {i:Nat} (hi:i<bs.length):(decide (((wordN bs (i/64)/2^(i%64)&&&1:Nat):Int)=1))=(bs[i]?).getD false:=by
 have h:=jcx bs (i/64) (i%64)
 rw[show 64*(i/64)+i%64=i by omega,decide_eq_true (by omega:i%64<64),Bool.true_and] at h;rw[<-h,Nat.testBit_eq_decide_div_mod_eq,Nat.and_one_is_mod]
 congr 1
 apply propext
 omega
theorem ctz_bit {x:Nat} (h0:x≠0) (h:x<18446744073709551616):Lib.ctz 64 x<64/\x.testBit (Lib.ctz 64 x)=true/\ ∀ t,t<Lib.ctz 64 x->x.testBit t=false:=by
 obtain⟨m,hm,hk⟩:=Lib.ctzFrom_spec 64 x bc bc
 have e:Lib.ctz 64 x=Lib.ctzFrom 64 x:=by simp[Lib.ctz,h0]
 rw[e]
 generalize Lib.ctzFrom 64 x=k at*
 have hb: ∀ t,x.testBit t=(decide (k<=t)&&(2*m+1).testBit (t-k)):=fun t=>by
  rw[hm,Nat.mul_comm,Nat.testBit_mul_two_pow]
 refine⟨hk,?_,fun t ht=>?_⟩
 ·rw[hb];simp
 ·rw[hb];simp;omega
set_option maxRecDepth 10000
structure jam where
 b:Nat
 bs:List Bool
 o:Own
def jD (r:jam):jb:=(r.b,cells [oV r.o (wordsOf r.bs).length, .int .i64 (r.bs.length:Nat), .bool true] 365)::oH uE 67 (wordsOf r.bs) r.o
theorem jG {r:jam} {F:jb}:jD r++F=(r.b,cells [oV r.o (wordsOf r.bs).length, .int .i64 (r.bs.length:Nat), .bool true] 365)::(oH uE 67 (wordsOf r.bs) r.o++F):=rfl
structure RowOk (r:jam):Prop where
 o:oOk uE (wordsOf r.bs) r.o
 n:r.bs.length<=65536
def getB (bs:List Bool) (i:Int):Bool:=decide (0<=i)&&(bs[i.toNat]?).getD false
theorem rnone_K {w0:World} {H:jb} {b:Nat} (hS:j7 w0 H ⟨b,2,none⟩ (.bool true)):
  Cs w0 272 [pt b] H (.bool false):=by
 refine en1 12 Tryz.func272 ?_;refine yr20 ?_;exact zd
theorem jfx {w0:World} {F:jb} {r:jam}:
  Call Tryz.prog w0 261 [pt r.b] (jD r++F) (fun v H'=>v= .int .i64 (r.bs.length:Nat)/\H'=jD r++F):=by
 refine en1 9 Tryz.func261 ?_;simp only[jG];refine yr10 ?_;refine zay ?_;refine yr15 ?_;exact zbm
theorem has_K {w0:World} {F:jb} {r:jam} {i:Int}:
  Call Tryz.prog w0 273 [pt r.b, .int .i64 i] (jD r++F) (fun v H'=>v= .bool (decide (0<=i/\i<(r.bs.length:Nat)))/\H'=jD r++F):=by
 refine en2 13 Tryz.func273 ?_
 by_cases h:i>=0
 ·refine yr13 ?_;refine jj (jfx (r:=r)) ?_
  by_cases h2:i<(r.bs.length:Nat)
  ·have e:decide (0<=i/\i<(r.bs.length:Nat))=true:=decide_eq_true ⟨h,h2⟩
   refine yr6 ?_;exact zbn
  ·have e:decide (0<=i/\i<(r.bs.length:Nat))=false:=decide_eq_false bc
   refine yr6 ?_;exact zbn
 ·have e:decide (0<=i/\i<(r.bs.length:Nat))=false:=decide_eq_false bc
  refine yr19 ?_;exact zbn
theorem jfp {bs:List Bool} {i:Nat}:getB bs (i:Int)=(bs[i]?).getD false:=by simp[getB]
theorem getB_out {bs:List Bool} {i:Int} (h: ¬(0<=i/\i<(bs.length:Nat))):getB bs i=false:=by
 unfold getB
 by_cases h0:0<=i
 ·rw[List.getElem?_eq_none bc];simp
 ·simp[h0]
theorem Get_K {w0:World} {F:jb} {r:jam} {i:Int} (ok:RowOk r):
  Call Tryz.prog w0 270 [pt r.b, .int .i64 i] (jD r++F) (fun v H'=>v= .bool (getB r.bs i)/\H'=jD r++F):=by
 have ok1:=ok.o
 have hn:=ok.n
 refine en2 23 Tryz.func270 ?_;refine yq9 fun T hT=>?_;refine(CallV.fn (has_K (r:=r) (i:=i))).mono ?_;rintro _ _ ⟨rfl,rfl⟩
 by_cases h:0<=i/\i<(r.bs.length:Nat)
 ·obtain⟨k,rfl⟩: ∃ k:Nat,i=k:=⟨i.toNat,by omega⟩
  have hk:k<r.bs.length:=by omega
  have hx:(wordsOf r.bs)[((k:Int)/64).toNat]?=some ((wordN r.bs (k/64):Nat):Int):=by
   rw[show((k:Int)/64).toNat=k/64 by omega];exact jiU hk
  have hlt:((k:Int)/64).toNat<(wordsOf r.bs).length:=jl hx
  have hm:(k:Int)%64=((k%64:Nat):Int):=by omega
  have hlw:=jeR r.bs (k/64)
  have hdl:wordN r.bs (k/64)/2^(k%64)<18446744073709551616:=Nat.lt_of_le_of_lt (Nat.div_le_self _ _) hlw
  rw[decide_eq_true h];refine ze ?_;clear hT T;simp only[jG];refine yr11 ?_;rw[hm];refine yr1 ?_;rw[jby (j:=k%64) bc];refine yr1 ?_;rw[and_one hdl]
  have hg:=get_bit (bs:=r.bs) (i:=k) hk
  refine yr6 ?_;exact KE.fin jd rfl jc Ba ⟨by rw[jfp,<-hg];rfl,rfl⟩
 ·rw[decide_eq_false h]
  have hg:=getB_out (bs:=r.bs) h
  refine ze ?_;clear hT T;rw[hg];refine yr19 ?_;exact zd
def JD (r:jam) (k:Nat) (v:Bool):jam:=⟨r.b,r.bs.set k v,r.o⟩
theorem jdc {r:jam} (ok:RowOk r) (k:Nat) (v:Bool):RowOk (JD r k v):=by
 refine⟨?_,by simpa [JD] using ok.n⟩
 have h:=ok.o
 have hl:(wordsOf (r.bs.set k v)).length=(wordsOf r.bs).length:=by rw[jaF,jaF,List.length_set]
 unfold JD;dsimp only
 cases ho:r.o with
 |none=>
  rw[ho] at h;simp only[oOk] at h|-;rw[h] at hl;exact List.length_eq_zero_iff.1 hl
 |some ob=>
  rw[ho] at h;simp only[oOk] at h|-;rw[hl];exact h
theorem jfz {j:Nat} (h:j<64):2^j<18446744073709551616:=by
 have:2^j<2^64:=Nat.pow_lt_pow_right bc h
 omega
theorem jdm {w0:World} {F:jb} {r:jam} {k:Nat} {v:Bool} (ok:RowOk r) (hk:k<r.bs.length):
  Call Tryz.prog w0 180 [pt r.b, .int .i64 (k:Nat), .bool v] (jD r++F) (fun u H'=>u= .int .i64 0/\H'=jD (JD r k v)++F):=by
 have ok1:=ok.o
 have hn:=ok.n
 have hx:(wordsOf r.bs)[((k:Int)/64).toNat]?=some ((wordN r.bs (k/64):Nat):Int):=by
  rw[show((k:Int)/64).toNat=k/64 by omega];exact jiU hk
 have hlt:((k:Int)/64).toNat<(wordsOf r.bs).length:=jl hx
 have hm:(k:Int)%64=((k%64:Nat):Int):=by omega
 have hlw:=jeR r.bs (k/64)
 have hpl:=jfz (j:=k%64) bc
 have hk64:((k:Int)/64).toNat=k/64:=by omega
 have hws:=jl9 (v:=v) hk
 have hle:(wordsOf (r.bs.set k v)).length=(wordsOf r.bs).length:=by rw[jaF,jaF,List.length_set]
 refine en3 43 Tryz.func180 ?_;refine yr11 ?_;simp only[jG];refine zay ?_;refine yq8 fun T hT=>?_;refine(CallV.part (CallV.fn (has_K (r:=r) (i:=(k:Nat)))) Ba).mono ?_;rintro _ _ ⟨rfl,rfl⟩;rw[decide_eq_true (show 0<=((k:Nat):Int)/\((k:Nat):Int)<(r.bs.length:Nat) by omega)];refine ze ?_;clear hT T;simp only[jG]
 cases v with
 |true=>
  simp only[if_true] at hws;refine yr12 ?_;refine zaj ?_;refine yr24 ?_;rw[hm,jg1 (j:=k%64) bc,or_nat hlw hpl,<-hws];simp only[JD,List.length_set,hle];exact zbm
 |false=>
  simp only[Bool.false_eq_true,if_false] at hws;refine yr12 ?_;refine zaj ?_;refine yr24 ?_;rw[hm,jg1 (j:=k%64) bc,jgE hlw hpl,<-hws];simp only[JD,List.length_set,hle];exact zbm
theorem jd2 (n:Nat):(List.replicate n false).length=n:=List.length_replicate
theorem jej {w0:World} {H:jb} {n:Nat} (hn:n<=65536):
  Call Tryz.prog w0 158 [.int .i64 (n:Nat)] H (fun v H'=> ∃ r,RowOk r/\r.bs=List.replicate n false/\v= .tuple [pt r.b, .int .i64 0].toArray/\H'=jD r++H):=by
 have h1:((n:Int)+64-1)/64=(((n+63)/64:Nat):Int):=by omega
 refine en1 18 Tryz.func158 ?_;refine yr20 ?_;refine zg ?_;refine yr4 ?_;rw[h1];refine KL.e rfl (Eff.makeR (E:=uE) (x0:=0) rfl rfl rfl rfl rfl rfl be) ?_;rintro _ _ ⟨o14,ok14,rfl,rfl⟩;refine yr3 ?_;intro b17;refine yr5 ?_
 have hw:=jib n
 rw[<-hw] at ok14|-;exact KE.fin (H':=jD ⟨b17,List.replicate n false,o14⟩++H) jd rfl jc (by rw[jG,jd2];exact ja) ⟨⟨b17,List.replicate n false,o14⟩,⟨ok14,by rw[jd2];exact hn⟩,rfl,rfl,rfl⟩
theorem jhr {w0:World} {F:jb} {r:jam} (ok:RowOk r):
  Call Tryz.prog w0 398 [pt r.b] (jD r++F) (fun u H'=>u= .tuple #[]/\ ∃ r',RowOk r'/\r'.b=r.b/\r'.bs=List.replicate r.bs.length false/\H'=jD r'++F):=by
 have ok1:=ok.o
 refine en1 9 Tryz.func398 ?_;refine yr4 ?_;simp only[jG];refine zay ?_;refine yr9 ?_;refine KL.eN (Eff.clearS (x0:=(0:Int)) (i:=0) rfl (clr_all bh) rfl rfl (Nat.zero_le _) (Nat.le_refl _) jt bh) ?_;rintro _ _ ⟨rfl,okc,rfl⟩;refine yr1 ?_
 skip
 have hw:cleared (wordsOf r.bs) 0 (wordsOf r.bs).length 0=wordsOf (List.replicate r.bs.length false):=by rw[jhQ,jib,jaF]
 rw[hw] at okc|-
 have hl:(wordsOf (List.replicate r.bs.length false)).length=(wordsOf r.bs).length:=by rw[jaF,jaF,jd2]
 exact KE.finN (H':=jD ⟨r.b,List.replicate r.bs.length false,r.o⟩++F) jd rfl jc (by simp only[jG,jd2,hl];exact ja) ⟨rfl,⟨r.b,List.replicate r.bs.length false,r.o⟩,⟨okc,by rw[jd2];exact ok.n⟩,rfl,rfl,rfl⟩
def wdL:List Nat:=[16,16,16,8,8]
structure ju (w:World):Prop where
 tab:TabAt 2 Lib.deBruijn64tab w
 wd: ∀ j n,wdL[j]?=some n->w.cell? ⟨1,j,none⟩=some (.int .i64 (n:Nat))
theorem ju.only {w w':World} (h:ju w) (ho:jN [] w w'):ju w':=⟨fun j hj=>jgo ho (h.tab j hj),fun j n hn=>jgo ho (h.wd j n hn)⟩
theorem neg_nat {x:Nat} (h0:x≠0) (h:x<18446744073709551616):IntKind.u64.wrap (-(x:Int))=((18446744073709551616-x:Nat):Int):=by
 rw[IntKind.wrap_u64];omega
theorem ctz_K {w0:World} {H:jb} (hG:ju w0) {x:Nat} (h:x<18446744073709551616) (h0:x≠0):
  Cs w0 356 [.int .u64 (x:Nat)] H (.int .i64 (Lib.ctz 64 x:Nat)):=by
 obtain⟨hlow,hk⟩:=Lib.lowest_bit 64 x h0 h
 obtain⟨hi,htab⟩:=Lib.deBruijn64_at _ hk
 have hcell:=hG.tab _ hi
 have hx0: ¬(x:Int)=0:=by omega
 have hxl:18446744073709551616-x<18446744073709551616:=by omega
 have hlow':x&&&(18446744073709551616-x)=2^Lib.ctz 64 x:=hlow
 have hpw:=jfz hk
 obtain⟨c,hc⟩: ∃ c,c=Lib.ctz 64 x:=⟨_,rfl⟩
 rw[<-hc] at hlow' hi htab hpw hcell hk|-
 have hml:2^c*285870213051353865%18446744073709551616<18446744073709551616:=Nat.mod_lt _ bn
 obtain⟨p,hp⟩: ∃ p,p=2^c:=⟨_,rfl⟩
 rw[<-hp] at hlow' hi htab hpw hcell hml
 obtain⟨y,hy⟩: ∃ y,y=p*285870213051353865%18446744073709551616:=⟨_,rfl⟩
 have hmul:IntKind.u64.wrap ((p:Int)*285870213051353865)=(y:Int):=by
  rw[IntKind.wrap_u64,hy];omega
 rw[<-hy] at hi htab hcell hml;clear hy
 obtain⟨idx,hidx⟩: ∃ idx,idx=y/288230376151711744:=⟨_,rfl⟩
 have hsh:(y:Int).fdiv (2^(min (Int.toNat 58) IntKind.u64.bits))=(idx:Int):=by
  have e:(2:Int)^(min (Int.toNat 58) IntKind.u64.bits)=288230376151711744:=by decide
  rw[e,Int.fdiv_eq_ediv_of_nonneg _ bc,hidx];omega
 rw[<-hidx] at hi htab hcell;rw[htab] at hcell
 have hidx':(idx:Int)<64:=by omega
 have hse:j7 w0 H ⟨2,0+Int.toNat ((idx:Nat):Int)*1,none⟩ (.int .u8 (c:Nat)):=by
  rw[show 0+Int.toNat ((idx:Nat):Int)*1=idx by simp];exact j7.old hcell
 refine en1 14 Tryz.func356 ?_;refine yr15 ?_;refine zg ?_;refine yr3 ?_;rw[neg_nat h0 h];refine yr1 ?_;rw[jcJ h hxl,hlow'];refine yr1 ?_;rw[hmul];refine yr1 ?_;rw[hsh];refine yr7 ?_;exact zd
def nextB (bs:List Bool) (k:Nat) (v:Bool):Option Nat:=(List.range bs.length).find? fun i=>decide (k<=i)&&((bs[i]?).getD false==v)
theorem jlG {bs:List Bool} {k i:Nat} {v:Bool} (hi:i<bs.length) (hk:k<=i) (hv:(bs[i]?).getD false=v) (hl: ∀ j,k<=j->j<i->(bs[j]?).getD false≠v):nextB bs k v=some i:=by
 unfold nextB;rw[List.find?_range_eq_some];refine⟨by simp[hk,hv],List.mem_range.2 hi,fun j hj=>?_⟩
 by_cases h:k<=j
 ·simp[h,hl j h hj]
 ·simp[h]
theorem jh0 {bs:List Bool} {k:Nat} {v:Bool} (h: ∀ j,k<=j->j<bs.length->(bs[j]?).getD false≠v):nextB bs k v=none:=by
 unfold nextB;rw[List.find?_eq_none];intro j hj
 have:=List.mem_range.1 hj
 by_cases hk:k<=j
 ·simp[hk,h j hk this]
 ·simp[hk]
theorem jck {bs:List Bool} {k i:Nat} {v:Bool} (h:nextB bs k v=some i):i<bs.length/\k<=i/\(bs[i]?).getD false=v/\ ∀ j,k<=j->j<i->(bs[j]?).getD false≠v:=by
 unfold nextB at h;rw[List.find?_range_eq_some] at h
 obtain⟨h1,h2,h3⟩:=h
 simp only[Bool.and_eq_true,decide_eq_true_eq,beq_iff_eq] at h1;refine⟨List.mem_range.1 h2,h1.1,h1.2,fun j hj hji=>?_⟩
 have:=h3 j hji
 simpa [hj] using this
def turnN (v:Bool):Nat:=if v then 0 else 18446744073709551615
theorem jgX (v:Bool):turnN v<18446744073709551616:=by unfold turnN;split<;>omega
def jbQ (k q:Nat):Nat:=if q=k/64 then 2^(k%64)-1 else 0
theorem jj6 (k q:Nat):jbQ k q<18446744073709551616:=by
 unfold jbQ
 have:=jfz (j:=k%64) bc
 split<;>omega
def leftN (bs:List Bool) (k:Nat) (v:Bool) (q:Nat):Nat:=lessN (wordN bs q^^^turnN v) (jbQ k q)
theorem xor_lt {a b:Nat} (ha:a<18446744073709551616) (hb:b<18446744073709551616):a^^^b<18446744073709551616:=Nat.xor_lt_two_pow (n:=64) bc bc
theorem left_lt (bs:List Bool) (k:Nat) (v:Bool) (q:Nat):leftN bs k v q<18446744073709551616:=jjF (xor_lt (jeR _ _) (jgX _))
theorem left_bit {bs:List Bool} {k q t:Nat} {v:Bool} (hq:k/64<=q) (ht:t<64):(leftN bs k v q).testBit t=(((bs[64*q+t]?).getD false==v)&&decide (k<=64*q+t)):=by
 unfold leftN;rw[jgi (jj6 _ _),Nat.testBit_xor,jcx]
 have e1:(turnN v).testBit t=!v:=by
  unfold turnN
  cases v
  ·simp only[Bool.false_eq_true,if_false];rw[show(18446744073709551615:Nat)=2^64-1 by decide,Nat.testBit_two_pow_sub_one];simp[ht]
  ·simp
 have e2:(jbQ k q).testBit t=!decide (k<=64*q+t):=by
  unfold jbQ
  by_cases e:q=k/64
  ·rw[if_pos e,Nat.testBit_two_pow_sub_one]
   by_cases h:t<k%64
   ·simp[h];omega
   ·simp[h];omega
  ·rw[if_neg e]
   simp;omega
 rw[e1,e2];simp only[ht,decide_true,Bool.true_and,Bool.not_not]
 congr 1
 cases (bs[64*q+t]?).getD false<;>cases v<;>rfl
structure FrS where
 q:Nat
 A:jb
def frM (bi br bt k:Nat) (v:Bool) (rb:Nat):jb:=[(bi,cells [.int .i64 (k:Nat)] 3),(br,cells [pt rb] 154),(bt,cells [.int .u64 (turnN v:Nat)] 67)]
theorem jfq {bi br bt k:Nat} {v:Bool} {rb:Nat} {F:jb}:frM bi br bt k v rb++F=(bi,cells [.int .i64 (k:Nat)] 3)::(br,cells [pt rb] 154)::(bt,cells [.int .u64 (turnN v:Nat)] 67)::F:=rfl
theorem from1_K {w0:World} {F A0:jb} {r:jam} {k bi br bt:Nat} {v:Bool} {yv:Value} (ok:RowOk r) (J:Nat->jb->Prop) (E:jb->Prop) (hk:k<=65536)
  (hy: ∀ q A,k/64<=q->q<(wordsOf r.bs).length->J q A->CallV Tryz.prog w0 yv [.int .i64 (q:Nat), .int .u64 (leftN r.bs k v q:Nat)] (A++(frM bi br bt k v r.b++(jD r++F)))
   (fun u H'=>(u= .bool true/\ ∃ A',J (q+1) A'/\H'=A'++(frM bi br bt k v r.b++(jD r++F)))\/(u= .bool false/\ ∃ A',E A'/\H'=A'++(frM bi br bt k v r.b++(jD r++F)))))
  (h0:J (k/64) A0):
  Call Tryz.prog w0 386 [yv,pt bi,pt br,pt bt] (A0++(frM bi br bt k v r.b++(jD r++F)))
   (fun _ H'=> ∃ A',H'=A'++(frM bi br bt k v r.b++(jD r++F))/\((∃ q,(wordsOf r.bs).length<=q/\J q A')\/E A')):=by
 have ok1:=ok.o
 have hn:=ok.n
 have hpl:=jfz (j:=k%64) bc
 have hp1:1<=2^(k%64):=Nat.one_le_two_pow
 have hm:(k:Int)%64=((k%64:Nat):Int):=by omega
 have hd:(k:Int)/64=((k/64:Nat):Int):=by omega
 have ha0:((2^(k%64):Nat):Int)-1=((jbQ k (k/64):Nat):Int):=by unfold jbQ;rw [if_pos rfl];omega
 have hwl:(wordsOf r.bs).length<=1024:=by rw[jaF];omega
 refine en4 37 Tryz.func386 ?_;simp only[jG,jfq]
 skip
 refine zg ?_;refine yr2 ?_;rw[hm];refine yr1 ?_;rw[jg1 (j:=k%64) bc];refine yr1 ?_;rw[ha0];refine yr3 ?_;refine zg ?_;refine yr2 ?_;rw[hd];refine yr4 ?_;refine K.loopT (σ:=FrS) [(0,_),(2,_),(3,_)] (fun s kp_=>(6, .int .i64 (s.q:Nat))::(5, .int .u64 (jbQ k s.q:Nat))::kp_) (fun s=>s.A++(frM bi br bt k v r.b++(jD r++F))) (fun s=>k/64<=s.q/\J s.q s.A) (fun s=>(wordsOf r.bs).length-s.q) (⟨k/64,A0⟩) jg bJ (⟨Nat.le_refl _,h0⟩) ?_;rintro⟨q,A⟩ ⟨hq,hJ⟩;dsimp only at hq hJ|-;simp only[jG,jfq]
 by_cases hlt:q<(wordsOf r.bs).length
 ·have hx:=jdr (bs:=r.bs) (k:=q) (by rw[jaF] at hlt;exact hlt)
  have hlw:=jeR r.bs q
  refine yr19 ?_;refine K.dr [] (od 0 [0,0,0,0,0,0,0,0,0,0,0,0,0,2,0]) Part.nil ?_;refine yr13 ?_;refine zj fun T hT=>?_;rw[xor_nat hlw (jgX v),jgE (xor_lt hlw (jgX v)) (jj6 k q)];refine(CallV.part (hy q A hq hlt hJ) bJ).mono ?_;rintro _ _ (⟨rfl,A',hJ',rfl⟩|⟨rfl,A',hE',rfl⟩)
  ·have h0':(0:Int)=((jbQ k (q+1):Nat):Int):=by unfold jbQ;rw [if_neg bc];rfl
   refine zf ?_;clear hT T;refine yr16 ?_;rw[show(Value.int .u64 0)=Value.int .u64 ((jbQ k (q+1):Nat):Int) from by rw[<-h0']];exact KE.again ⟨q+1,A'⟩ jg bJ ⟨by show k/64<=q+1;omega,hJ'⟩ (by show(wordsOf r.bs).length-(q+1)<(wordsOf r.bs).length-q;omega)
  ·refine zf ?_;clear hT T;refine yr10 ?_;exact KE.fin jd rfl jc bJ ⟨A',rfl, .inr hE'⟩
 ·refine yr17 ?_;exact KE.finN jd rfl jc bJ ⟨A,rfl, .inl ⟨q,by omega,hJ⟩⟩
theorem from_K {w0:World} {H:jb} {rb k:Nat} {v:Bool}:
  Call Tryz.prog w0 355 [pt rb, .int .i64 (k:Nat), .int .u64 (turnN v:Nat)] H
   (fun u H'=> ∃ bi br bt,u= .func (.func 386) #[] [pt bi,pt br,pt bt].toArray/\H'=frM bi br bt k v rb++H):=by
 refine en3 8 Tryz.func355 ?_;refine yr3 ?_;intro b3;refine yr1 ?_;intro b4;refine yr1 ?_;intro b5;refine yr10 ?_;exact KE.fin (H':=frM b4 b3 b5 k v rb++H) jd rfl jc (by rw[jfq];exact ja) ⟨b4,b3,b5,rfl,rfl⟩
def nxI (o:Option Nat):Int:=((o.getD 0:Nat):Int)
def NxJ (l D:Nat) (rc:Rec) (b7 b6 b3 rb:Nat) (bs:List Bool) (k:Nat) (v:Bool) (q:Nat) (A:jb):Prop:=
 A=[(l, .loop (rc .ready none)),(D, .deferred (some [])),(b7,cells [.bool false] 4),(b6,cells [.int .i64 0] 3),(b3,cells [pt rb] 154)]/\ ∀ j,k<=j->j<64*q->j<bs.length->(bs[j]?).getD false≠v
def NxE (l D:Nat) (rc:Rec) (b7 b6 b3 rb:Nat) (bs:List Bool) (k:Nat) (v:Bool) (A:jb):Prop:=
 ∃ i:Nat,nextB bs k v=some i/\A=[(l, .loop (rc .done (some .ret))),(D, .deferred (some [])),(b7,cells [.bool true] 4),(b6,cells [.int .i64 (i:Nat)] 3),(b3,cells [pt rb] 154)]
theorem jfF {w0:World} {F:jb} {r:jam} {k:Nat} {v:Bool} (ok:RowOk r) (hG:ju w0) (hk:k<=1000000):
  Call Tryz.prog w0 289 [pt r.b, .int .i64 (k:Nat), .bool v] (jD r++F)
   (fun u H'=>u= .tuple [.int .i64 (nxI (nextB r.bs k v)), .bool (nextB r.bs k v).isSome].toArray/\H'=jD r++F):=by
 have hmax:(if ((k:Nat):Int)<0 then(0:Int) else((k:Nat):Int))=((k:Nat):Int):=if_neg bc
 have hn:=ok.n
 have hwl:(wordsOf r.bs).length<=1024:=by rw[jaF];omega
 refine en3 36 Tryz.func289 ?_;refine yr3 ?_;intro b3;refine yr1 ?_;intro b6;refine yr1 ?_;intro b7;refine yr7 ?_;refine K.cutT (σ:=Unit) [(1,_),(3,_),(6,_),(7,_)] jg (fun s kp_=>(8, .int .u64 (turnN v:Nat))::kp_) (fun s=>(b7,cells [.bool false] 4)::(b6,cells [.int .i64 0] 3)::(b3,cells [pt r.b] 154)::(jD r++F)) (fun s=>True) ?_ ?_
 ·cases v with
  |true=>
   refine yr9 ?_;exact zak
  |false=>
   refine yr7 ?_;exact zak
 ·rintro _ _
  skip
  refine zg ?_;refine yr2 ?_;rw[hmax];refine yq8 fun T hT=>?_;refine(CallV.part (CallV.fn (has_K (r:=r) (i:=(k:Nat)))) ja).mono ?_;rintro _ _ ⟨rfl,rfl⟩
  by_cases hkl:k<r.bs.length
  ·rw[decide_eq_true (show 0<=((k:Nat):Int)/\((k:Nat):Int)<(r.bs.length:Nat) by omega)];refine ze ?_;clear hT T;refine yr13 ?_;refine Jx (from_K (rb:=r.b) (k:=k) (v:=v)) ?_;rintro _ _ ⟨bi,br,bt,rfl,rfl⟩;refine yr3 ?_;refine K.rangeFunc (lb:=[pt bi,pt br,pt bt]) rfl
    (fun D G=>G=(b7,cells [.bool false] 4)::(b6,cells [.int .i64 0] 3)::(b3,cells [pt r.b] 154)::(D, .deferred (some []))::(jD r++F)/\nextB r.bs k v=none)
    (fun D c G=>c= .ret/\ ∃ i:Nat,nextB r.bs k v=some i/\G=(b7,cells [.bool true] 4)::(b6,cells [.int .i64 (i:Nat)] 3)::(b3,cells [pt r.b] 154)::(D, .deferred (some []))::(jD r++F)) ?_ ?_ ?_
   ·intro l D rc hyl
    refine(Call.part (from1_K (F:=F) (r:=r) (k:=k) (v:=v) (bi:=bi) (br:=br) (bt:=bt) ok (NxJ l D rc b7 b6 b3 r.b r.bs k v) (NxE l D rc b7 b6 b3 r.b r.bs k v) bc
     (A0:=[(l, .loop (rc .ready none)),(D, .deferred (some [])),(b7,cells [.bool false] 4),(b6,cells [.int .i64 0] 3),(b3,cells [pt r.b] 154)]) ?_ ⟨rfl,fun j h1 h2=>by omega⟩) bM).mono ?_
    ·rintro q A hq hql ⟨rfl,hno⟩
     have hlw:=left_lt r.bs k v q
     obtain⟨w,hw⟩: ∃ w,w=leftN r.bs k v q:=⟨_,rfl⟩
     have hbit: ∀ t,t<64->w.testBit t=(((r.bs[64*q+t]?).getD false==v)&&decide (k<=64*q+t)):=fun t ht=>by rw[hw];exact left_bit hq ht
     rw[<-hw] at hlw|-;simp only[List.cons_append,List.nil_append];refine zbp ?_;refine zg ?_;refine yr2 ?_;refine zg ?_;refine yr2 ?_;refine KE.begin jK ?_;refine yr1 ?_
     by_cases hw0:w=0
     ·have hw0':(w:Int)=0:=by omega
      refine yr11 ?_;refine zbR ?_
      exact KE.roundN jx.head (.inl ⟨rfl,_,⟨rfl,fun j h1 h2 h3 hv=>by
       by_cases hj:j<64*q
       ·exact hno j h1 hj h3 hv
       ·have:=hbit (j-64*q) bc
        rw[hw0,show 64*q+(j-64*q)=j by omega,hv] at this
        simp at this;omega⟩,rfl⟩)
     ·have hw0': ¬(w:Int)=0:=by omega
      obtain⟨c1,c2,c3⟩:=ctz_bit hw0 hlw
      have hb:=hbit _ c1
      rw[c2] at hb;simp only[Bool.true_eq,Bool.and_eq_true,beq_iff_eq,decide_eq_true_eq] at hb;refine yq15 fun T hT=>?_;refine(CallV.fn (ctz_K hG hlw hw0)).mono ?_;rintro _ _ ⟨rfl,rfl⟩
      obtain⟨c,hc⟩: ∃ c,c=Lib.ctz 64 w:=⟨_,rfl⟩
      rw[<-hc] at c1 c2 c3 hb|-
      have hqc:(q:Int)*64+(c:Int)=((64*q+c:Nat):Int):=by omega
      refine ze ?_;clear hT T;refine yq8 fun T hT=>?_;rw[hqc];refine(CallV.part (CallV.fn (has_K (r:=r) (i:=((64*q+c:Nat):Int)))) ja).mono ?_;rintro _ _ ⟨rfl,rfl⟩
      have hlow: ∀ j,k<=j->j<64*q+c->j<r.bs.length->(r.bs[j]?).getD false≠v:=fun j h1 h2 h3 hv=>by
       by_cases hj:j<64*q
       ·exact hno j h1 hj h3 hv
       ·have h4:=c3 (j-64*q) bc
        have h5:=hbit (j-64*q) bc
        rw[h4,show 64*q+(j-64*q)=j by omega,hv] at h5
        simp at h5;omega
      by_cases hin:64*q+c<r.bs.length
      ·rw[decide_eq_true (show 0<=((64*q+c:Nat):Int)/\((64*q+c:Nat):Int)<(r.bs.length:Nat) by omega)];refine ze ?_;clear hT T;refine yr12 ?_;refine KE.part ((l, .loop (rc .busy none))::([(D, .deferred (some [])),(b7,cells [.bool true] 4),(b6,cells [.int .i64 ((64*q+c:Nat):Int)] 3),(b3,cells [pt r.b] 154)]++(frM bi br bt k v r.b++(jD r++F)))) (by simp only[List.cons_append,List.nil_append];rw [<-hqc];exact ja) ?_;exact KE.roundR jx.head (.inr ⟨rfl,_,⟨64*q+c,jlG hin hb.2 hb.1 fun j h1 h2=>hlow j h1 h2 bc,rfl⟩,rfl⟩)
      ·rw[decide_eq_false (show ¬(0<=((64*q+c:Nat):Int)/\((64*q+c:Nat):Int)<(r.bs.length:Nat)) by omega)];refine ze ?_;clear hT T;refine yr5 ?_;refine zbR ?_;exact KE.roundN jx.head (.inl ⟨rfl,_,⟨rfl,fun j h1 h2 h3=>hlow j h1 bc h3⟩,rfl⟩)
    ·rintro u H' ⟨A',rfl,(⟨q,hq,rfl,hno⟩|⟨i,hi,rfl⟩)⟩
     ·refine .inl ⟨_,?_,rfl,jh0 fun j h1 h2=>hno j h1 (by rw[jaF] at hq;omega) h2⟩;exact zaw
     ·refine .inr ⟨.ret,_,?_,rfl,i,hi,rfl⟩;exact zaw
   ·rintro D G ⟨rfl,hnx⟩;rw[hnx];refine yr9 ?_;exact zd
   ·rintro D c G ⟨rfl,i,hi,rfl⟩;rw[hi];refine yr3 ?_;exact zd
  ·rw[decide_eq_false (show ¬(0<=((k:Nat):Int)/\((k:Nat):Int)<(r.bs.length:Nat)) by omega)]
   have hnx:nextB r.bs k v=none:=jh0 fun j h1 h2=>by omega
   refine ze ?_;clear hT T;rw[hnx];refine yr12 ?_;exact zd
theorem jdW {a c p d:Nat} (ha:a<256) (hc:c<256):(a+256*p)&&&(c+256*d)=(a&&&c)+256*(p&&&d):=by
 have h1:(a&&&c)<2^8:=Nat.lt_of_le_of_lt Nat.and_le_left bc
 apply Nat.eq_of_testBit_eq
 intro t;rw[Nat.testBit_and,Nat.add_comm a,Nat.add_comm c,Nat.add_comm (a&&&c),show(256:Nat)=2^8 by decide,Nat.testBit_two_pow_mul_add _ bc,Nat.testBit_two_pow_mul_add _ bc,Nat.testBit_two_pow_mul_add _ h1]
 by_cases h:t<8
 ·simp[h]
 ·simp[h]
def rep (c:Nat):Nat->Nat
 |0=>0
 |n+1=>c+256*rep c n
def JO:List Nat->Nat
 | []=>0
 |b::l=>b+256*JO l
def f1 (b:Nat):Nat:=(b/2&&&85)+(b&&&85)
def f2 (b:Nat):Nat:=(b/4&&&51)+(b&&&51)
def f3 (b:Nat):Nat:=(b/16+b)&&&15
def g1 (n x:Nat):Nat:=(x/2&&&rep 85 n)+(x&&&rep 85 n)
def g2 (n x:Nat):Nat:=(x/4&&&rep 51 n)+(x&&&rep 51 n)
def g3 (n x:Nat):Nat:=(x/16+x)&&&rep 15 n
set_option maxRecDepth 100000 in
theorem h1: ∀ b,b<256-> ∀ e,e<2->(b/2+128*e)&&&85=b/2&&&85:=by decide+kernel
set_option maxRecDepth 100000 in
theorem h2: ∀ b,b<256-> ∀ e,e<4->(b/4+64*e)&&&51=b/4&&&51:=by decide+kernel
set_option maxRecDepth 100000 in
theorem h3: ∀ b,b<70-> ∀ e,e<5->(b/16+b+16*e)&&&15=(b/16+b)&&&15:=by decide+kernel
theorem g1_val: ∀ l:List Nat,(∀ b∈l,b<256)->g1 l.length (JO l)=JO (l.map f1)
 | [],_=>by simp[g1,JO,rep]
 |b::l,h=>by
  have hb:=h b (.head _)
  have ih:=g1_val l fun x hx=>h x (.tail _ hx)
  obtain⟨y,hy⟩: ∃ y,y=JO l:=⟨_,rfl⟩
  show(((b+256*JO l)/2)&&&(85+256*rep 85 l.length))+((b+256*JO l)&&&(85+256*rep 85 l.length))=f1 b+256*JO (l.map f1)
  rw[<-ih,<-hy,show(b+256*y)/2=(b/2+128*(y%2))+256*(y/2) by omega,jdW bc bc,jdW hb bc,h1 b hb (y%2) bc];unfold f1 g1;omega
theorem g2_val: ∀ l:List Nat,(∀ b∈l,b<256)->g2 l.length (JO l)=JO (l.map f2)
 | [],_=>by simp[g2,JO,rep]
 |b::l,h=>by
  have hb:=h b (.head _)
  have ih:=g2_val l fun x hx=>h x (.tail _ hx)
  obtain⟨y,hy⟩: ∃ y,y=JO l:=⟨_,rfl⟩
  show(((b+256*JO l)/4)&&&(51+256*rep 51 l.length))+((b+256*JO l)&&&(51+256*rep 51 l.length))=f2 b+256*JO (l.map f2)
  rw[<-ih,<-hy,show(b+256*y)/4=(b/4+64*(y%4))+256*(y/4) by omega,jdW bc bc,jdW hb bc,h2 b hb (y%4) bc];unfold f2 g2;omega
theorem valB_mod: ∀ l:List Nat,(∀ b∈l,b<70/\b%16<5)->JO l%16<5
 | [],_=>by simp[JO]
 |b::l,h=>by
  have:=(h b (.head _)).2
  show(b+256*JO l)%16<5
  omega
theorem g3_val: ∀ l:List Nat,(∀ b∈l,b<70/\b%16<5)->g3 l.length (JO l)=JO (l.map f3)
 | [],_=>by simp[g3,JO,rep]
 |b::l,h=>by
  have hb:=h b (.head _)
  have ih:=g3_val l fun x hx=>h x (.tail _ hx)
  have hm:=valB_mod l fun x hx=>h x (.tail _ hx)
  obtain⟨y,hy⟩: ∃ y,y=JO l:=⟨_,rfl⟩
  show(((b+256*JO l)/16+(b+256*JO l))&&&(15+256*rep 15 l.length))=f3 b+256*JO (l.map f3)
  rw[<-ih,<-hy];rw[<-hy] at hm;rw[show(b+256*y)/16+(b+256*y)=(b/16+b+16*(y%16))+256*(y/16+y) by omega,jdW bc bc,h3 b hb.1 (y%16) hm]
  rfl
theorem dv {p q:Nat} (h:p<256):(p+256*q)/256=q:=by omega
theorem ad {a b x y:Nat}:(a+256*x)+(b+256*y)=(a+b)+256*(x+y):=by omega
theorem ja9 {a x m:Nat} (ha:a<256) (hx:x<m):a+256*x<256*m:=by omega
theorem tail_sum {p0 p1 p2 p3 p4 p5 p6 p7 v a b c:Nat} (h0:p0<=8) (h1:p1<=8) (h2:p2<=8) (h3:p3<=8) (h4:p4<=8) (h5:p5<=8) (h6:p6<=8) (h7:p7<=8)
  (hv:v=p0+256*(p1+256*(p2+256*(p3+256*(p4+256*(p5+256*(p6+256*p7)))))))
  (ha:a=v+v/256) (hb:b=a+a/65536) (hc:c=b+b/4294967296):c%128=p0+p1+p2+p3+p4+p5+p6+p7/\a<18446744073709551616/\b<18446744073709551616/\c<648518346341351424:=by
 have e1:v/256=p1+256*(p2+256*(p3+256*(p4+256*(p5+256*(p6+256*p7))))):=by rw[hv];exact dv bc
 have z1: ∀ x:Nat,x+256*0=x:=fun x=>by omega
 have ea:a=(p0+p1)+256*((p1+p2)+256*((p2+p3)+256*((p3+p4)+256*((p4+p5)+256*((p5+p6)+256*((p6+p7)+256*p7)))))):=by
  rw[ha,e1,hv,ad,ad,ad,ad,ad,ad]
  congr 7;omega
 clear ha hv e1
 have e2:a/65536=(p2+p3)+256*((p3+p4)+256*((p4+p5)+256*((p5+p6)+256*((p6+p7)+256*p7)))):=by
  rw[show(65536:Nat)=256*256 by decide,<-Nat.div_div_eq_div_mul,ea,dv bc,dv bc]
 have eb:b=(p0+p1+(p2+p3))+256*((p1+p2+(p3+p4))+256*((p2+p3+(p4+p5))+256*((p3+p4+(p5+p6))+256*((p4+p5+(p6+p7))+256*((p5+p6+p7)+256*((p6+p7)+256*p7)))))):=by
  rw[hb,e2,ea,ad,ad,ad,ad,ad]
  congr 6;omega
 have la:a<18446744073709551616:=by
  rw[ea];exact zbS
 clear hb e2 ea
 have e3:b/4294967296=(p4+p5+(p6+p7))+256*((p5+p6+p7)+256*((p6+p7)+256*p7)):=by
  rw[show(4294967296:Nat)=256*256*256*256 by decide,<-Nat.div_div_eq_div_mul,<-Nat.div_div_eq_div_mul,<-Nat.div_div_eq_div_mul,eb,dv bc,dv bc,dv bc,dv bc]
 have ec:c=(p0+p1+(p2+p3)+(p4+p5+(p6+p7)))+256*((p1+p2+(p3+p4)+(p5+p6+p7))+256*((p2+p3+(p4+p5)+(p6+p7))+256*((p3+p4+(p5+p6)+p7)+256*((p4+p5+(p6+p7))+256*((p5+p6+p7)+256*((p6+p7)+256*p7)))))):=by
  rw[hc,e3,eb,ad,ad,ad]
  congr 4;omega
 have lb:b<18446744073709551616:=by
  rw[eb];exact zbS
 clear hc e3 eb;refine⟨?_,la,lb,?_⟩
 ·rw[ec]
  generalize (p1+p2+(p3+p4)+(p5+p6+p7))+256*((p2+p3+(p4+p5)+(p6+p7))+256*((p3+p4+(p5+p6)+p7)+256*((p4+p5+(p6+p7))+256*((p5+p6+p7)+256*((p6+p7)+256*p7)))))=z
  omega
 ·rw[ec];exact ja9 (m:=2533274790395904) bc (ja9 (m:=9895604649984) bc (ja9 (m:=38654705664) bc (ja9 (m:=150994944) bc (ja9 (m:=589824) bc (ja9 (m:=2304) bc (ja9 (m:=9) bc bc))))))
set_option maxRecDepth 100000 in
theorem jhm: ∀ b,b<256->f1 b<256/\f2 (f1 b)<70/\f2 (f1 b)%16<5/\f3 (f2 (f1 b))<=8:=by decide+kernel
theorem byte_pop: ∀ b0 b1 b2 b3 b4 b5 b6 b7:Bool,f3 (f2 (f1 (bitsN [b0,b1,b2,b3,b4,b5,b6,b7])))=[b0,b1,b2,b3,b4,b5,b6,b7].count true:=by decide+kernel
theorem jjZ: ∀ (n:Nat) (l:List Bool),l.length=8*n-> ∃ bl:List Nat,bl.length=n/\(∀ b∈bl,b<256)/\JO bl=bitsN l/\(bl.map fun b=>f3 (f2 (f1 b))).sum=l.count true
 |0,l,h=>by
  have:l=[]:=List.length_eq_zero_iff.1 bc
  subst this;exact⟨[],rfl,by simp,rfl,rfl⟩
 |n+1,l,h=>by
  match l,h with
  |b0::b1::b2::b3::b4::b5::b6::b7::r,h=>
   obtain⟨bl,e1,e2,e3,e4⟩:=jjZ n r (by simp only[List.length_cons] at h;omega)
   refine⟨bitsN [b0,b1,b2,b3,b4,b5,b6,b7]::bl,by simp[e1],fun b hb=>?_,?_,?_⟩
   ·rcases List.mem_cons.1 hb with rfl|hb
    ·have h8:=jfd [b0,b1,b2,b3,b4,b5,b6,b7]
     rw[show([b0,b1,b2,b3,b4,b5,b6,b7]:List Bool).length=8 from rfl,show 2^8=256 by decide] at h8;exact h8
    ·exact e2 b hb
   ·show bitsN [b0,b1,b2,b3,b4,b5,b6,b7]+256*JO bl=_
    rw[e3];simp only[bitsN]
    omega
   ·rw[List.map_cons,List.sum_cons,e4,byte_pop]
    have:b0::b1::b2::b3::b4::b5::b6::b7::r=[b0,b1,b2,b3,b4,b5,b6,b7]++r:=rfl
    rw[this,List.count_append]
  | [],h=>simp at h
  | [_],h=>simp only[List.length_cons,List.length_nil] at h;omega
  | [_,_],h=>simp only[List.length_cons,List.length_nil] at h;omega
  | [_,_,_],h=>simp only[List.length_cons,List.length_nil] at h;omega
  | [_,_,_,_],h=>simp only[List.length_cons,List.length_nil] at h;omega
  | [_,_,_,_,_],h=>simp only[List.length_cons,List.length_nil] at h;omega
  | [_,_,_,_,_,_],h=>simp only[List.length_cons,List.length_nil] at h;omega
  | [_,_,_,_,_,_,_],h=>simp only[List.length_cons,List.length_nil] at h;omega
theorem bitsN_pad (l:List Bool) (n:Nat):bitsN (l++List.replicate n false)=bitsN l:=by
 apply Nat.eq_of_testBit_eq
 intro t;rw[jeQ,jeQ,List.getElem?_append]
 split
 ·rfl
 ·rename_i h
  rw[List.getElem?_replicate,List.getElem?_eq_none bc]
  split<;>rfl
theorem pop_law {l:List Bool} (hl:l.length<=64) {x a b c:Nat} (hx:x=g3 8 (g2 8 (g1 8 (bitsN l)))) (ha:a=x+x/256) (hb:b=a+a/65536) (hc:c=b+b/4294967296):
  c%128=l.count true/\a<18446744073709551616/\b<18446744073709551616/\c<648518346341351424:=by
 obtain⟨bl,e1,e2,e3,e4⟩:=jjZ 8 (l++List.replicate (64-l.length) false) (by simp;omega)
 rw[bitsN_pad] at e3;rw[List.count_append,show(List.replicate (64-l.length) false).count true=0 by rw[List.count_replicate];rfl,Nat.add_zero] at e4
 have b1: ∀ y∈bl.map f1,y<256:=fun y hy=>by
  obtain⟨q,hq,rfl⟩:=List.mem_map.1 hy
  exact(jhm q (e2 q hq)).1
 have b2: ∀ y∈(bl.map f1).map f2,y<70/\y%16<5:=fun y hy=>by
  rw[List.map_map] at hy
  obtain⟨q,hq,rfl⟩:=List.mem_map.1 hy
  have:=jhm q (e2 q hq)
  exact⟨this.2.1,this.2.2.1⟩
 have hx':x=JO (((bl.map f1).map f2).map f3):=by
  rw[hx,<-e3]
  have q1:=g1_val bl e2
  rw[e1] at q1
  have q2:=g2_val (bl.map f1) b1
  rw[List.length_map,e1] at q2
  have q3:=g3_val ((bl.map f1).map f2) b2
  rw[List.length_map,List.length_map,e1] at q3;rw[q1,q2,q3]
 rw[List.map_map,List.map_map] at hx';rw[<-e4]
 match bl,e1,e2 with
 | [p0,p1,p2,p3,p4,p5,p6,p7],_,e2=>
  have k:=fun q hq=>(jhm q (e2 q hq)).2.2.2
  have:=tail_sum (k p0 bF) (k p1 bF) (k p2 bF) (k p3 bF) (k p4 bF) (k p5 bF) (k p6 bF) (k p7 bF) (v:=x) (by rw[hx'];simp[JO]) ha hb hc
  refine⟨?_,this.2⟩;rw[this.1];simp only[List.map_cons,List.map_nil,List.sum_cons,List.sum_nil]
  omega
theorem rep_85:rep 85 8=6148914691236517205:=by decide+kernel
theorem rep_51:rep 51 8=3689348814741910323:=by decide+kernel
theorem rep_15:rep 15 8=1085102592571150095:=by decide+kernel
theorem fmask {n:Nat} (h1:1<=n) (h:n<=64):18446744073709551615/2^(64-n)=2^n-1:=by
 have e:(18446744073709551616:Nat)=2^n*2^(64-n):=by rw[<-Nat.pow_add,show n+(64-n)=64 by omega]
 have hp:0<2^(64-n):=Nat.two_pow_pos _
 have hq:0<2^n:=Nat.two_pow_pos _
 rw[show(18446744073709551615:Nat)=2^n*2^(64-n)-1 by omega];rw[Nat.div_eq_iff hp]
 obtain⟨m,hm⟩: ∃ m,2^n=m+1:=⟨2^n-1,by omega⟩
 rw[hm,Nat.succ_mul,show m+1-1=m by omega]
 omega
theorem jiP {x n:Nat} (hx:x<18446744073709551616) (h:x<2^n):Lib.bitLen x<=n:=by
 rcases Nat.lt_or_ge 63 n with h64|h64
 ·have: ∀ f y,Lib.bitLenAux f y<=f:=fun f=>by
   induction f with
   |zero=>intro y;simp[Lib.bitLenAux]
   |succ f ih=>intro y;unfold Lib.bitLenAux;split;omega;have:=ih (y/2);omega
  have:=this 64 x
  unfold Lib.bitLen;omega
 ·have: ∀ n f y,y<2^n->Lib.bitLenAux f y<=n:=fun n=>by
   induction n with
   |zero=>
    intro f y hy
    have:y=0:=by simpa using hy
    subst this
    cases f<;>simp[Lib.bitLenAux]
   |succ n ih=>
    intro f y hy
    cases f with
    |zero=>simp[Lib.bitLenAux]
    |succ f=>
     unfold Lib.bitLenAux
     split
     ·omega
     ·have:=ih f (y/2) (by rw[Nat.pow_succ] at hy;omega);omega
  exact this n 64 x h
theorem less_high {w a n:Nat} (hw:w<2^a) (h:n+a<=64) (hn:(2^n-1)*2^a<18446744073709551616):lessN w ((2^n-1)*2^a)=w:=by
 apply Nat.eq_of_testBit_eq
 intro t;rw[jgi hn,Nat.testBit_mul_two_pow]
 by_cases ht:t<a
 ·simp[show ¬a<=t by omega,show t<64 by omega]
 ·rw[Nat.testBit_lt_two_pow (Nat.lt_of_lt_of_le hw (Nat.pow_le_pow_right bc bc))];simp
theorem or_high {w a v:Nat} (hw:w<2^a):w|||v*2^a=w+v*2^a:=by
 rw[Nat.mul_comm,Nat.or_comm,<-Nat.two_pow_add_eq_or_of_lt hw,Nat.add_comm]
theorem jha {a n:Nat} (h:n+a<=64):(2^n-1)*2^a<18446744073709551616:=by
 have e:2^n*2^a<=2^64:=by rw[<-Nat.pow_add];exact Nat.pow_le_pow_right bc h
 have hq:0<2^n:=Nat.two_pow_pos _
 have hp:0<2^a:=Nat.two_pow_pos _
 have:(2^n-1)*2^a+2^a=2^n*2^a:=by
  obtain⟨m,hm⟩: ∃ m,2^n=m+1:=⟨2^n-1,by omega⟩
  rw[hm,show m+1-1=m by omega,Nat.succ_mul]
 omega
theorem val_lt {a n v:Nat} (h:n+a<=64) (hv:v<2^n):v*2^a<18446744073709551616:=by
 have h1:v*2^a<=(2^n-1)*2^a:=Nat.mul_le_mul_right _ bc
 have:=jha h
 omega
theorem jea {b j:Nat} (hj:j<64) (h:b*2^j<18446744073709551616):IntKind.u64.wrap ((b:Int)*2^(min (Int.toNat (j:Int)) IntKind.u64.bits))=((b*2^j:Nat):Int):=by
 have e:min (Int.toNat (j:Int)) IntKind.u64.bits=j:=by
  exact zbQ
 rw[e,show(b:Int)*2^j=((b*2^j:Nat):Int) by simp];exact jdx h
def jbB:Int->List Int->Bool
 |_,[]=>true
 |a,x::l=>decide (a<x)&&jbB x l
def Jk (l:List Int):Bool:=decide (1<=l.length)&&decide (l.length<=8)&&decide ((l.getLast?).getD 65<=64)&&jbB 1 l
def jaX (b:Bool) (e:Int):Int:=if b then 0 else e
structure CkS where
 k:Nat
 last:Int
set_option maxRecDepth 10000 in
theorem Check_K {w0:World} {H:jb} {v:Value} {l:List Int} (hS:Sli w0 H iE v l) (hl:l.length<=140737488355328):
  Cs w0 149 [v] H (.int .i64 (jaX (Jk l) 2)):=by
 refine en1 34 Tryz.func149 ?_
 by_cases h1:l.length<1
 ·have hc:Jk l=false:=by simp[Jk];omega
  have h1':((l.length:Nat):Int)<1:=by omega
  refine yr35 ?_;exact zH
 by_cases h8:8<l.length
 ·have hc:Jk l=false:=by simp[Jk];omega
  refine yr35 ?_;exact zH
 obtain⟨z,hz⟩:=jq (l:=l) (k:=l.length-1) bc
 have hzl:l.getLast?=some z:=by rw[List.getLast?_eq_getElem?];exact hz
 have hz':l[(((l.length:Nat):Int)-1).toNat]?=some z:=by rw[show(((l.length:Nat):Int)-1).toNat=l.length-1 by omega];exact hz
 by_cases h64:z>64
 ·have hc:Jk l=false:=by simp[Jk,hzl];omega
  refine yr35 ?_;exact zH
 have hcr:Jk l=jbB 1 l:=by simp[Jk,hzl];omega
 refine yr44 ?_;refine K.loopT (σ:=CkS) [(23,_),(24,_)] (fun s kp_=>(25, .int .i64 (s.k:Nat))::(3, .int .i64 s.last)::kp_) (fun s=>H) (fun s=>s.k<=l.length/\jbB 1 l=jbB s.last (l.drop s.k)) (fun s=>l.length-s.k) (⟨0,1⟩) jg ja (⟨by simp,by simp⟩) ?_;rintro⟨k,last⟩ ⟨hk,hr⟩;dsimp only at hk hr|-
 by_cases hlt:k<l.length
 ·obtain⟨x,hx⟩:=jq hlt
  have hd:l.drop k=x::l.drop (k+1):=by
   obtain⟨h1,e⟩:=List.getElem?_eq_some_iff.1 hx
   rw[List.drop_eq_getElem_cons h1,e]
  rw[hd] at hr;simp only[jbB] at hr
  by_cases hxl:x<=last
  ·have hc:Jk l=false:=by rw[hcr,hr];simp;omega
   refine yr39 ?_;exact zH
  ·rw[decide_eq_true (show last<x by omega),Bool.true_and] at hr;refine yr39 ?_;exact KE.again ⟨k+1,x⟩ jg ja ⟨by show k+1<=_;omega,hr⟩ bQ
 ·have hc:Jk l=true:=by rw[hcr,hr,List.drop_of_length_le bc];rfl
  refine yr18 ?_;exact zH
def jan:List Int->Bool
 |a::b::c::l=>decide (a<=b)&&(decide (b<=c)&&jan l)
 |_=>true
structure WiS where
 k:Nat
theorem jgr {w0:World} {H:jb} {v:Value} {l:List Int} {n:Nat} (hS:Sli w0 H iE v l) (hl:l.length=3*n) (hn:n<=140737488355328):
  Cs w0 151 [v] H (.bool (jan l)):=by
 refine en1 34 Tryz.func151 ?_;refine yr12 ?_;refine K.loopT (σ:=WiS) [(0,_)] (fun s kp_=>(3, .int .i64 ((3*s.k:Nat):Int))::kp_) (fun s=>H) (fun s=>s.k<=n/\jan l=jan (l.drop (3*s.k))) (fun s=>n-s.k) (⟨0⟩) jg ja (⟨by simp,by simp⟩) ?_;rintro⟨k⟩ ⟨hk,hr⟩;dsimp only at hk hr|-
 by_cases hlt:k<n
 ·obtain⟨a,ha⟩:=jq (l:=l) (k:=3*k) bc
  obtain⟨b,hb⟩:=jq (l:=l) (k:=3*k+1) bc
  obtain⟨c,hc⟩:=jq (l:=l) (k:=3*k+2) bc
  have hd:l.drop (3*k)=a::b::c::l.drop (3*(k+1)):=by
   obtain⟨h1,e1⟩:=List.getElem?_eq_some_iff.1 ha
   obtain⟨h2,e2⟩:=List.getElem?_eq_some_iff.1 hb
   obtain⟨h3,e3⟩:=List.getElem?_eq_some_iff.1 hc
   rw[List.drop_eq_getElem_cons h1,List.drop_eq_getElem_cons h2,List.drop_eq_getElem_cons h3,e1,e2,e3]
   rfl
  rw[hd] at hr;simp only[jan] at hr
  by_cases hab:b<a
  ·have hf:jan l=false:=by rw[hr,decide_eq_false (show ¬a<=b by omega)];rfl
   refine yr16 ?_;refine zbq ?_;refine yr37 ?_;exact zn
  by_cases hbc:b>c
  ·have hf:jan l=false:=by rw[hr,decide_eq_false (show ¬b<=c by omega),Bool.false_and,Bool.and_false]
   refine yr16 ?_;refine zbq ?_;refine yr37 ?_;exact zn
  rw[decide_eq_true (show a<=b by omega),decide_eq_true (show b<=c by omega),Bool.true_and,Bool.true_and] at hr;refine yr16 ?_;refine zbq ?_;refine yr34 ?_;exact KE.again ⟨k+1⟩ jg ja ⟨by show k+1<=_;omega,hr⟩ (by show n-(k+1)<n-k;omega)
 ·have hf:jan l=true:=by rw[hr,List.drop_of_length_le bc];rfl
  refine yr22 ?_;exact zn
theorem jc0: ∀ {l:List Int} {a:Int},jbB a l=true->(∀ x∈l,a<x)/\l.Pairwise (· < ·)
 | [],a,_=>⟨by simp,List.Pairwise.nil⟩
 |x::l,a,h=>by
  simp only[jbB,Bool.and_eq_true,decide_eq_true_eq] at h
  obtain⟨h1,h2⟩:=jc0 h.2
  refine⟨fun y hy=>?_,List.pairwise_cons.2 ⟨h1,h2⟩⟩
  rcases List.mem_cons.1 hy with rfl|hy
  ·exact h.1
  ·have:=h1 y hy;omega
theorem jfZ {l:List Int} (h:Jk l=true) {i j:Nat} {x y:Int} (hij:i<=j) (hx:l[i]?=some x) (hy:l[j]?=some y):x<=y:=by
 simp only[Jk,Bool.and_eq_true] at h
 have hp:=(jc0 h.2).2
 rcases Nat.lt_or_ge i j with h1|h1
 ·obtain⟨g1,e1⟩:=List.getElem?_eq_some_iff.1 hx
  obtain⟨g2,e2⟩:=List.getElem?_eq_some_iff.1 hy
  have:=List.pairwise_iff_getElem.1 hp i j g1 g2 h1
  rw[e1,e2] at this
  omega
 ·have:i=j:=by omega
  subst this;rw[hx] at hy;cases hy;omega
structure SeS where
 i:Nat
 j:Nat
set_option maxRecDepth 10000 in
theorem jka {w0:World} {H:jb} {fv:Value} {n:Nat} (p:Nat->Bool) (hn:n<=140737488355328) (hmono: ∀ i j,i<=j->j<n->p i=true->p j=true)
  (hy: ∀ i,i<n->CallV Tryz.prog w0 fv [.int .i64 (i:Nat)] H (fun r H'=>r= .bool (p i)/\H'=H)):
  Call Tryz.prog w0 283 [.int .i64 (n:Nat),fv] H (fun r H'=> ∃ i:Nat,i<=n/\(∀ j,j<i->p j=false)/\(∀ j,i<=j->j<n->p j=true)/\r= .int .i64 (i:Nat)/\H'=H):=by
 refine en2 26 Tryz.func283 ?_;refine yr14 ?_;refine K.loopT (σ:=SeS) [(1,_)] (fun s kp_=>(5, .int .i64 (s.i:Nat))::(6, .int .i64 (s.j:Nat))::kp_) (fun s=>H) (fun s=>s.i<=s.j/\s.j<=n/\(∀ q,q<s.i->p q=false)/\(∀ q,s.j<=q->q<n->p q=true)) (fun s=>s.j-s.i) (⟨0,n⟩) jg ja (⟨by simp,by simp,fun q hq=>by simp at hq,fun q h1 h2=>by dsimp only at h1;omega⟩) ?_;rintro⟨i,j⟩ ⟨hij,hjn,hlo,hhi⟩;dsimp only at hij hjn hlo hhi|-
 by_cases hlt:i<j
 ·have hmid:IntKind.i64.wrap (((i:Int)+(j:Int)).fdiv (2^min (Int.toNat 1) IntKind.u64.bits))=(((i+j)/2:Nat):Int):=by
   have e:(2:Int)^min (Int.toNat 1) IntKind.u64.bits=2:=by decide
   rw[e]
   have e2:((i:Int)+(j:Int)).fdiv 2=(((i+j)/2:Nat):Int):=by
    rw[Int.fdiv_eq_ediv_of_nonneg _ bc];omega
   rw[e2];exact jda (by simp only[qL,qH];omega)
  obtain⟨h,hh⟩: ∃ h,h=(i+j)/2:=⟨_,rfl⟩
  rw[<-hh] at hmid
  have hih:i<=h:=by omega
  have hhj:h<j:=by omega
  refine yq27 fun T hT=>?_;rw[hmid] at hT|-;refine(hy h bc).mono ?_;rintro _ _ ⟨rfl,rfl⟩
  cases hp:p h with
  |true=>
   refine ze ?_;clear hT T;refine yr9 ?_;exact KE.again ⟨i,h⟩ jg ja ⟨hih,by dsimp only;omega,hlo,fun q h1 h2=>hmono h q h1 h2 hp⟩ (by show h-i<j-i;omega)
  |false=>
   have hlo2: ∀ q,q<h+1->p q=false:=by
    intro q hq
    cases hpq:p q with
    |false=>rfl
    |true=>
     have:=hmono q h bc bc hpq
     rw[hp] at this
     cases this
   refine ze ?_;clear hT T;refine yr10 ?_;exact KE.again ⟨h+1,j⟩ jg ja ⟨by dsimp only;omega,hjn,hlo2,hhi⟩ (by show j-(h+1)<j-i;omega)
 ·have:i=j:=by omega
  subst this;refine yr21 ?_;exact KE.fin jd rfl jc ja ⟨i,by omega,hlo,hhi,rfl,rfl⟩
structure MxS where
 k:Nat
 z:Int
theorem Max_K {w0:World} {H:jb} {v:Value} {l:List Int} {top:Int} (hS:Sli w0 H iE v l) (hl:l.length<=140737488355328) (ht:l.getLast?=some top) (hr:l.Pairwise (· < ·)):
  Cs w0 150 [v] H (.int .i64 top):=by
 have h0:0<l.length:=by
  cases l with
  |nil=>cases ht
  |cons x l=>simp
 obtain⟨z,hz⟩:=jq (l:=l) (k:=0) h0
 have hz':l[Int.toNat 0]?=some z:=hz
 refine en1 25 Tryz.func150 ?_;refine yr31 ?_;refine K.loopT (σ:=MxS) [(0,_)] (fun s kp_=>(4, .int .i64 (s.k:Nat))::(3, .int .i64 s.z)::kp_) (fun s=>H) (fun s=>1<=s.k/\s.k<=l.length/\l[s.k-1]?=some s.z) (fun s=>l.length-s.k) (⟨1,z⟩) jg ja (⟨by simp,by show 1<=_;omega,hz⟩) ?_;rintro⟨k,m⟩ ⟨hk1,hk,hm⟩;dsimp only at hk1 hk hm|-
 by_cases hlt:k<l.length
 ·obtain⟨x,hx⟩:=jq hlt
  have hmx:m<x:=by
   obtain⟨g1,e1⟩:=List.getElem?_eq_some_iff.1 hm
   obtain⟨g2,e2⟩:=List.getElem?_eq_some_iff.1 hx
   have:=List.pairwise_iff_getElem.1 hr (k-1) k g1 g2 bc
   rw[e1,e2] at this;exact this
  refine yr30 ?_;exact KE.again ⟨k+1,if m<x then x else m⟩ jg ja ⟨by show 1<=k+1;omega,by show k+1<=_;omega,by show l[k+1-1]?=some (if m<x then x else m);rw [if_pos hmx];exact hx⟩ bQ
 ·have hke:k=l.length:=by omega
  have hmt:m=top:=by
   rw[List.getLast?_eq_getElem?,<-hke,hm] at ht
   cases ht;rfl
  refine yr22 ?_;exact KE.fin jd rfl jc ja ⟨by rw[hmt];rfl,rfl⟩
def jz (n:Nat->Nat):Nat->Nat
 |0=>0
 |k+1=>jz n k+n k
def cutL {β:Type} (n:Nat->Nat) (f:Nat->Nat->β):Nat->List β
 |0=> []
 |m+1=>cutL n f m++(List.range (n m)).map (f m)
section
variable {β : Type} {n : Nat -> Nat} {f : Nat -> Nat -> β}
theorem jbO: ∀ m,(cutL n f m).length=jz n m
 |0=>rfl
 |m+1=>by simp[cutL,jz,jbO m]
theorem jgn {k m:Nat} (h:k<=m):jz n k<=jz n m:=by
  induction m with
  | zero => have : k = 0 := by omega
            subst this;exact Nat.le_refl _
  |succ m ih=>
    by_cases hk:k=m+1
    ·subst hk;exact Nat.le_refl _
    ·have:=ih bc;simp only[jz];omega
theorem jbL {k m:Nat} (h:k<m):jz n k+n k<=jz n m:=jgn (n:=n) (show k+1<=m from h)
theorem jd8 {k d:Nat}: ∀ {m:Nat},k<m->d<n k->(cutL n f m)[jz n k+d]?=some (f k d)
 |m+1,hk,hd=>by
  rw[cutL]
  by_cases h:k=m
  ·subst h;rw[List.getElem?_append_right (by rw[jbO];omega),jbO,Nat.add_sub_cancel_left,List.getElem?_map,List.getElem?_range hd];rfl
  ·have:=jbL (n:=n) (show k<m by omega)
   rw[List.getElem?_append_left (by rw[jbO];omega)];exact jd8 bc hd
theorem jfc {i:Nat}: ∀ {m:Nat},i<jz n m-> ∃ k d,k<m/\d<n k/\i=jz n k+d
 |0,h=>by simp[jz] at h
 |m+1,h=>by
  by_cases h1:i<jz n m
  ·obtain⟨k,d,hk,hd,e⟩:=jfc h1
   exact⟨k,d,by omega,hd,e⟩
  ·simp only[jz] at h;exact⟨m,i-jz n m,by omega,by omega,by omega⟩
theorem cut_at {m i:Nat} {x:β} (h:(cutL n f m)[i]?=some x): ∃ k d,k<m/\d<n k/\i=jz n k+d/\x=f k d:=by
 have hi:i<jz n m:=by have:=(List.getElem?_eq_some_iff.1 h).1;rwa[jbO] at this
 obtain⟨k,d,hk,hd,rfl⟩:=jfc hi
 rw[jd8 hk hd] at h
 cases h
 exact⟨k,d,hk,hd,rfl,rfl⟩
theorem jjW {k d k' d':Nat} (hd:d<n k) (hd':d'<n k') (h:jz n k+d=jz n k'+d'):k=k'/\d=d':=by
 rcases Nat.lt_trichotomy k k' with h1|h1|h1
 ·have:=jbL (n:=n) h1;omega
 ·subst h1;omega
 ·have:=jbL (n:=n) h1;omega
end
structure PlG where
 cl:List Nat
 pg:Nat
 q:Nat
namespace PlG
def y (g:PlG) (k:Nat):Nat:=g.cl.getD k 0
def n (g:PlG) (k:Nat):Nat:=g.q/g.y k
def per (g:PlG) (k:Nat):Nat:=g.pg/g.y k
def pgs (g:PlG) (k:Nat):Nat:=(g.n k+g.per k-1)/g.per k
def m (g:PlG):Nat:=g.cl.length
def first (g:PlG) (k:Nat):Nat:=jz g.n k
def page (g:PlG) (k:Nat):Nat:=jz g.pgs k
def slots (g:PlG):Nat:=g.first g.m
def pages (g:PlG):Nat:=g.page g.m
def words (g:PlG):Nat:=g.pages*g.pg
end PlG
structure jn where
 cls:Nat
 size:Nat
 addr:Nat
 page:Nat
structure jdo where
 size:Nat
 first:Nat
 many:Nat
 page:Nat
 per:Nat
namespace PlG
def sl (g:PlG) (k d:Nat):jn:=⟨k,g.y k,(g.page k+d/g.per k)*g.pg+d%g.per k*g.y k,g.page k+d/g.per k⟩
def L (g:PlG):List jn:=cutL g.n g.sl g.m
def pt (g:PlG) (k:Nat):jdo:=⟨g.y k,g.first k,g.n k,g.page k,g.per k⟩
def parts (g:PlG):List jdo:=(List.range g.m).map g.pt
end PlG
structure jh (g:PlG):Prop where
 m:1<=g.m/\g.m<=8
 y: ∀ k,k<g.m->2<=g.y k/\g.y k<=g.pg/\g.y k<=g.q
 pg:g.pg<=64
 q:g.q<=4096
section
variable {g : PlG}
theorem jh.n (ok:jh g) {k:Nat} (hk:k<g.m):1<=g.n k/\g.n k<=2048:=by
 obtain⟨h1,h2,h3⟩:=ok.y k hk
 have:=ok.q
 refine zbr ?_;unfold PlG.n;exact Nat.le_trans (Nat.div_le_div_left h1 bc) bc
theorem jh.per (ok:jh g) {k:Nat} (hk:k<g.m):1<=g.per k/\g.per k<=32:=by
 obtain⟨h1,h2,h3⟩:=ok.y k hk
 have:=ok.pg
 refine zbr ?_;unfold PlG.per;exact Nat.le_trans (Nat.div_le_div_left h1 bc) bc
theorem jh.pgs (ok:jh g) {k:Nat} (hk:k<g.m):1<=g.pgs k/\g.pgs k<=g.n k:=by
 have h1:=ok.n hk
 have h2:=ok.per hk
 refine zbr ?_;unfold PlG.pgs
 obtain⟨a,ha⟩: ∃ a,g.n k=a+1:=⟨g.n k-1,by omega⟩
 obtain⟨b,hb⟩: ∃ b,g.per k=b+1:=⟨g.per k-1,by omega⟩
 rw[ha,hb];refine Nat.div_le_of_le_mul ?_;rw[Nat.add_mul];simp only[Nat.mul_add];omega
theorem cum_le {f:Nat->Nat} {B:Nat}: ∀ {m:Nat},(∀ k,k<m->f k<=B)->jz f m<=m*B
 |0,_=>by simp[jz]
 |m+1,h=>by
  have h1:=cum_le (m:=m) (fun k hk=>h k bc)
  have h2:=h m bc
  simp only[jz,Nat.succ_mul];omega
theorem jh.first (ok:jh g) {k:Nat} (hk:k<=g.m):g.first k<=16384:=by
 have h:=cum_le (f:=g.n) (B:=2048) (m:=k) (fun j hj=>(ok.n bc).2)
 have:=ok.m
 unfold PlG.first;omega
theorem jh.page (ok:jh g) {k:Nat} (hk:k<=g.m):g.page k<=16384:=by
 have h:=cum_le (f:=g.pgs) (B:=2048) (m:=k) (fun j hj=>Nat.le_trans (ok.pgs bc).2 (ok.n bc).2)
 have:=ok.m
 unfold PlG.page;omega
theorem jh.slots (ok:jh g):1<=g.slots/\g.slots<=16384:=by
 refine⟨?_,ok.first (Nat.le_refl _)⟩
 have h:=jbL (n:=g.n) (k:=0) (m:=g.m) Bq
 have:=(ok.n (k:=0) Bq).1
 unfold PlG.slots PlG.first;omega
theorem jh.pages (ok:jh g):1<=g.pages/\g.pages<=16384:=by
 refine⟨?_,ok.page (Nat.le_refl _)⟩
 have h:=jbL (n:=g.pgs) (k:=0) (m:=g.m) Bq
 have:=(ok.pgs (k:=0) Bq).1
 unfold PlG.pages PlG.page;omega
theorem jh.pg1 (ok:jh g):2<=g.pg:=by
 have h:=ok.y 0 Bq
 omega
theorem jh.words (ok:jh g):g.words<=1048576:=by
 have h1:=ok.pages.2
 have h2:=ok.pg
 exact Nat.le_trans (Nat.mul_le_mul h1 h2) bc
theorem jak:g.L.length=g.slots:=jbO _
theorem L_get {k d:Nat} (hk:k<g.m) (hd:d<g.n k):g.L[g.first k+d]?=some (g.sl k d):=jd8 hk hd
theorem L_at {i:Nat} {x:jn} (h:g.L[i]?=some x): ∃ k d,k<g.m/\d<g.n k/\i=g.first k+d/\x=g.sl k d:=cut_at h
theorem jh.inpg (ok:jh g) {k d:Nat} (hk:k<g.m) (hd:d<g.n k):d/g.per k<g.pgs k:=by
 have h1:=ok.n hk
 have h2:=ok.per hk
 unfold PlG.pgs;refine(Nat.le_div_iff_mul_le bc).2 ?_
 have h3:=Nat.div_mul_le_self d (g.per k)
 rw[Nat.succ_mul];omega
theorem jh.pg_lt (ok:jh g) {k d:Nat} (hk:k<g.m) (hd:d<g.n k):g.page k+d/g.per k<g.pages:=by
 have h1:=ok.inpg hk hd
 have h2:=jbL (n:=g.pgs) hk
 unfold PlG.pages;unfold PlG.page at*;omega
theorem jh.inside (ok:jh g) {k d:Nat} (hk:k<g.m):d%g.per k*g.y k+g.y k<=g.pg:=by
 have h2:=ok.per hk
 have h3:=Nat.mod_lt d (show 0<g.per k by omega)
 have h4:(d%g.per k+1)*g.y k<=g.per k*g.y k:=Nat.mul_le_mul_right _ bc
 have h5:g.per k*g.y k<=g.pg:=Nat.div_mul_le_self _ _
 rw[Nat.succ_mul] at h4
 omega
theorem jh.fits (ok:jh g) {i:Nat} {x:jn} (h:g.L[i]?=some x):x.addr+x.size<=g.words/\2<=x.size/\x.size<=64/\x.page<g.pages/\x.page*g.pg<=x.addr/\x.addr+x.size<=(x.page+1)*g.pg/\x.cls<g.m:=by
 obtain⟨k,d,hk,hd,rfl,rfl⟩:=L_at h
 have h1:=ok.pg_lt hk hd
 have h2:=ok.inside (d:=d) hk
 have h3:=ok.y k hk
 have h4:=ok.pg
 have h5:(g.page k+d/g.per k+1)*g.pg<=g.words:=Nat.mul_le_mul_right _ h1
 rw[Nat.succ_mul] at h5;simp only[PlG.sl,Nat.succ_mul];refine⟨by omega,by omega,by omega,h1,by omega,by omega,hk⟩
theorem jh.apart (ok:jh g) {i i':Nat} {x x':jn} (h:g.L[i]?=some x) (h':g.L[i']?=some x') (hne:i≠i'):x.addr+x.size<=x'.addr\/x'.addr+x'.size<=x.addr:=by
 obtain⟨a1,_,_,_,a2,a3,_⟩:=ok.fits h
 obtain⟨b1,_,_,_,b2,b3,_⟩:=ok.fits h'
 rcases Nat.lt_trichotomy x.page x'.page with h1|h1|h1
 ·have:(x.page+1)*g.pg<=x'.page*g.pg:=Nat.mul_le_mul_right _ h1
  left;omega
 ·obtain⟨k,d,hk,hd,rfl,rfl⟩:=L_at h
  obtain⟨k',d',hk',hd',rfl,rfl⟩:=L_at h'
  obtain⟨e1,e2⟩:=jjW (n:=g.pgs) (ok.inpg hk hd) (ok.inpg hk' hd') h1
  subst e1;simp only[PlG.sl] at a2 a3 b2 b3|-;rw[e2]
  have hy:=ok.y k hk
  rcases Nat.lt_trichotomy (d%g.per k) (d'%g.per k) with h2|h2|h2
  ·have:(d%g.per k+1)*g.y k<=d'%g.per k*g.y k:=Nat.mul_le_mul_right _ h2
   rw[Nat.succ_mul] at this
   left;omega
  ·exfalso
   have q1:=Nat.div_add_mod d (g.per k)
   have q2:=Nat.div_add_mod d' (g.per k)
   rw[<-e2,<-h2] at q2
   omega
  ·have:(d'%g.per k+1)*g.y k<=d%g.per k*g.y k:=Nat.mul_le_mul_right _ h2
   rw[Nat.succ_mul] at this
   right;omega
 ·have:(x'.page+1)*g.pg<=x.page*g.pg:=Nat.mul_le_mul_right _ h1
  right;omega
theorem jcz:g.parts.length=g.m:=by simp[PlG.parts]
theorem jc1 {k:Nat} (hk:k<g.m):g.parts[k]?=some (g.pt k):=by simp[PlG.parts,hk]
