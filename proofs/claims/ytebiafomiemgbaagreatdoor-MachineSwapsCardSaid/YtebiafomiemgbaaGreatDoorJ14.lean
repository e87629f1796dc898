/-The walker and the contracts that the law needs,part 14. -/
import Derived.Test.YtebiafomiemgbaaGreatDoorD1
set_option linter.unusedVariables false set_option linter.unusedSimpArgs false set_option linter.unusedVariables false
set_option linter.unusedSimpArgs false
namespace Go.Proofs.YtebiafomiemgbaaGreatDoor.Sw
set_option maxHeartbeats 8000000
open Go.Proofs.YtebiafomiemgbaaGreatDoor renaming lo → qL, hi → qH
open Go.RowKit
theorem jff {n:Nat} (h:n<18446744073709551616):IntKind.u64.wrap (n:Int)=(n:Int):=by
 rw[IntKind.wrap_u64];omega
theorem jeW {n:Nat} (h:n<18446744073709551616):(BitVec.ofInt 64 (n:Int)).toNat=n:=by
 grind
theorem jeg {a b:Nat} (ha:a<18446744073709551616) (hb:b<18446744073709551616):JW .and .u64 (a:Int) (b:Int)=((a&&&b:Nat):Int):=by
 show IntKind.u64.wrap ((BitVec.ofInt 64 (a:Int)&&&BitVec.ofInt 64 (b:Int)).toNat:Int)=_
 grind[jeW,jff]
theorem and_one {a:Nat} (ha:a<18446744073709551616):JW .and .u64 (a:Int) 1=((a&&&1:Nat):Int):=jeg (b:=1) ha (by omega)
theorem or_nat {a b:Nat} (ha:a<18446744073709551616) (hb:b<18446744073709551616):JW .or .u64 (a:Int) (b:Int)=((a|||b:Nat):Int):=by
 show IntKind.u64.wrap ((BitVec.ofInt 64 (a:Int)|||BitVec.ofInt 64 (b:Int)).toNat:Int)=_
 grind[jeW,jff]
theorem xor_nat {a b:Nat} (ha:a<18446744073709551616) (hb:b<18446744073709551616):JW .xor .u64 (a:Int) (b:Int)=((a^^^b:Nat):Int):=by
 show IntKind.u64.wrap ((BitVec.ofInt 64 (a:Int)^^^BitVec.ofInt 64 (b:Int)).toNat:Int)=_
 grind[jeW,jff]
def lessN (a b:Nat):Nat:=a&&&(18446744073709551616-(b+1))
theorem jlr {a b:Nat} (ha:a<18446744073709551616):lessN a b<18446744073709551616:=by
 unfold lessN;exact Nat.lt_of_le_of_lt Nat.and_le_left ha
theorem jiH {a b:Nat} (ha:a<18446744073709551616) (hb:b<18446744073709551616):JW .andNot .u64 (a:Int) (b:Int)=((lessN a b:Nat):Int):=by
 show IntKind.u64.wrap ((BitVec.ofInt 64 (a:Int)&&& ~~~(BitVec.ofInt 64 (b:Int))).toNat:Int)=_
 rw[BitVec.toNat_and,BitVec.toNat_not,jeW ha,jeW hb];rw[show 2^64-1-b=18446744073709551616-(b+1) by omega];exact jff (jlr ha)
theorem jie {a b:Nat} (hb:b<18446744073709551616) (t:Nat):(lessN a b).testBit t=(a.testBit t&&(decide (t<64)&&!b.testBit t)):=by
 unfold lessN;rw[Nat.testBit_and,show(18446744073709551616:Nat)=2^64 by decide,Nat.testBit_two_pow_sub_succ (by omega)]
theorem jdF {a j:Nat} (hj:j<64):((a:Int)).fdiv (2^(min (Int.toNat (j:Int)) IntKind.u64.bits))=((a/2^j:Nat):Int):=by
 have e:min (Int.toNat (j:Int)) IntKind.u64.bits=j:=by
  exact zrS
 grind
theorem ji5 {j:Nat} (hj:j<64):IntKind.u64.wrap (1*2^(min (Int.toNat (j:Int)) IntKind.u64.bits))=((2^j:Nat):Int):=by
 have e:min (Int.toNat (j:Int)) IntKind.u64.bits=j:=by
  exact zrS
 rw[e,show(1:Int)*2^j=((2^j:Nat):Int) by simp];exact jff (by have:2^j<2^64:=Nat.pow_lt_pow_right (by omega) hj;omega)
def bitsN:List Bool→Nat
 | []=>0
 |b::l=>(if b then 1 else 0)+2*bitsN l
theorem jil: ∀ (l:List Bool) (t:Nat),(bitsN l).testBit t=(l[t]?).getD false
 | [],t=>by simp[bitsN]
 |b::l,0=>by
  grind[bitsN]
 |b::l,t+1=>by
  rw[show t+1=t.succ from rfl,Nat.testBit_succ]
  have:bitsN (b::l)/2=bitsN l:=by
   grind[bitsN]
  rw[this,jil l t];simp
theorem jg3: ∀ l:List Bool,bitsN l<2^l.length
 | []=>by simp[bitsN]
 |b::l=>by
  have:=jg3 l
  grind[bitsN]
def wordN (bs:List Bool) (k:Nat):Nat:=bitsN ((bs.drop (64*k)).take 64)
theorem jgM (bs:List Bool) (k:Nat):wordN bs k<18446744073709551616:=by
 have h:=jg3 ((bs.drop (64*k)).take 64)
 have h2:2^((bs.drop (64*k)).take 64).length≤2^64:=Nat.pow_le_pow_right (by omega) (by grind)
 grind[wordN]
theorem jfL (bs:List Bool) (k t:Nat):(wordN bs k).testBit t=(decide (t<64)&&(bs[64*k+t]?).getD false):=by
 grind[wordN,jil]
def wordsOf (bs:List Bool):List Int:=(List.range ((bs.length+63)/64)).map fun k=>((wordN bs k:Nat):Int)
theorem jcl (bs:List Bool):(wordsOf bs).length=(bs.length+63)/64:=by simp[wordsOf]
theorem jfa {bs:List Bool} {k:Nat} (h:k<(bs.length+63)/64):(wordsOf bs)[k]?=some ((wordN bs k:Nat):Int):=by
 grind[wordsOf]
theorem jkQ {bs:List Bool} {i:Nat} (h:i<bs.length):(wordsOf bs)[i/64]?=some ((wordN bs (i/64):Nat):Int):=jfa (by omega)
theorem jlx {bs:List Bool} {i j:Nat} {v:Bool} (hi:i<bs.length):((bs.set i v)[j]?).getD false=if i=j then v else(bs[j]?).getD false:=by
 grind
theorem words_set {bs:List Bool} {i:Nat} {v:Bool} (hi:i<bs.length):
  wordsOf (bs.set i v)=(wordsOf bs).set (i/64) (((if v then wordN bs (i/64)|||2^(i%64) else lessN (wordN bs (i/64)) (2^(i%64))):Nat):Int):=by
 have hp:2^(i%64)<18446744073709551616:=by
  have:2^(i%64)<2^64:=Nat.pow_lt_pow_right (by omega) (by omega)
  omega
 have key:wordN (bs.set i v) (i/64)=if v then wordN bs (i/64)|||2^(i%64) else lessN (wordN bs (i/64)) (2^(i%64)):=by
  apply Nat.eq_of_testBit_eq
  grind[jfL,jlx,jie]
 apply List.ext_getElem?
 intro k
 by_cases hk:k<(bs.length+63)/64
 ·rw[jfa (by grind)]
  by_cases e:i/64=k
  ·grind[jcl]
  ·rw[List.getElem?_set_ne e,jfa hk]
   congr 2
   apply Nat.eq_of_testBit_eq
   grind[jfL,jlx]
 grind[jcl]
theorem jjX (n:Nat):wordsOf (List.replicate n false)=List.replicate ((n+63)/64) 0:=by
 apply List.ext_getElem?
 intro k
 by_cases hk:k<(n+63)/64
 ·rw[jfa (by grind),List.getElem?_replicate,if_pos hk]
  have:wordN (List.replicate n false) k=0:=by
   apply Nat.eq_of_testBit_eq
   grind[jfL]
  grind
 grind[jcl]
theorem get_bit {bs:List Bool} {i:Nat} (hi:i<bs.length):(decide (((wordN bs (i/64)/2^(i%64)&&&1:Nat):Int)=1))=(bs[i]?).getD false:=by
 have h:=jfL bs (i/64) (i%64)
 grind
theorem ctz_bit {x:Nat} (h0:x≠0) (h:x<18446744073709551616):Lib.ctz 64 x<64∧x.testBit (Lib.ctz 64 x)=true∧ ∀ t,t<Lib.ctz 64 x→x.testBit t=false:=by
 obtain⟨m,hm,hk⟩:=Lib.ctzFrom_spec 64 x (by omega) (by omega)
 have e:Lib.ctz 64 x=Lib.ctzFrom 64 x:=by simp[Lib.ctz,h0]
 grind
open Go.RowKit
theorem jfS {a c p d:Nat} (ha:a<256) (hc:c<256):(a+256*p)&&&(c+256*d)=(a&&&c)+256*(p&&&d):=by
 have h1:(a&&&c)<2^8:=Nat.lt_of_le_of_lt Nat.and_le_left (by omega)
 apply Nat.eq_of_testBit_eq
 intro t;rw[Nat.testBit_and,Nat.add_comm a,Nat.add_comm c,Nat.add_comm (a&&&c),show(256:Nat)=2^8 by decide,Nat.testBit_two_pow_mul_add _ (by omega),Nat.testBit_two_pow_mul_add _ (by omega),Nat.testBit_two_pow_mul_add _ h1]
 grind
def rep (c:Nat):Nat→Nat
 |0=>0
 |n+1=>c+256*rep c n
def jal:List Nat→Nat
 | []=>0
 |b::l=>b+256*jal l
def f1 (b:Nat):Nat:=(b/2&&&85)+(b&&&85)
def f2 (b:Nat):Nat:=(b/4&&&51)+(b&&&51)
def f3 (b:Nat):Nat:=(b/16+b)&&&15
def g1 (n x:Nat):Nat:=(x/2&&&rep 85 n)+(x&&&rep 85 n)
def g2 (n x:Nat):Nat:=(x/4&&&rep 51 n)+(x&&&rep 51 n)
def g3 (n x:Nat):Nat:=(x/16+x)&&&rep 15 n
set_option maxRecDepth 100000 in
theorem h1: ∀ b,b<256→ ∀ e,e<2→(b/2+128*e)&&&85=b/2&&&85:=by decide+kernel
set_option maxRecDepth 100000 in
theorem h2: ∀ b,b<256→ ∀ e,e<4→(b/4+64*e)&&&51=b/4&&&51:=by decide+kernel
set_option maxRecDepth 100000 in
theorem h3: ∀ b,b<70→ ∀ e,e<5→(b/16+b+16*e)&&&15=(b/16+b)&&&15:=by decide+kernel
theorem g1_val: ∀ l:List Nat,(∀ b∈l,b<256)→g1 l.length (jal l)=jal (l.map f1)
 | [],_=>by rfl
 |b::l,h=>by
  have hb:=h b (.head _)
  have ih:=g1_val l fun x hx=>h x (.tail _ hx)
  obtain⟨y,hy⟩: ∃ y,y=jal l:=⟨_,rfl⟩
  show(((b+256*jal l)/2)&&&(85+256*rep 85 l.length))+((b+256*jal l)&&&(85+256*rep 85 l.length))=f1 b+256*jal (l.map f1)
  rw[←ih,←hy,show(b+256*y)/2=(b/2+128*(y%2))+256*(y/2) by omega,jfS (by omega) (by omega),jfS hb (by omega),h1 b hb (y%2) (by omega)]
  grind[f1,g1]
theorem g2_val: ∀ l:List Nat,(∀ b∈l,b<256)→g2 l.length (jal l)=jal (l.map f2)
 | [],_=>by rfl
 |b::l,h=>by
  have hb:=h b (.head _)
  have ih:=g2_val l fun x hx=>h x (.tail _ hx)
  obtain⟨y,hy⟩: ∃ y,y=jal l:=⟨_,rfl⟩
  show(((b+256*jal l)/4)&&&(51+256*rep 51 l.length))+((b+256*jal l)&&&(51+256*rep 51 l.length))=f2 b+256*jal (l.map f2)
  rw[←ih,←hy,show(b+256*y)/4=(b/4+64*(y%4))+256*(y/4) by omega,jfS (by omega) (by omega),jfS hb (by omega),h2 b hb (y%4) (by omega)]
  grind[f2,g2]
theorem valB_mod: ∀ l:List Nat,(∀ b∈l,b<70∧b%16<5)→jal l%16<5
 | [],_=>by simp[jal]
 |b::l,h=>by
  have:=(h b (.head _)).2
  grind[jal]
theorem g3_val: ∀ l:List Nat,(∀ b∈l,b<70∧b%16<5)→g3 l.length (jal l)=jal (l.map f3)
 | [],_=>by rfl
 |b::l,h=>by
  have hb:=h b (.head _)
  have ih:=g3_val l fun x hx=>h x (.tail _ hx)
  have hm:=valB_mod l fun x hx=>h x (.tail _ hx)
  obtain⟨y,hy⟩: ∃ y,y=jal l:=⟨_,rfl⟩
  show(((b+256*jal l)/16+(b+256*jal l))&&&(15+256*rep 15 l.length))=f3 b+256*jal (l.map f3)
  rw[←ih,←hy];rw[←hy] at hm;rw[show(b+256*y)/16+(b+256*y)=(b/16+b+16*(y%16))+256*(y/16+y) by omega,jfS (by omega) (by omega),h3 b hb.1 (y%16) hm]
  rfl
theorem dv {p q:Nat} (h:p<256):(p+256*q)/256=q:=by omega
theorem ad {a b x y:Nat}:(a+256*x)+(b+256*y)=(a+b)+256*(x+y):=by omega
theorem jbW {a x m:Nat} (ha:a<256) (hx:x<m):a+256*x<256*m:=by omega
theorem tail_sum {p0 p1 p2 p3 p4 p5 p6 p7 v a b c:Nat} (h0:p0≤8) (h1:p1≤8) (h2:p2≤8) (h3:p3≤8) (h4:p4≤8) (h5:p5≤8) (h6:p6≤8) (h7:p7≤8)
  (hv:v=p0+256*(p1+256*(p2+256*(p3+256*(p4+256*(p5+256*(p6+256*p7)))))))
  (ha:a=v+v/256) (hb:b=a+a/65536) (hc:c=b+b/4294967296):c%128=p0+p1+p2+p3+p4+p5+p6+p7∧a<18446744073709551616∧b<18446744073709551616∧c<648518346341351424:=by
 have e1:v/256=p1+256*(p2+256*(p3+256*(p4+256*(p5+256*(p6+256*p7))))):=by rw[hv];exact dv (by omega)
 have z1: ∀ x:Nat,x+256*0=x:=fun x=>by omega
 have ea:a=(p0+p1)+256*((p1+p2)+256*((p2+p3)+256*((p3+p4)+256*((p4+p5)+256*((p5+p6)+256*((p6+p7)+256*p7)))))):=by
  rw[ha,e1,hv,ad,ad,ad,ad,ad,ad]
  congr 7;omega
 clear ha hv e1
 have e2:a/65536=(p2+p3)+256*((p3+p4)+256*((p4+p5)+256*((p5+p6)+256*((p6+p7)+256*p7)))):=by
  rw[show(65536:Nat)=256*256 by decide,←Nat.div_div_eq_div_mul,ea,dv (by omega),dv (by omega)]
 have eb:b=(p0+p1+(p2+p3))+256*((p1+p2+(p3+p4))+256*((p2+p3+(p4+p5))+256*((p3+p4+(p5+p6))+256*((p4+p5+(p6+p7))+256*((p5+p6+p7)+256*((p6+p7)+256*p7)))))):=by
  rw[hb,e2,ea,ad,ad,ad,ad,ad]
  congr 6;omega
 have la:a<18446744073709551616:=by
  rw[ea];exact zrX
 clear hb e2 ea
 have e3:b/4294967296=(p4+p5+(p6+p7))+256*((p5+p6+p7)+256*((p6+p7)+256*p7)):=by
  rw[show(4294967296:Nat)=256*256*256*256 by decide,←Nat.div_div_eq_div_mul,←Nat.div_div_eq_div_mul,←Nat.div_div_eq_div_mul,eb,dv (by omega),dv (by omega),dv (by omega),dv (by omega)]
 have ec:c=(p0+p1+(p2+p3)+(p4+p5+(p6+p7)))+256*((p1+p2+(p3+p4)+(p5+p6+p7))+256*((p2+p3+(p4+p5)+(p6+p7))+256*((p3+p4+(p5+p6)+p7)+256*((p4+p5+(p6+p7))+256*((p5+p6+p7)+256*((p6+p7)+256*p7)))))):=by
  rw[hc,e3,eb,ad,ad,ad]
  congr 4;omega
 have lb:b<18446744073709551616:=by
  rw[eb];exact zrX
 clear hc e3 eb;refine⟨?_,la,lb,?_⟩
 ·rw[ec]
  generalize (p1+p2+(p3+p4)+(p5+p6+p7))+256*((p2+p3+(p4+p5)+(p6+p7))+256*((p3+p4+(p5+p6)+p7)+256*((p4+p5+(p6+p7))+256*((p5+p6+p7)+256*((p6+p7)+256*p7)))))=z
  omega
 ·rw[ec];exact jbW (m:=2533274790395904) (by omega) (jbW (m:=9895604649984) (by omega) (jbW (m:=38654705664) (by omega) (jbW (m:=150994944) (by omega) (jbW (m:=589824) (by omega) (jbW (m:=2304) (by omega) (jbW (m:=9) (by omega) (by omega)))))))
set_option maxRecDepth 100000 in
theorem jjk: ∀ b,b<256→f1 b<256∧f2 (f1 b)<70∧f2 (f1 b)%16<5∧f3 (f2 (f1 b))≤8:=by decide+kernel
theorem byte_pop: ∀ b0 b1 b2 b3 b4 b5 b6 b7:Bool,f3 (f2 (f1 (bitsN [b0,b1,b2,b3,b4,b5,b6,b7])))=[b0,b1,b2,b3,b4,b5,b6,b7].count true:=by decide+kernel
theorem jlG: ∀ (n:Nat) (l:List Bool),l.length=8*n→ ∃ bl:List Nat,bl.length=n∧(∀ b∈bl,b<256)∧jal bl=bitsN l∧(bl.map fun b=>f3 (f2 (f1 b))).sum=l.count true
 |0,l,h=>by
  have:l=[]:=List.length_eq_zero_iff.1 (by omega)
  subst this;exact⟨[],rfl,by simp,rfl,rfl⟩
 |n+1,l,h=>by
  match l,h with
  |b0::b1::b2::b3::b4::b5::b6::b7::r,h=>
   obtain⟨bl,e1,e2,e3,e4⟩:=jlG n r (by simp only[List.length_cons] at h;omega)
   refine⟨bitsN [b0,b1,b2,b3,b4,b5,b6,b7]::bl,by simp[e1],fun b hb=>?_,?_,?_⟩
   ·rcases List.mem_cons.1 hb with rfl|hb
    ·have h8:=jg3 [b0,b1,b2,b3,b4,b5,b6,b7]
     rw[show([b0,b1,b2,b3,b4,b5,b6,b7]:List Bool).length=8 from rfl,show 2^8=256 by decide] at h8;exact h8
    ·exact e2 b hb
   ·show bitsN [b0,b1,b2,b3,b4,b5,b6,b7]+256*jal bl=_
    rw[e3];simp only[bitsN]
    omega
   ·rw[List.map_cons,List.sum_cons,e4,byte_pop]
    have:b0::b1::b2::b3::b4::b5::b6::b7::r=[b0,b1,b2,b3,b4,b5,b6,b7]++r:=rfl
    rw[this,List.count_append]
  | [],h=>simp at h
  | [_],h=>simp only[List.length_cons,List.length_nil] at h;omega
  | [_,_],h=>simp only[List.length_cons,List.length_nil] at h;omega
  | [_,_,_],h=>simp only[List.length_cons,List.length_nil] at h;omega
  | [_,_,_,_],h=>simp only[List.length_cons,List.length_nil] at h;omega
  | [_,_,_,_,_],h=>simp only[List.length_cons,List.length_nil] at h;omega
  | [_,_,_,_,_,_],h=>simp only[List.length_cons,List.length_nil] at h;omega
  | [_,_,_,_,_,_,_],h=>simp only[List.length_cons,List.length_nil] at h;omega
theorem bitsN_pad (l:List Bool) (n:Nat):bitsN (l++List.replicate n false)=bitsN l:=by
 apply Nat.eq_of_testBit_eq
 grind[jil]
theorem pop_law {l:List Bool} (hl:l.length≤64) {x a b c:Nat} (hx:x=g3 8 (g2 8 (g1 8 (bitsN l)))) (ha:a=x+x/256) (hb:b=a+a/65536) (hc:c=b+b/4294967296):
  c%128=l.count true∧a<18446744073709551616∧b<18446744073709551616∧c<648518346341351424:=by
 obtain⟨bl,e1,e2,e3,e4⟩:=jlG 8 (l++List.replicate (64-l.length) false) (by grind)
 rw[bitsN_pad] at e3;rw[List.count_append,show(List.replicate (64-l.length) false).count true=0 by grind,Nat.add_zero] at e4
 have b1: ∀ y∈bl.map f1,y<256:=fun y hy=>by
  grind[jjk]
 have b2: ∀ y∈(bl.map f1).map f2,y<70∧y%16<5:=fun y hy=>by
  grind[jjk]
 have hx':x=jal (((bl.map f1).map f2).map f3):=by
  rw[hx,←e3]
  have q1:=g1_val bl e2
  rw[e1] at q1
  have q2:=g2_val (bl.map f1) b1
  rw[List.length_map,e1] at q2
  have q3:=g3_val ((bl.map f1).map f2) b2
  grind
 rw[List.map_map,List.map_map] at hx';rw[←e4]
 match bl,e1,e2 with
 | [p0,p1,p2,p3,p4,p5,p6,p7],_,e2=>
  have k:=fun q hq=>(jjk q (e2 q hq)).2.2.2
  have:=tail_sum (k p0 (by simp)) (k p1 (by simp)) (k p2 (by simp)) (k p3 (by simp)) (k p4 (by simp)) (k p5 (by simp)) (k p6 (by simp)) (k p7 (by simp)) (v:=x) (by rw[hx'];simp[jal]) ha hb hc
  refine⟨?_,this.2⟩;rw[this.1];simp only[List.map_cons,List.map_nil,List.sum_cons,List.sum_nil]
  omega
theorem rep_85:rep 85 8=6148914691236517205:=by rfl
theorem rep_51:rep 51 8=3689348814741910323:=by rfl
theorem rep_15:rep 15 8=1085102592571150095:=by rfl
open Go.RowKit
set_option maxRecDepth 10000
theorem fmask {n:Nat} (h1:1≤n) (h:n≤64):18446744073709551615/2^(64-n)=2^n-1:=by
 have e:(18446744073709551616:Nat)=2^n*2^(64-n):=by rw[←Nat.pow_add,show n+(64-n)=64 by omega]
 have hp:0<2^(64-n):=Nat.two_pow_pos _
 have hq:0<2^n:=Nat.two_pow_pos _
 rw[show(18446744073709551615:Nat)=2^n*2^(64-n)-1 by omega];rw[Nat.div_eq_iff hp]
 grind
theorem jkJ {x n:Nat} (hx:x<18446744073709551616) (h:x<2^n):Lib.bitLen x≤n:=by
 rcases Nat.lt_or_ge 63 n with h64|h64
 ·have: ∀ f y,Lib.bitLenAux f y≤f:=fun f=>by
   induction f with
   |zero=>intro y;simp[Lib.bitLenAux]
   |succ f ih=>intro y;unfold Lib.bitLenAux;grind
  have:=this 64 x
  unfold Lib.bitLen;omega
 ·have: ∀ n f y,y<2^n→Lib.bitLenAux f y≤n:=fun n=>by
   induction n with
   |zero=>
    intro f y hy
    have:y=0:=by omega
    subst this
    cases f<;>simp[Lib.bitLenAux]
   |succ n ih=>
    intro f y hy
    cases f with
    |zero=>simp[Lib.bitLenAux]
    |succ f=>
     unfold Lib.bitLenAux
     grind
  exact this n 64 x h
theorem less_high {w a n:Nat} (hw:w<2^a) (h:n+a≤64) (hn:(2^n-1)*2^a<18446744073709551616):lessN w ((2^n-1)*2^a)=w:=by
 apply Nat.eq_of_testBit_eq
 intro t;rw[jie hn,Nat.testBit_mul_two_pow]
 by_cases ht:t<a
 ·grind
 ·rw[Nat.testBit_lt_two_pow (Nat.lt_of_lt_of_le hw (Nat.pow_le_pow_right (by omega) (by omega)))];simp
theorem or_high {w a v:Nat} (hw:w<2^a):w|||v*2^a=w+v*2^a:=by
 rw[Nat.mul_comm,Nat.or_comm,←Nat.two_pow_add_eq_or_of_lt hw,Nat.add_comm]
theorem jjb {a n:Nat} (h:n+a≤64):(2^n-1)*2^a<18446744073709551616:=by
 have e:2^n*2^a≤2^64:=by rw[←Nat.pow_add];exact Nat.pow_le_pow_right (by omega) h
 have hq:0<2^n:=Nat.two_pow_pos _
 have hp:0<2^a:=Nat.two_pow_pos _
 have:(2^n-1)*2^a+2^a=2^n*2^a:=by
  obtain⟨m,hm⟩: ∃ m,2^n=m+1:=⟨2^n-1,by omega⟩
  rw[hm,show m+1-1=m by omega,Nat.succ_mul]
 omega
theorem val_lt {a n v:Nat} (h:n+a≤64) (hv:v<2^n):v*2^a<18446744073709551616:=by
 have h1:v*2^a≤(2^n-1)*2^a:=Nat.mul_le_mul_right _ (by omega)
 have:=jjb h
 omega
theorem shl_any {b j:Nat} (hj:j<64) (h:b*2^j<18446744073709551616):IntKind.u64.wrap ((b:Int)*2^(min (Int.toNat (j:Int)) IntKind.u64.bits))=((b*2^j:Nat):Int):=by
 have e:min (Int.toNat (j:Int)) IntKind.u64.bits=j:=by
  exact zrS
 rw[e,show(b:Int)*2^j=((b*2^j:Nat):Int) by simp];exact jff h
set_option maxRecDepth 10000
theorem Val.sliceA {P:Program} {w0:World} {H:jb} {m:jk} {ty t e:TypeId} {x:Operand} {b o len z:Nat} (hx:evO m x=some (.pointer (some ⟨b,o,none⟩))) (ht:jef P t=some (len,e)) (hz:JG P e=some z):
  Val P w0 H m ty (.slice t x none none none) (.slice (some ⟨b,o,none⟩) len len):=
 ⟨by grind[jm,jbs,cov],fun w d pos af g _=>by
  have hu:P.underlying t=some (.array len e):=by grind[jef]
  simp[execOp,evS,hx,Instr.sliceAt,Instr.sliceBounds,Instr.sureAddr,jQ w hu,jbh w hz,Addr.add]⟩
theorem fmay_K {w0:World} {H:jb} {f n:Nat} (h1:1≤n) (h:n+f≤64):Call Tryz.prog w0 314 [.int .i64 (f:Nat), .int .i64 (n:Nat)] H (fun r H'=>r= .bool true∧H'=H):=by
 have g1:(f:Int)≤64-(n:Int):=by omega
 refine Call.enter2 (n:=21) (by rfl) Tryz.func314 rfl rfl rfl ?_;refine zfT ?_;refine zac ?_;refine zX ?_;refine zac ?_;refine zcx ?_;refine zec ?_;refine zA ?_;refine ze3 ?_;refine ziO ?_;refine zec ?_;exact zbO
theorem mask_K {w0:World} {H:jb} {n:Nat} (h1:1≤n) (h:n≤64):Call Tryz.prog w0 315 [.int .i64 (n:Nat)] H (fun r H'=>r= .int .u64 ((2^n-1:Nat):Int)∧H'=H):=by
 have e:(64:Int)-(n:Int)=((64-n:Nat):Int):=by omega
 have e2:=jdF (a:=18446744073709551615) (j:=64-n) (by omega)
 rw[fmask h1 h] at e2;refine Call.enter1 (n:=6) (by rfl) Tryz.func315 rfl rfl rfl ?_;refine zrE ?_;refine zp5 ?_;rw[e];refine zgL ?_;rw[show(18446744073709551615:Int)=((18446744073709551615:Nat):Int) from rfl,e2];exact zq
theorem fGet_K {w0:World} {H:jb} {w f n:Nat} (hw:w<18446744073709551616) (h1:1≤n) (h:n+f≤64):
  Call Tryz.prog w0 280 [.int .u64 (w:Nat), .int .i64 (f:Nat), .int .i64 (n:Nat)] H (fun r H'=>r= .tuple [.int .u64 ((w/2^f%2^n:Nat):Int), .int .i64 0].toArray∧H'=H):=by
 have hwf:w/2^f<18446744073709551616:=Nat.lt_of_le_of_lt (Nat.div_le_self _ _) hw
 have hml:=jjb (a:=0) (n:=n) (by omega)
 rw[Nat.pow_zero,Nat.mul_one] at hml
 have ea:=jeg hwf hml
 rw[Nat.and_two_pow_sub_one_eq_mod] at ea
 have es:=jdF (a:=w) (j:=f) (by omega)
 refine Call.enter3 (n:=18) (by rfl) Tryz.func280 rfl rfl rfl ?_;refine zL ?_;refine zbX ?_;refine zbq ?_;refine jp (fmay_K h1 h) ?_;refine zy ?_;refine zb8 ?_;refine K.drawn _ [(0,1),(1,1),(2,1),(3,0),(4,2),(5,0),(6,0),(7,0)] (by rfl) (by rfl) (by kernel_rfl) (by rfl) (by rfl) (by rfl) Part.all ?_;refine zP ?_;refine zP ?_;refine KD.v1 rfl rfl (Val.shr rfl rfl (by omega)) ?_;refine zd9 fun T hT=>?_;refine(CallV.fn (mask_K h1 (by omega))).mono ?_;rintro _ _ ⟨rfl,rfl⟩;refine zi ?_;clear hT T;refine KD.v0 rfl rfl (Val.and rfl rfl) ?_;refine zgF ?_;rw[es,ea];exact zH
theorem len64_K {w0:World} {H:jb} {x:Nat} (hx:x<18446744073709551616):Call Tryz.prog w0 277 [.int .u64 (x:Nat)] H (fun r H'=>r= .int .i64 (Lib.bitLen x:Nat)∧H'=H):=by
 refine⟨by rfl,fun w hw=>?_⟩;refine(Tryz.bits_Len64 (x:Int) w (by omega) (by omega)).mono ?_;rintro e w' ⟨rfl,rfl⟩;exact⟨_,_,rfl,hw,rfl,rfl⟩
theorem fSet_K {w0:World} {H:jb} {w f n v:Nat} (hw:w<2^f) (h1:1≤n) (h:n+f≤64) (hv:v<2^n):
  Call Tryz.prog w0 330 [.int .u64 (w:Nat), .int .i64 (f:Nat), .int .i64 (n:Nat), .int .u64 (v:Nat)] H (fun r H'=>r= .tuple [.int .u64 ((w+v*2^f:Nat):Int), .int .i64 0].toArray∧H'=H):=by
 have hf64:2^f≤2^64:=Nat.pow_le_pow_right (by omega) (by omega)
 have hn64:2^n≤2^64:=Nat.pow_le_pow_right (by omega) (by omega)
 have hw64:w<18446744073709551616:=by omega
 have hv64:v<18446744073709551616:=by omega
 have hbl:=jkJ hv64 hv
 have hng: ¬((Lib.bitLen v:Nat):Int)>(n:Int):=by omega
 have hml:=jjb (a:=f) (n:=n) h
 have hvl:=val_lt (a:=f) h hv
 have s1:=shl_any (b:=2^n-1) (j:=f) (by omega) hml
 have s2:=shl_any (b:=v) (j:=f) (by omega) hvl
 have l1:=jiH hw64 hml
 rw[less_high hw h hml] at l1
 have o1:=or_nat hw64 hvl
 rw[or_high hw] at o1;refine Call.enter4 (n:=30) (by rfl) Tryz.func330 rfl rfl rfl ?_;refine zL ?_;refine zns ?_;refine zbq ?_;refine jp (fmay_K h1 h) ?_;refine zy ?_;refine zcw ?_;refine zn ?_;refine jp (len64_K hv64) ?_;refine zj ?_;refine zaA ?_;refine zdX ?_;refine zbC ?_;refine K.drawn _ [(0,1),(1,0),(3,1),(6,1),(7,1),(8,1),(2,2),(4,0),(5,0),(9,0),(10,0),(11,0)] (by rfl) (by rfl) (by kernel_rfl) (by rfl) (by rfl) (by rfl) Part.all ?_;refine zP ?_;refine zo ?_;refine zP ?_;refine zP ?_;refine zP ?_;refine KD.v1 rfl rfl (Val.shl rfl rfl (by omega)) ?_;refine zk fun T hT=>?_;refine(CallV.fn (mask_K h1 (by omega))).mono ?_;rintro _ _ ⟨rfl,rfl⟩;refine zi ?_;clear hT T;refine KD.v0 rfl rfl (Val.shl rfl rfl (by omega)) ?_;refine KD.v0 rfl rfl (Val.andNot rfl rfl) ?_;refine KD.v0 rfl rfl (Val.or rfl rfl) ?_;refine zgF ?_;rw[s1,s2,l1,o1];exact zH
def sumP (ws:List Nat):Nat:=ws.sum
def natL (ws:List Nat):List Int:=ws.map fun(n:Nat)=>((n:Nat):Int)
structure WsOk (ws:List Nat):Prop where
 one: ∀ n∈ws,1≤n
 sum:ws.sum≤64
 len:1≤ws.length∧ws.length≤64
theorem ws_at {ws:List Nat} (h:WsOk ws) {i n:Nat} (hi:ws[i]?=some n):1≤n∧n+(ws.take i).sum≤64∧(ws.take (i+1)).sum=(ws.take i).sum+n:=by
 have e:(ws.take (i+1)).sum=(ws.take i).sum+n:=by rw[J2 hi,List.sum_append];simp
 have hle: ∀ k,(ws.take k).sum≤ws.sum:=fun k=>by
  have:ws.sum=(ws.take k).sum+(ws.drop k).sum:=by rw[←List.sum_append,List.take_append_drop]
  omega
 have:=hle (i+1)
 have:=h.sum
 exact⟨h.one n (List.mem_of_getElem? hi),by omega,e⟩
structure EaS where
 k:Nat
 A:jb
theorem each_K {w0:World} {H0:jb} {v fv:Value} {ws:List Nat} (I:Nat→jb→Prop) (ok:WsOk ws) (hS: ∀ i H,I i H→Sli w0 H iE v (natL ws))
  (hd: ∀ i n H,ws[i]?=some n→I i H→CallV Tryz.prog w0 fv [.int .i64 (i:Nat), .int .i64 ((ws.take i).sum:Nat), .int .i64 (n:Nat)] H (fun r H'=>r= .int .i64 0∧I (i+1) H')) (h0:I 0 H0):
  Call Tryz.prog w0 278 [v,fv] H0 (fun r H'=>r= .tuple [.int .i64 (ws.sum:Nat), .int .i64 0].toArray∧I ws.length H'):=by
 have hs0:=hS 0 H0 h0
 have hlen:=ok.len
 have hnl:(natL ws).length=ws.length:=by simp[natL]
 refine Call.enter2 (n:=30) (by rfl) Tryz.func278 rfl rfl rfl ?_;refine zL ?_;refine zah ?_;refine zad ?_;refine zcm ?_;rw[hnl];refine K.loopT (σ:=EaS) [(1,_),(10,_),(11,_)] (fun s kp_=>(12, .int .i64 (s.k:Nat))::(6, .int .i64 ((ws.take s.k).sum:Nat))::kp_) (fun s=>s.A) (fun s=>s.k≤ws.length∧I s.k s.A) (fun s=>ws.length-s.k) (⟨0,H0⟩) jc ja (⟨by simp,h0⟩) ?_;rintro⟨k,A⟩ ⟨hk,hI⟩;dsimp only at hk hI⊢
 by_cases hlt:k<ws.length
 ·obtain⟨n,hn⟩:=jh hlt
  obtain⟨h1,h2,h3⟩:=ws_at ok hn
  have hs:=hS k A hI
  have hx:(natL ws)[k]?=some (n:Int):=by grind[natL]
  have hll:k<(natL ws).length:=by omega
  refine zid ?_;refine zfP ?_;refine zt ?_;refine zeD ?_;refine za9 fun T hT=>?_;refine(hd k n A hn hI).mono ?_;rintro _ A' ⟨rfl,hI'⟩;refine ze ?_;clear hT T;refine zbR ?_;refine zdn ?_;refine zB ?_;refine zaB ?_;refine zhs ?_;exact KE.again ⟨k+1,A'⟩ jc ja ⟨by grind,hI'⟩ (by grind)
 ·have hke:k=ws.length:=by omega
  subst hke;rw[List.take_length];refine zc5 ?_;refine zbw ?_;refine zab ?_;exact KE.fin je rfl jd ja ⟨rfl,hI⟩
theorem all_K {w0:World} {H:jb} {v:Value} {ws:List Nat} (ok:WsOk ws) (hS:Sli w0 H iE v (natL ws)):
  Call Tryz.prog w0 276 [v] H (fun r H'=>r= .tuple [.int .i64 (ws.sum:Nat), .int .i64 0].toArray∧H'=H):=by
 have hnl:(natL ws).length=ws.length:=by simp[natL]
 have hne: ¬(((natL ws).length:Nat):Int)=0:=by have:=ok.len;omega
 refine Call.enter1 (n:=11) (by rfl) Tryz.func276 rfl rfl rfl ?_;refine zL ?_;refine zad ?_;refine zco ?_;refine zC ?_;refine zK ?_;refine zz fun T hT=>?_;refine(CallV.fn (each_K (ws:=ws) (fun _ A=>A=H) ok (fun i A hA=>by rw[hA];exact hS) ?_ rfl)).mono ?_
 ·rintro i n A hi rfl
  obtain⟨h1,h2,h3⟩:=ws_at ok hi
  refine CallV.fn ?_;refine Call.enter3 (n:=11) (by rfl) Tryz.func313 rfl rfl rfl ?_;refine zhA ?_;refine zbq ?_;refine jp (fmay_K h1 h2) ?_;refine zy ?_;refine zK ?_;exact zq
 ·rintro _ _ ⟨rfl,rfl⟩;refine ze ?_;clear hT T;refine zh4 ?_;exact zb5
open Go.RowKit
set_option maxRecDepth 10000
def packK (ws vs:List Nat) (k:Nat):Nat:=((List.range k).map fun i=>(vs[i]?).getD 0*2^(ws.take i).sum).sum
theorem jc6 {ws vs:List Nat} {k v:Nat} (h:vs[k]?=some v):packK ws vs (k+1)=packK ws vs k+v*2^(ws.take k).sum:=by
 unfold packK;rw[List.range_succ,List.map_append,List.sum_append]
 grind
theorem jli {ws vs:List Nat} (hl:vs.length=ws.length) (hf: ∀ (i n v:Nat),ws[i]?=some n→vs[i]?=some v→v<2^n): ∀ k,k≤ws.length→packK ws vs k<2^(ws.take k).sum
 |0,_=>by simp[packK]
 |k+1,h=>by
  have ih:=jli hl hf k (by omega)
  obtain⟨n,hn⟩:=jh (l:=ws) (k:=k) (by omega)
  obtain⟨v,hv⟩:=jh (l:=vs) (k:=k) (by omega)
  have hvn:=hf k n v hn hv
  rw[jc6 hv,J2 hn,List.sum_append,List.sum_cons,List.sum_nil,Nat.add_zero,Nat.pow_add]
  have:v*2^(ws.take k).sum+2^(ws.take k).sum≤2^(ws.take k).sum*2^n:=by
   rw[←Nat.succ_mul,Nat.mul_comm];exact Nat.mul_le_mul_left _ hvn
  omega
theorem jlj (o:Own) (n:Nat):(oV o n).cells=[oV o n].toArray:=by cases o<;>rfl
theorem natL_at {ws:List Nat} {i n:Nat} (h:ws[i]?=some n):(natL ws)[i]?=some (n:Int):=by grind[natL]
theorem jgX (ws:List Nat):(natL ws).length=ws.length:=by simp[natL]
theorem Pack_K {w0:World} {H:jb} {v vv:Value} {ws vs:List Nat} (ok:WsOk ws) (hl:vs.length=ws.length) (hf: ∀ (i n v:Nat),ws[i]?=some n→vs[i]?=some v→v<2^n) (hS:Sli w0 H iE v (natL ws)) (hV:Sli w0 H uE vv (natL vs)) (hc:vv.cells=[vv].toArray):
  Call Tryz.prog w0 305 [v,vv] H (fun r H'=>r= .tuple [.int .u64 (packK ws vs ws.length:Nat), .int .i64 0].toArray∧H'=H):=by
 have h1:=jgX ws
 have h2:=jgX vs
 have hlen:=ok.len
 have heq: ¬(((natL vs).length:Nat):Int)≠((natL ws).length:Nat):=by omega
 refine Call.enter2 (n:=33) (by rfl) Tryz.func305 rfl rfl rfl ?_;refine zG ?_;refine KL.e rfl (Eff.box rfl (by assumption)) ?_;rintro _ _ ⟨b3,rfl,rfl⟩;refine zt ?_;refine ze2 ?_;refine jp (all_K ok (hS.part ja)) ?_;refine zY ?_;refine zbR ?_;refine ziK ?_;refine zjV ?_;refine zQ ?_;refine zjV ?_;refine zaj ?_;refine zaX ?_;refine zbe ?_;intro b8;refine zgC ?_;refine zbk fun T hT=>?_;refine(CallV.fn (each_K (ws:=ws) (fun k A=>A=(b8,cells [.int .u64 (packK ws vs k:Nat)] 34)::(b3,cells [vv] 47)::H) ok (fun i A hA=>by rw[hA];exact hS.part (Part.drop (Part.drop Part.all))) ?_ rfl)).mono ?_
 ·rintro i n A hi rfl
  obtain⟨g1,g2,g3⟩:=ws_at ok hi
  obtain⟨v,hv⟩:=jh (l:=vs) (k:=i) (by grind)
  have hx:=natL_at hv
  have hxl:=jv hx
  have hpl:=jli hl hf i (by omega)
  have hps:=jc6 (ws:=ws) hv
  have hvn:=hf i n v hi hv
  refine CallV.clo (cap:=[.pointer (some ⟨b8,0,none⟩), .pointer (some ⟨b3,0,none⟩)]) ?_;refine Call.enter5 (n:=21) (by rfl) Tryz.func329 rfl rfl rfl ?_;refine zg4 ?_;refine zJ ?_
  (first|refine K.seq (K.drawn ((b3,cells [vv] 47)::H) [(0,0),(1,0),(2,0),(3,0),(4,0),(5,0),(6,0),(7,2),(8,0),(9,0),(10,1),(11,2),(12,0)] (by rfl) (by rfl) (by kernel_rfl) (by rfl) (by rfl) (by rfl) ja ?_)|refine K.seq (K.seq (K.drawn ((b3,cells [vv] 47)::H) [(0,0),(1,0),(2,0),(3,0),(4,0),(5,0),(6,0),(7,2),(8,0),(9,0),(10,1),(11,2),(12,0)] (by kernel_rfl) (by kernel_rfl) (by kernel_rfl) (by kernel_rfl) (by kernel_rfl) (by kernel_rfl) ja ?_))|refine K.drawn ((b3,cells [vv] 47)::H) [(0,0),(1,0),(2,0),(3,0),(4,0),(5,0),(6,0),(7,2),(8,0),(9,0),(10,1),(11,2),(12,0)] (by kernel_rfl) (by kernel_rfl) (by kernel_rfl) (by kernel_rfl) (by kernel_rfl) (by kernel_rfl) ja ?_)
  refine zaC ?_;refine zbo ?_;refine zaC ?_;refine zo ?_;refine zrY ?_;refine zaC ?_;refine zk fun T hT=>?_;refine(CallV.fn (fSet_K hpl g1 g2 hvn)).mono ?_;rintro _ _ ⟨rfl,rfl⟩;refine zi ?_;clear hT T;refine zlf ?_;refine zkt ?_;refine zcp ?_;refine zcv ?_;refine zib ?_;exact KE.fin je rfl jd ja ⟨rfl,by grind⟩
 ·rintro _ _ ⟨rfl,rfl⟩;refine ze ?_;clear hT T;refine zcC ?_;refine zw ?_;refine zj ?_;exact zb5
def digK (ws:List Nat) (w k:Nat):List Nat:=(List.range k).map fun i=>w/2^(ws.take i).sum%2^((ws[i]?).getD 0)
theorem jdt {ws:List Nat} {w k n:Nat} (h:ws[k]?=some n):digK ws w (k+1)=digK ws w k++ [w/2^(ws.take k).sum%2^n]:=by
 unfold digK;rw[List.range_succ,List.map_append];simp[h]
theorem digK_len (ws:List Nat) (w k:Nat):(digK ws w k).length=k:=by simp[digK]
theorem jlR {w0:World} {H:jb} {v:Value} {ws:List Nat} {w:Nat} (ok:WsOk ws) (hs64:ws.sum=64) (hw:w<18446744073709551616) (hS:Sli w0 H iE v (natL ws)):
  Call Tryz.prog w0 214 [v, .int .u64 (w:Nat)] H (fun r H'=> ∃ o,oOk uE (natL (digK ws w ws.length)) o∧r= .tuple [oV o (natL (digK ws w ws.length)).length, .int .i64 0].toArray∧H'=oH uE 34 (natL (digK ws w ws.length)) o++H):=by
 have h1:=jgX ws
 have hlen:=ok.len
 have hbl:=jkJ (n:=64) hw (by omega)
 have hng: ¬((Lib.bitLen w:Nat):Int)>((64:Nat):Int):=by omega
 refine Call.enter2 (n:=31) (by rfl) Tryz.func214 rfl rfl rfl ?_;refine zes ?_;intro b3;refine zap ?_;refine zu fun T hT=>?_;refine(CallV.fn (all_K ok (hS.part ja))).mono ?_;rintro _ _ ⟨rfl,rfl⟩;rw[hs64];refine ze ?_;clear hT T;refine zeI ?_;refine zcw ?_;refine zaI ?_;refine jp (len64_K hw) ?_;refine zj ?_;refine zaA ?_;refine zbA ?_;refine zbe ?_;intro b8;refine zcg ?_;refine zbk fun T hT=>?_;refine(CallV.fn (each_K (ws:=ws) (fun k A=> ∃ o,oOk uE (natL (digK ws w k)) o∧A=oH uE 34 (natL (digK ws w k)) o++((b8,cells [oV o (natL (digK ws w k)).length] 47)::(b3,cells [.int .u64 (w:Nat)] 34)::H)) ok (fun i A hA=>by obtain⟨o,_,rfl⟩:=hA;exact hS.part ja) ?_ ⟨none,rfl,rfl⟩)).mono ?_
 ·rintro i n A hi ⟨o,ko,rfl⟩
  obtain⟨g1,g2,g3⟩:=ws_at ok hi
  have hds:=jdt (w:=w) hi
  have hnx:natL (digK ws w (i+1))=natL (digK ws w i)++ [((w/2^(ws.take i).sum%2^n:Nat):Int)]:=by grind[natL]
  have hil:=jv hi
  have hbd:(natL (digK ws w i)++ [((w/2^(ws.take i).sum%2^n:Nat):Int)]).length≤4294967296:=by grind[jgX,digK_len]
  refine CallV.clo (cap:=[.pointer (some ⟨b3,0,none⟩), .pointer (some ⟨b8,0,none⟩)]) ?_;refine Call.enter5 (n:=23) (by rfl) Tryz.func279 rfl rfl rfl ?_;refine zav ?_;refine zw ?_;refine zbq ?_;refine jp (fGet_K hw g1 g2) ?_;refine zcC ?_;refine zw ?_;refine zj ?_;refine zar ?_;intro b20;refine KL.e rfl (Eff.appZ (ys:=[_]) rfl rfl rfl rfl rfl rfl jj (by omega) (by first|exact Sli.blk ju rfl (by grind) (by first|decide|(unfold maxLen;omega)) rfl|exact Sli.old (by assumption)|exact Sli.own jj (by assumption) jF|assumption|exact Sli.part (by assumption) ja) rfl (by omega) rfl) ?_;rintro _ _ ⟨o21,ok21,rfl,rfl⟩;refine zgC ?_;refine zm ?_;rw[←hnx] at ok21⊢;exact KE.fin je rfl jd ja ⟨rfl,o21,ok21,rfl⟩
 ·rintro _ _ ⟨rfl,o,ko,rfl⟩;refine ze ?_;clear hT T;refine zbF ?_;refine zgs ?_;refine zj ?_;refine zab ?_;exact KE.fin je rfl jd ja ⟨o,ko,rfl,rfl⟩
end Go.Proofs.YtebiafomiemgbaaGreatDoor.Sw
