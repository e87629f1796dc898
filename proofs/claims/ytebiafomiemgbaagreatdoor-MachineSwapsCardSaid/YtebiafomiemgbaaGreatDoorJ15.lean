/-The walker and the contracts that the law needs,part 15. -/
import Derived.Test.YtebiafomiemgbaaGreatDoorJ14
set_option linter.unusedVariables false set_option linter.unusedSimpArgs false set_option linter.unusedVariables false
set_option linter.unusedSimpArgs false
namespace Go.Proofs.YtebiafomiemgbaaGreatDoor.Sw
set_option maxHeartbeats 8000000
open Go.Proofs.YtebiafomiemgbaaGreatDoor renaming lo → qL, hi → qH
open Go.RowKit
set_option maxRecDepth 10000
structure jaM where
 b:Nat
 bs:List Bool
 o:Own
def jN (r:jaM):jb:=(r.b,cells [oV r.o (wordsOf r.bs).length, .int .i64 (r.bs.length:Nat), .bool true] 262)::oH uE 34 (wordsOf r.bs) r.o
theorem Jw {r:jaM} {F:jb}:jN r++F=(r.b,cells [oV r.o (wordsOf r.bs).length, .int .i64 (r.bs.length:Nat), .bool true] 262)::(oH uE 34 (wordsOf r.bs) r.o++F):=rfl
structure RowOk (r:jaM):Prop where
 o:oOk uE (wordsOf r.bs) r.o
 n:r.bs.length≤65536
def getB (bs:List Bool) (i:Int):Bool:=decide (0≤i)&&(bs[i.toNat]?).getD false
theorem rnone_K {w0:World} {H:jb} {b:Nat} (hS:jJ w0 H ⟨b,2,none⟩ (.bool true)):
  Call Tryz.prog w0 228 [.pointer (some ⟨b,0,none⟩)] H (fun r H'=>r= .bool false∧H'=H):=by
 refine Call.enter1 (n:=12) (by rfl) Tryz.func228 rfl rfl rfl ?_;refine zeA ?_;refine zaz ?_;refine zl ?_;refine zdm ?_;refine zha ?_;exact zq
theorem jhs {w0:World} {F:jb} {r:jaM}:
  Call Tryz.prog w0 234 [.pointer (some ⟨r.b,0,none⟩)] (jN r++F) (fun v H'=>v= .int .i64 (r.bs.length:Nat)∧H'=jN r++F):=by
 refine Call.enter1 (n:=9) (by rfl) Tryz.func234 rfl rfl rfl ?_;simp only[Jw];refine zaf ?_;refine jp (rnone_K (jJ.cell ju rfl)) ?_;refine zas ?_;refine zae ?_;refine zm ?_;exact zp9
theorem has_K {w0:World} {F:jb} {r:jaM} {i:Int}:
  Call Tryz.prog w0 245 [.pointer (some ⟨r.b,0,none⟩), .int .i64 i] (jN r++F) (fun v H'=>v= .bool (decide (0≤i∧i<(r.bs.length:Nat)))∧H'=jN r++F):=by
 refine Call.enter2 (n:=13) (by rfl) Tryz.func245 rfl rfl rfl ?_
 by_cases h:i≥0
 ·refine zfg ?_;refine zap ?_;refine zac ?_;refine ze3 ?_;refine zp ?_;refine jp (jhs (r:=r)) ?_
  by_cases h2:i<(r.bs.length:Nat)
  ·have e:decide (0≤i∧i<(r.bs.length:Nat))=true:=decide_eq_true ⟨h,h2⟩
   refine zl ?_;refine zI ?_;refine zdh ?_;exact zqa
  ·have e:decide (0≤i∧i<(r.bs.length:Nat))=false:=decide_eq_false (by omega)
   refine zl ?_;refine zW ?_;refine zdh ?_;exact zqa
 ·have e:decide (0≤i∧i<(r.bs.length:Nat))=false:=decide_eq_false (by omega)
  refine zfT ?_;refine zbS ?_;refine zdT ?_;refine zcA ?_;exact zqa
theorem jhh {bs:List Bool} {i:Nat}:getB bs (i:Int)=(bs[i]?).getD false:=by rfl
theorem getB_out {bs:List Bool} {i:Int} (h: ¬(0≤i∧i<(bs.length:Nat))):getB bs i=false:=by
 grind[getB]
theorem Get_K {w0:World} {F:jb} {r:jaM} {i:Int} (ok:RowOk r):
  Call Tryz.prog w0 243 [.pointer (some ⟨r.b,0,none⟩), .int .i64 i] (jN r++F) (fun v H'=>v= .bool (getB r.bs i)∧H'=jN r++F):=by
 have ok1:=ok.o
 have hn:=ok.n
 refine Call.enter2 (n:=23) (by rfl) Tryz.func243 rfl rfl rfl ?_;refine zc6 ?_;refine zu fun T hT=>?_;refine(CallV.fn (has_K (r:=r) (i:=i))).mono ?_;rintro _ _ ⟨rfl,rfl⟩
 by_cases h:0≤i∧i<(r.bs.length:Nat)
 ·obtain⟨k,rfl⟩: ∃ k:Nat,i=k:=⟨i.toNat,by omega⟩
  have hk:k<r.bs.length:=by omega
  have hx:(wordsOf r.bs)[((k:Int)/64).toNat]?=some ((wordN r.bs (k/64):Nat):Int):=by
   rw[show((k:Int)/64).toNat=k/64 by omega];grind[jkQ]
  have hlt:((k:Int)/64).toNat<(wordsOf r.bs).length:=jv hx
  have hm:(k:Int)%64=((k%64:Nat):Int):=by omega
  have hlw:=jgM r.bs (k/64)
  have hdl:wordN r.bs (k/64)/2^(k%64)<18446744073709551616:=Nat.lt_of_le_of_lt (Nat.div_le_self _ _) hlw
  rw[decide_eq_true h];refine ze ?_;clear hT T;simp only[Jw];refine zj ?_;refine zku ?_
  (first|refine KL.skipG rfl rfl rfl ?_|refine KL.skipU rfl rfl rfl ?_|(refine KL.yes rfl rfl ?_;refine KL.v rfl (Val.nilCheck rfl) ?_)|(refine KL.yes rfl rfl ?_;refine KL.v rfl (Val.nilCheckF rfl) ?_)|(refine KL.yes rfl rfl ?_;refine KL.v rfl (Val.nilCheckY rfl) ?_))
  (first|refine KL.skipG rfl rfl rfl ?_|refine KL.skipU rfl rfl rfl ?_|(refine KL.yes rfl rfl ?_;refine KL.v rfl (Val.fieldSl (k:=0) rfl rfl) ?_)|(refine KL.yes rfl rfl ?_;refine KL.v rfl (Val.fieldAddr0 (k:=0) rfl rfl) ?_)|(refine KL.yes rfl rfl ?_;refine KL.v rfl (Val.fieldAddrZ rfl rfl) ?_)|(refine KL.yes rfl rfl ?_;refine KL.v rfl (Val.fieldAddr (k:=0) rfl rfl) ?_))
  refine zrZ ?_;refine zku ?_
  (first|refine KL.skipG rfl rfl rfl ?_|refine KL.skipU rfl rfl rfl ?_|(refine KL.yes rfl rfl ?_;refine KL.v rfl (Val.quoN rfl rfl (by grind[qL,qH])) ?_)|(refine KL.yes rfl rfl ?_;refine KL.v rfl (Val.quo rfl rfl (by omega)) ?_))
  (first|refine KL.skipG rfl rfl rfl ?_|refine KL.skipU rfl rfl rfl ?_|(refine KL.yes rfl rfl ?_;refine KL.v rfl (Val.idxSl rfl rfl rfl jab rfl jO) ?_)|(refine KL.yes rfl rfl ?_;refine KL.v rfl (Val.idxSlZ rfl rfl rfl jab rfl (by omega)) ?_)|(refine KL.yes rfl rfl ?_;refine KL.v rfl (Val.indexS1 rfl rfl rfl rfl (by omega)) ?_)|(refine KL.yes rfl rfl ?_;refine KL.v rfl (Val.indexS rfl rfl rfl rfl (by omega)) ?_)|(refine KL.yes rfl rfl ?_;refine KL.v rfl (Val.indexSO rfl rfl rfl rfl (by omega)) ?_)|(refine KL.yes rfl rfl ?_;refine KL.v rfl (Val.indexSG rfl rfl rfl rfl (by omega)) ?_))
  refine zrZ ?_;refine zku ?_
  (first|refine KL.skipG rfl rfl rfl ?_|refine KL.skipU rfl rfl rfl ?_|(refine KL.yes rfl rfl ?_;refine KL.v rfl (Val.remN rfl rfl (by omega)) ?_)|(refine KL.yes rfl rfl ?_;refine KL.v rfl (Val.rem rfl rfl (by omega)) ?_))
  rw[hm]
  (first|refine KL.skipG rfl rfl rfl ?_|refine KL.skipU rfl rfl rfl ?_|(refine KL.yes rfl rfl ?_;refine KL.v rfl (Val.shr rfl rfl (by omega)) ?_))
  rw[jdF (j:=k%64) (by omega)]
  (first|refine KL.skipG rfl rfl rfl ?_|refine KL.skipU rfl rfl rfl ?_|(refine KL.yes rfl rfl ?_;refine KL.v rfl (Val.and rfl rfl) ?_))
  rw[and_one hdl]
  have hg:=get_bit (bs:=r.bs) (i:=k) hk
  (first|refine KL.skipG rfl rfl rfl ?_|refine KL.skipU rfl rfl rfl ?_|(refine KL.yes rfl rfl ?_;refine KL.v rfl (Val.isT (Val.eql rfl rfl) jO) ?_)|(refine KL.yes rfl rfl ?_;refine KL.v rfl (Val.isF (Val.eql rfl rfl) jO) ?_)|(refine KL.yes rfl rfl ?_;refine KL.v rfl (Val.eql rfl rfl) ?_))
  refine zr0 ?_;refine zm ?_;exact KE.fin je rfl jd (by first|exact ja|(simp only[Jw];exact ja)) ⟨by rw[jhh,←hg];rfl,rfl⟩
 ·rw[decide_eq_false h]
  have hg:=getB_out (bs:=r.bs) h
  refine ze ?_;clear hT T;rw[hg];refine zdZ ?_;refine zcM ?_;refine zcM ?_;refine zcM ?_;refine zgN ?_;refine zx ?_;exact zq
def JR (r:jaM) (k:Nat) (v:Bool):jaM:=⟨r.b,r.bs.set k v,r.o⟩
theorem jeL {r:jaM} (ok:RowOk r) (k:Nat) (v:Bool):RowOk (JR r k v):=by
 refine⟨?_,by simpa [JR] using ok.n⟩
 have h:=ok.o
 simp_all[wordsOf,JR,oOk]
theorem jht {j:Nat} (h:j<64):2^j<18446744073709551616:=by
 have:2^j<2^64:=Nat.pow_lt_pow_right (by omega) h
 omega
theorem je5 {w0:World} {F:jb} {r:jaM} {k:Nat} {v:Bool} (ok:RowOk r) (hk:k<r.bs.length):
  Call Tryz.prog w0 188 [.pointer (some ⟨r.b,0,none⟩), .int .i64 (k:Nat), .bool v] (jN r++F) (fun u H'=>u= .int .i64 0∧H'=jN (JR r k v)++F):=by
 have ok1:=ok.o
 have hn:=ok.n
 have hx:(wordsOf r.bs)[((k:Int)/64).toNat]?=some ((wordN r.bs (k/64):Nat):Int):=by
  rw[show((k:Int)/64).toNat=k/64 by omega];grind[jkQ]
 have hlt:((k:Int)/64).toNat<(wordsOf r.bs).length:=jv hx
 have hm:(k:Int)%64=((k%64:Nat):Int):=by omega
 have hlw:=jgM r.bs (k/64)
 have hpl:=jht (j:=k%64) (by omega)
 have hk64:((k:Int)/64).toNat=k/64:=by omega
 have hws:=words_set (v:=v) hk
 have hle:(wordsOf (r.bs.set k v)).length=(wordsOf r.bs).length:=by grind
 refine Call.enter3 (n:=43) (by rfl) Tryz.func188 rfl rfl rfl ?_;refine zL ?_;refine zdl ?_;refine zz fun T hT=>?_;simp only[Jw];refine znZ ?_;rintro _ _ ⟨rfl,rfl⟩;refine ze ?_;clear hT T;refine zcw ?_;refine za9 fun T hT=>?_;refine(CallV.part (CallV.fn (has_K (r:=r) (i:=(k:Nat)))) (by first|exact ja|(simp only[Jw];exact ja))).mono ?_;rintro _ _ ⟨rfl,rfl⟩;rw[decide_eq_true (show 0≤((k:Nat):Int)∧((k:Nat):Int)<(r.bs.length:Nat) by omega)];refine ze ?_;clear hT T;simp only[Jw]
 cases v with
 |true=>
  simp only[if_true] at hws;refine zy ?_;refine zd0 ?_;refine zt ?_;refine zaR ?_;refine zkv ?_;refine zhC ?_;refine ziX ?_;refine zcI ?_;refine zfA ?_;refine zo ?_;refine zlE ?_;refine KD.v0 rfl rfl (Val.shl rfl rfl (by omega)) ?_;refine KD.v0 rfl rfl (Val.or rfl rfl) ?_;refine zcI ?_;refine zlF ?_;refine zfU ?_;refine zaw ?_;refine zdf ?_;rw[hm,ji5 (j:=k%64) (by omega),or_nat hlw hpl,←hws];simp only[JR,List.length_set,hle];exact zp9
 |false=>
  simp only[Bool.false_eq_true,if_false] at hws;refine zy ?_;refine zd0 ?_;refine zt ?_;refine zlG ?_;refine zkv ?_;refine zhC ?_;refine ziX ?_;refine zcI ?_;refine zfA ?_;refine zo ?_;refine zlE ?_;refine KD.v0 rfl rfl (Val.shl rfl rfl (by omega)) ?_;refine KD.v0 rfl rfl (Val.andNot rfl rfl) ?_;refine zcI ?_;refine zlF ?_;refine zfU ?_;refine zaw ?_;refine zdf ?_;rw[hm,ji5 (j:=k%64) (by omega),jiH hlw hpl,←hws];simp only[JR,List.length_set,hle];exact zp9
theorem jgU (n:Nat):(List.replicate n false).length=n:=List.length_replicate
theorem jgk {w0:World} {H:jb} {n:Nat} (hn:n≤65536):
  Call Tryz.prog w0 134 [.int .i64 (n:Nat)] H (fun v H'=> ∃ r,RowOk r∧r.bs=List.replicate n false∧v= .tuple [.pointer (some ⟨r.b,0,none⟩), .int .i64 0].toArray∧H'=jN r++H):=by
 have h1:((n:Int)+64-1)/64=(((n+63)/64:Nat):Int):=by omega
 refine Call.enter1 (n:=18) (by rfl) Tryz.func134 rfl rfl rfl ?_;refine zL ?_;refine zad ?_;refine zW ?_;refine zfw ?_;refine zax ?_;refine zZ ?_;refine zhK ?_;refine zp5 ?_;refine zr1 ?_;rw[h1];refine KL.e rfl (Eff.makeR (E:=uE) (x0:=0) rfl rfl rfl rfl rfl rfl (by omega)) ?_;rintro _ _ ⟨o14,ok14,rfl,rfl⟩;refine zj ?_;refine zgK ?_;intro b17
 have hw:=jjX n
 rw[←hw] at ok14⊢;exact KE.fin (H':=jN ⟨b17,List.replicate n false,o14⟩++H) je rfl jd (by rw[Jw,jgU];exact ja) ⟨⟨b17,List.replicate n false,o14⟩,⟨ok14,by grind⟩,rfl,rfl,rfl⟩
theorem jjp {w0:World} {F:jb} {r:jaM} (ok:RowOk r):
  Call Tryz.prog w0 339 [.pointer (some ⟨r.b,0,none⟩)] (jN r++F) (fun u H'=>u= .tuple #[]∧ ∃ r',RowOk r'∧r'.b=r.b∧r'.bs=List.replicate r.bs.length false∧H'=jN r'++F):=by
 have ok1:=ok.o
 refine Call.enter1 (n:=9) (by rfl) Tryz.func339 rfl rfl rfl ?_;refine zG ?_;refine zz fun T hT=>?_;simp only[Jw];refine znZ ?_;rintro _ _ ⟨rfl,rfl⟩;refine ze ?_;clear hT T;refine zag ?_;refine zak ?_;refine zF ?_;refine zN ?_;refine KL.eN (Eff.clearS (x0:=(0:Int)) (i:=0) rfl (clr_all (by assumption)) rfl rfl (Nat.zero_le _) (Nat.le_refl _) jj (by omega)) ?_;rintro _ _ ⟨rfl,okc,rfl⟩;refine zR ?_
 skip
 have hw:cleared (wordsOf r.bs) 0 (wordsOf r.bs).length 0=wordsOf (List.replicate r.bs.length false):=by rw[jjE,jjX,jcl]
 rw[hw] at okc⊢
 have hl:(wordsOf (List.replicate r.bs.length false)).length=(wordsOf r.bs).length:=by grind[jcl,jgU]
 exact KE.finN (H':=jN ⟨r.b,List.replicate r.bs.length false,r.o⟩++F) je rfl jd (by simp only[Jw,jgU,hl];exact ja) ⟨rfl,⟨r.b,List.replicate r.bs.length false,r.o⟩,⟨okc,by rw[jgU];exact ok.n⟩,rfl,rfl,rfl⟩
open Go.RowKit
set_option maxRecDepth 10000
theorem and_i64 {a b:Nat} (ha:a<9223372036854775808) (hb:b<9223372036854775808):JW .and .i64 (a:Int) (b:Int)=((a&&&b:Nat):Int):=by
 show IntKind.i64.wrap ((BitVec.ofInt 64 (a:Int)&&&BitVec.ofInt 64 (b:Int)).toNat:Int)=_
 rw[BitVec.toNat_and,jeW (by omega),jeW (by omega)]
 have:=Nat.and_lt_two_pow a (n:=63) (y:=b) (by omega)
 grind[qL,qH,jeJ]
theorem ones_K {w0:World} {H:jb} {l:List Bool} (hl:l.length≤64):
  Call Tryz.prog w0 334 [.int .u64 (bitsN l:Nat)] H (fun r H'=>r= .int .i64 (l.count true:Nat)∧H'=H):=by
 have hx64:bitsN l<18446744073709551616:=by
  have h:=jg3 l
  have h2:2^l.length≤2^64:=Nat.pow_le_pow_right (by omega) hl
  omega
 have hlaw:=fun x a b c=>pop_law hl (x:=x) (a:=a) (b:=b) (c:=c)
 obtain⟨x,hx⟩: ∃ x,x=bitsN l:=⟨_,rfl⟩
 rw[←hx] at hx64 hlaw⊢;clear hx
 --the steps
 obtain⟨u1,hu1⟩: ∃ u,u=x/2&&&6148914691236517205:=⟨_,rfl⟩
 obtain⟨v1,hv1⟩: ∃ u,u=x&&&6148914691236517205:=⟨_,rfl⟩
 obtain⟨x1,hx1⟩: ∃ u,u=u1+v1:=⟨_,rfl⟩
 obtain⟨u2,hu2⟩: ∃ u,u=x1/4&&&3689348814741910323:=⟨_,rfl⟩
 obtain⟨v2,hv2⟩: ∃ u,u=x1&&&3689348814741910323:=⟨_,rfl⟩
 obtain⟨x2,hx2⟩: ∃ u,u=u2+v2:=⟨_,rfl⟩
 obtain⟨u3,hu3⟩: ∃ u,u=x2/16:=⟨_,rfl⟩
 obtain⟨v3,hv3⟩: ∃ u,u=u3+x2:=⟨_,rfl⟩
 obtain⟨x3,hx3⟩: ∃ u,u=v3&&&1085102592571150095:=⟨_,rfl⟩
 obtain⟨a,ha⟩: ∃ u,u=x3+x3/256:=⟨_,rfl⟩
 obtain⟨b,hb⟩: ∃ u,u=a+a/65536:=⟨_,rfl⟩
 obtain⟨c,hc⟩: ∃ u,u=b+b/4294967296:=⟨_,rfl⟩
 have bu1:u1≤6148914691236517205:=by rw[hu1];exact Nat.and_le_right
 have bv1:v1≤6148914691236517205:=by rw[hv1];exact Nat.and_le_right
 have bu2:u2≤3689348814741910323:=by rw[hu2];exact Nat.and_le_right
 have bv2:v2≤3689348814741910323:=by rw[hv2];exact Nat.and_le_right
 have bx3:x3≤1085102592571150095:=by rw[hx3];exact Nat.and_le_right
 obtain⟨k1,k2,k3,k4⟩:=hlaw x3 a b c (by grind[g3,g2,g1,rep_85,rep_51,rep_15]) ha hb hc
 have s1:(x:Int).fdiv (2^(min (Int.toNat 1) IntKind.u64.bits))=((x/2:Nat):Int):=jdF (j:=1) (by omega)
 have s2:(x1:Int).fdiv (2^(min (Int.toNat 2) IntKind.u64.bits))=((x1/4:Nat):Int):=jdF (j:=2) (by omega)
 have s3:(x2:Int).fdiv (2^(min (Int.toNat 4) IntKind.u64.bits))=((x2/16:Nat):Int):=jdF (j:=4) (by omega)
 have s4:(x3:Int).fdiv (2^(min (Int.toNat 8) IntKind.u64.bits))=((x3/256:Nat):Int):=jdF (j:=8) (by omega)
 have s5:(a:Int).fdiv (2^(min (Int.toNat 16) IntKind.u64.bits))=((a/65536:Nat):Int):=jdF (j:=16) (by omega)
 have s6:(b:Int).fdiv (2^(min (Int.toNat 32) IntKind.u64.bits))=((b/4294967296:Nat):Int):=jdF (j:=32) (by omega)
 have m1:JW .and .u64 ((x/2:Nat):Int) 6148914691236517205=(u1:Int):=by rw[hu1];exact jeg (b:=6148914691236517205) (by omega) (by omega)
 have m2:JW .and .u64 (x:Int) 6148914691236517205=(v1:Int):=by grind[jeg]
 have m3:JW .and .u64 ((x1/4:Nat):Int) 3689348814741910323=(u2:Int):=by rw[hu2];exact jeg (b:=3689348814741910323) (by omega) (by omega)
 have m4:JW .and .u64 (x1:Int) 3689348814741910323=(v2:Int):=by grind[jeg]
 have m5:JW .and .u64 (v3:Int) 1085102592571150095=(x3:Int):=by grind[jeg]
 have m6:JW .and .i64 (c:Int) 127=(l.count true:Nat):=by
  rw[show JW .and .i64 (c:Int) 127=((c&&&127:Nat):Int) from and_i64 (b:=127) (by omega) (by omega),show(127:Nat)=2^7-1 by decide,Nat.and_two_pow_sub_one_eq_mod,show 2^7=128 by decide,k1]
 have t1:(u1:Int)+(v1:Int)=(x1:Int):=by omega
 have t2:(u2:Int)+(v2:Int)=(x2:Int):=by omega
 have t3:((x2/16:Nat):Int)+(x2:Int)=(v3:Int):=by omega
 have t4:(x3:Int)+((x3/256:Nat):Int)=(a:Int):=by omega
 have t5:(a:Int)+((a/65536:Nat):Int)=(b:Int):=by omega
 have t6:(b:Int)+((b/4294967296:Nat):Int)=(c:Int):=by omega
 clear hu1 hv1 hu2 hv2 hx3 k1 hlaw;refine Call.enter1 (n:=35) (by rfl) Tryz.func334 rfl rfl rfl ?_;refine zrE ?_;refine zgL ?_;rw[s1];refine ziY ?_;rw[m1];refine zj ?_;refine ziY ?_;rw[m2];refine zhK ?_;rw[t1];refine zU ?_;refine zZ ?_;refine zgL ?_;rw[s2];refine ziY ?_;rw[m3];refine zj ?_;refine ziY ?_;rw[m4];refine zhK ?_;rw[t2];refine zU ?_;refine zZ ?_;refine zgL ?_;rw[s3];refine zj ?_;refine zhK ?_;rw[t3];refine ziY ?_;rw[m5];refine zht ?_;refine zgL ?_;rw[s4];refine zhK ?_;rw[t4];refine zht ?_;refine zgL ?_;rw[s5];refine zhK ?_;rw[t5];refine zht ?_;refine zgL ?_;rw[s6];refine zhK ?_;rw[t6];refine zU ?_;refine zZ ?_;refine zr2 ?_;refine ziY ?_;rw[m6];exact zq
theorem Count_K {w0:World} {F:jb} {r:jaM} (ok:RowOk r):
  Call Tryz.prog w0 316 [.pointer (some ⟨r.b,0,none⟩)] (jN r++F) (fun u H'=>u= .int .i64 (r.bs.count true:Nat)∧H'=jN r++F):=by
 have ok1:=ok.o
 have hn:=ok.n
 have hwl:(wordsOf r.bs).length≤1024:=by grind[jcl]
 have hcb: ∀ k,(r.bs.take k).count true≤65536:=fun k=>Nat.le_trans List.count_le_length (by grind)
 refine Call.enter1 (n:=24) (by rfl) Tryz.func316 rfl rfl rfl ?_;refine zav ?_;refine zad ?_;refine zu fun T hT=>?_;simp only[Jw];refine znZ ?_;rintro _ _ ⟨rfl,rfl⟩;refine ze ?_;clear hT T;refine zaQ ?_;refine zF ?_;refine zN ?_;refine zhL ?_;refine zbj ?_;refine K.loopT (σ:=Nat) [(12,_),(13,_)] (fun s kp_=>(14, .int .i64 (s:Nat))::(3, .int .i64 ((r.bs.take (64*s)).count true:Nat))::kp_) (fun s=>(r.b,cells [oV r.o (wordsOf r.bs).length, .int .i64 (r.bs.length:Nat), .bool true] 262)::(oH uE 34 (wordsOf r.bs) r.o++F)) (fun s=>s≤(wordsOf r.bs).length) (fun s=>(wordsOf r.bs).length-s) (0) jc ja (by omega) ?_;rintro k hk
 have hck:=hcb (64*k)
 by_cases hlt:k<(wordsOf r.bs).length
 ·have hx:=jfa (bs:=r.bs) (k:=k) (by rw[jcl] at hlt;exact hlt)
  have hl:((r.bs.drop (64*k)).take 64).length≤64:=by rw[List.length_take];omega
  have hsum:((r.bs.take (64*(k+1))).count true:Nat)=(r.bs.take (64*k)).count true+((r.bs.drop (64*k)).take 64).count true:=by
   rw[show 64*(k+1)=64*k+64 by omega,List.take_add,List.count_append]
  have hcl:((r.bs.drop (64*k)).take 64).count true≤64:=Nat.le_trans List.count_le_length hl
  unfold wordN at hx;refine zg2 ?_;refine zcK ?_;refine zn0 ?_;refine zfi ?_;refine zbq ?_;refine jp (ones_K hl) ?_;refine zbl ?_;refine zaK ?_;refine zb0 ?_;exact zee
 ·have he:r.bs.take (64*k)=r.bs:=List.take_of_length_le (by rw[jcl] at hlt;omega)
  rw[he];refine zc5 ?_;refine zbw ?_;exact zq
theorem jiV {w0:World} {v:Value} {l:List Int} (hS:SlW w0 uE v l) (hl:l.length≤4294967296):
  Call Tryz.prog w0 57 [v] [] (fun r H'=> ∃ o,oOk uE l o∧r=oV o l.length∧H'=oH uE 34 l o):=by
 refine Call.enter1 (n:=8) (by rfl) Tryz.func57 rfl rfl rfl ?_
 have hS0:=hS
 obtain⟨a,c,rfl,h1,h2,h3⟩:=hS.shape
 cases a with
 |none=>
  have hn:l=[]:=by
   grind
  subst hn;refine zai ?_;refine zgO ?_;refine zgx ?_;exact zn1
 |some a=>
  refine zai ?_;refine zgO ?_;refine zK ?_;refine zfp ?_;intro b5;refine KL.e rfl (Eff.appLit (E:=uE) (ys:=l) rfl rfl rfl rfl rfl rfl rfl ju (by first|exact Sli.blk ju rfl (by first|decide|simp) (by first|decide|(unfold maxLen;omega)) rfl|exact Sli.old (by assumption)|exact Sli.own jj (by assumption) jF|assumption|exact Sli.part (by assumption) ja) (by omega) rfl) ?_;rintro _ _ ⟨o',ok',rfl,rfl⟩;refine zm ?_;exact zn2
theorem ji8 {w0:World} {F:jb} {r:jaM} (ok:RowOk r):
  Call Tryz.prog w0 172 [.pointer (some ⟨r.b,0,none⟩)] (jN r++F) (fun u H'=> ∃ r',RowOk r'∧r'.bs=r.bs∧u= .pointer (some ⟨r'.b,0,none⟩)∧H'=jN r'++(jN r++F)):=by
 have ok1:=ok.o
 have hn:=ok.n
 have hwl:(wordsOf r.bs).length≤1024:=by grind[jcl]
 refine Call.enter1 (n:=16) (by rfl) Tryz.func172 rfl rfl rfl ?_;refine zai ?_;refine zu fun T hT=>?_;simp only[Jw];refine znZ ?_;rintro _ _ ⟨rfl,rfl⟩;refine ze ?_;clear hT T;refine zb8 ?_;refine K.drawn _ [(0,0),(1,0),(2,0),(3,0),(5,1),(6,1),(7,1),(8,1),(4,2),(9,0),(10,2),(11,0)] (by rfl) (by rfl) (by kernel_rfl) (by rfl) (by rfl) (by rfl) Part.all ?_;refine zcT ?_;refine zeP ?_;refine ziZ ?_;refine zaJ ?_;refine zk fun T hT=>?_;refine(CallV.pure fun w hw=>CallV.fn (jiV (Sli.own jj ok1 rfl w hw) (by omega))).mono ?_;rintro _ _ ⟨_,⟨o1,ko1,rfl,rfl⟩,rfl⟩;refine zi ?_;clear hT T;refine zrV ?_;intro b15;refine zpO ?_;exact KE.fin (H':=jN ⟨b15,r.bs,o1⟩++(jN r++F)) je rfl jd (by first|exact ja|(simp only[Jw];exact ja)) ⟨⟨b15,r.bs,o1⟩,⟨ko1,hn⟩,rfl,rfl,rfl⟩
set_option maxRecDepth 10000
def jE (n:Nat→Nat):Nat→Nat
 |0=>0
 |k+1=>jE n k+n k
def cutL {β:Type} (n:Nat→Nat) (f:Nat→Nat→β):Nat→List β
 |0=> []
 |m+1=>cutL n f m++(List.range (n m)).map (f m)
section
variable {β : Type} {n : Nat → Nat} {f : Nat → Nat → β}
theorem jfm: ∀ m,(cutL n f m).length=jE n m
 |0=>rfl
 |m+1=>by simp[cutL,jE,jfm m]
theorem jii {k m:Nat} (h:k≤m):jE n k≤jE n m:=by
 induction m with
 |zero=>grind
 |succ m ih=>
  grind[jE]
theorem jdu {k m:Nat} (h:k<m):jE n k+n k≤jE n m:=jii (n:=n) (show k+1≤m from h)
theorem jf7 {k d:Nat}: ∀ {m:Nat},k<m→d<n k→(cutL n f m)[jE n k+d]?=some (f k d)
 |m+1,hk,hd=>by
  rw[cutL]
  by_cases h:k=m
  ·subst h;rw[List.getElem?_append_right (by rw[jfm];omega),jfm,Nat.add_sub_cancel_left,List.getElem?_map,List.getElem?_range hd];rfl
  ·have:=jdu (n:=n) (show k<m by omega)
   rw[List.getElem?_append_left (by rw[jfm];omega)];exact jf7 (by omega) hd
theorem jg2 {i:Nat}: ∀ {m:Nat},i<jE n m→ ∃ k d,k<m∧d<n k∧i=jE n k+d
 |0,h=>by grind[jE]
 |m+1,h=>by
  by_cases h1:i<jE n m
  ·obtain⟨k,d,hk,hd,e⟩:=jg2 h1
   exact⟨k,d,by omega,hd,e⟩
  ·simp only[jE] at h;exact⟨m,i-jE n m,by omega,by omega,by omega⟩
theorem cut_at {m i:Nat} {x:β} (h:(cutL n f m)[i]?=some x): ∃ k d,k<m∧d<n k∧i=jE n k+d∧x=f k d:=by
 grind[jfm,jg2,jf7]
theorem cum_uniq {k d k' d':Nat} (hd:d<n k) (hd':d'<n k') (h:jE n k+d=jE n k'+d'):k=k'∧d=d':=by
 rcases Nat.lt_trichotomy k k' with h1|h1|h1
 ·have:=jdu (n:=n) h1;omega
 ·grind
 ·have:=jdu (n:=n) h1;omega
end
structure PlG where
 cl:List Nat
 pg:Nat
 q:Nat
namespace PlG
def y (g:PlG) (k:Nat):Nat:=g.cl.getD k 0
def n (g:PlG) (k:Nat):Nat:=g.q/g.y k
def per (g:PlG) (k:Nat):Nat:=g.pg/g.y k
def pgs (g:PlG) (k:Nat):Nat:=(g.n k+g.per k-1)/g.per k
def m (g:PlG):Nat:=g.cl.length
def first (g:PlG) (k:Nat):Nat:=jE g.n k
def page (g:PlG) (k:Nat):Nat:=jE g.pgs k
def slots (g:PlG):Nat:=g.first g.m
def pages (g:PlG):Nat:=g.page g.m
def words (g:PlG):Nat:=g.pages*g.pg
end PlG
structure jq where
 cls:Nat
 size:Nat
 addr:Nat
 page:Nat
structure PartP where
 size:Nat
 first:Nat
 many:Nat
 page:Nat
 per:Nat
namespace PlG
def sl (g:PlG) (k d:Nat):jq:=⟨k,g.y k,(g.page k+d/g.per k)*g.pg+d%g.per k*g.y k,g.page k+d/g.per k⟩
def L (g:PlG):List jq:=cutL g.n g.sl g.m
def pt (g:PlG) (k:Nat):PartP:=⟨g.y k,g.first k,g.n k,g.page k,g.per k⟩
def parts (g:PlG):List PartP:=(List.range g.m).map g.pt
end PlG
structure jg (g:PlG):Prop where
 m:1≤g.m∧g.m≤8
 y: ∀ k,k<g.m→2≤g.y k∧g.y k≤g.pg∧g.y k≤g.q
 pg:g.pg≤64
 q:g.q≤4096
section
variable {g : PlG}
theorem jg.n (ok:jg g) {k:Nat} (hk:k<g.m):1≤g.n k∧g.n k≤2048:=by
 obtain⟨h1,h2,h3⟩:=ok.y k hk
 have:=ok.q
 refine zqb ?_;unfold PlG.n;exact Nat.le_trans (Nat.div_le_div_left h1 (by omega)) (by omega)
theorem jg.per (ok:jg g) {k:Nat} (hk:k<g.m):1≤g.per k∧g.per k≤32:=by
 obtain⟨h1,h2,h3⟩:=ok.y k hk
 have:=ok.pg
 refine zqb ?_;unfold PlG.per;exact Nat.le_trans (Nat.div_le_div_left h1 (by omega)) (by omega)
theorem jg.pgs (ok:jg g) {k:Nat} (hk:k<g.m):1≤g.pgs k∧g.pgs k≤g.n k:=by
 have h1:=ok.n hk
 have h2:=ok.per hk
 refine zqb ?_;unfold PlG.pgs
 obtain⟨a,ha⟩: ∃ a,g.n k=a+1:=⟨g.n k-1,by omega⟩
 obtain⟨b,hb⟩: ∃ b,g.per k=b+1:=⟨g.per k-1,by omega⟩
 rw[ha,hb];refine Nat.div_le_of_le_mul ?_
 grind
theorem cum_le {f:Nat→Nat} {B:Nat}: ∀ {m:Nat},(∀ k,k<m→f k≤B)→jE f m≤m*B
 |0,_=>by simp[jE]
 |m+1,h=>by
  have h1:=cum_le (m:=m) (fun k hk=>h k (by omega))
  grind[jE]
theorem jg.first (ok:jg g) {k:Nat} (hk:k≤g.m):g.first k≤16384:=by
 have h:=cum_le (f:=g.n) (B:=2048) (m:=k) (fun j hj=>(ok.n (by omega)).2)
 have:=ok.m
 grind[PlG.first]
theorem jg.page (ok:jg g) {k:Nat} (hk:k≤g.m):g.page k≤16384:=by
 have h:=cum_le (f:=g.pgs) (B:=2048) (m:=k) (fun j hj=>Nat.le_trans (ok.pgs (by omega)).2 (ok.n (by omega)).2)
 have:=ok.m
 grind[PlG.page]
theorem jg.slots (ok:jg g):1≤g.slots∧g.slots≤16384:=by
 refine⟨?_,ok.first (Nat.le_refl _)⟩
 have h:=jdu (n:=g.n) (k:=0) (m:=g.m) (by have:=ok.m;omega)
 have:=(ok.n (k:=0) (by have:=ok.m;omega)).1
 grind[PlG.slots,PlG.first]
theorem jg.pages (ok:jg g):1≤g.pages∧g.pages≤16384:=by
 refine⟨?_,ok.page (Nat.le_refl _)⟩
 have h:=jdu (n:=g.pgs) (k:=0) (m:=g.m) (by have:=ok.m;omega)
 have:=(ok.pgs (k:=0) (by have:=ok.m;omega)).1
 grind[PlG.pages,PlG.page]
theorem jg.pg1 (ok:jg g):2≤g.pg:=by
 have h:=ok.y 0 (by have:=ok.m;omega)
 omega
theorem jg.words (ok:jg g):g.words≤1048576:=by
 have h1:=ok.pages.2
 have h2:=ok.pg
 exact Nat.le_trans (Nat.mul_le_mul h1 h2) (by omega)
theorem jdU:g.L.length=g.slots:=jfm _
theorem L_get {k d:Nat} (hk:k<g.m) (hd:d<g.n k):g.L[g.first k+d]?=some (g.sl k d):=jf7 hk hd
theorem L_at {i:Nat} {x:jq} (h:g.L[i]?=some x): ∃ k d,k<g.m∧d<g.n k∧i=g.first k+d∧x=g.sl k d:=cut_at h
theorem jg.inpg (ok:jg g) {k d:Nat} (hk:k<g.m) (hd:d<g.n k):d/g.per k<g.pgs k:=by
 have h1:=ok.n hk
 have h2:=ok.per hk
 unfold PlG.pgs;refine(Nat.le_div_iff_mul_le (by omega)).2 ?_
 have h3:=Nat.div_mul_le_self d (g.per k)
 grind
theorem jg.pg_lt (ok:jg g) {k d:Nat} (hk:k<g.m) (hd:d<g.n k):g.page k+d/g.per k<g.pages:=by
 have h1:=ok.inpg hk hd
 have h2:=jdu (n:=g.pgs) hk
 grind[PlG.pages,PlG.page]
theorem jg.inside (ok:jg g) {k d:Nat} (hk:k<g.m):d%g.per k*g.y k+g.y k≤g.pg:=by
 have h2:=ok.per hk
 have h3:=Nat.mod_lt d (show 0<g.per k by omega)
 have h4:(d%g.per k+1)*g.y k≤g.per k*g.y k:=Nat.mul_le_mul_right _ (by omega)
 have h5:g.per k*g.y k≤g.pg:=Nat.div_mul_le_self _ _
 grind
theorem jg.fits (ok:jg g) {i:Nat} {x:jq} (h:g.L[i]?=some x):x.addr+x.size≤g.words∧2≤x.size∧x.size≤64∧x.page<g.pages∧x.page*g.pg≤x.addr∧x.addr+x.size≤(x.page+1)*g.pg∧x.cls<g.m:=by
 obtain⟨k,d,hk,hd,rfl,rfl⟩:=L_at h
 have h1:=ok.pg_lt hk hd
 have h2:=ok.inside (d:=d) hk
 have h3:=ok.y k hk
 have h4:=ok.pg
 have h5:(g.page k+d/g.per k+1)*g.pg≤g.words:=Nat.mul_le_mul_right _ h1
 grind[PlG.sl]
theorem jg.apart (ok:jg g) {i i':Nat} {x x':jq} (h:g.L[i]?=some x) (h':g.L[i']?=some x') (hne:i≠i'):x.addr+x.size≤x'.addr∨x'.addr+x'.size≤x.addr:=by
 obtain⟨a1,_,_,_,a2,a3,_⟩:=ok.fits h
 obtain⟨b1,_,_,_,b2,b3,_⟩:=ok.fits h'
 rcases Nat.lt_trichotomy x.page x'.page with h1|h1|h1
 ·have:(x.page+1)*g.pg≤x'.page*g.pg:=Nat.mul_le_mul_right _ h1
  omega
 ·obtain⟨k,d,hk,hd,rfl,rfl⟩:=L_at h
  obtain⟨k',d',hk',hd',rfl,rfl⟩:=L_at h'
  obtain⟨e1,e2⟩:=cum_uniq (n:=g.pgs) (ok.inpg hk hd) (ok.inpg hk' hd') h1
  subst e1;simp only[PlG.sl] at a2 a3 b2 b3⊢;rw[e2]
  have hy:=ok.y k hk
  rcases Nat.lt_trichotomy (d%g.per k) (d'%g.per k) with h2|h2|h2
  ·have:(d%g.per k+1)*g.y k≤d'%g.per k*g.y k:=Nat.mul_le_mul_right _ h2
   grind
  ·exfalso
   have q1:=Nat.div_add_mod d (g.per k)
   have q2:=Nat.div_add_mod d' (g.per k)
   grind
  ·have:(d'%g.per k+1)*g.y k≤d%g.per k*g.y k:=Nat.mul_le_mul_right _ h2
   grind
 ·have:(x'.page+1)*g.pg≤x.page*g.pg:=Nat.mul_le_mul_right _ h1
  omega
theorem jdW:g.parts.length=g.m:=by simp[PlG.parts]
theorem jey {k:Nat} (hk:k<g.m):g.parts[k]?=some (g.pt k):=by grind[PlG.parts]
end
end Go.Proofs.YtebiafomiemgbaaGreatDoor.Sw
