/-The walker and contracts, part 15.-/
import Derived.Test.YtciaccbemnpipaaGreatDoorJ14
set_option linter.all false
namespace Go.Proofs.YtciaccbemnpipaaGreatDoor.Sw
set_option maxHeartbeats 8000000
open Go.Proofs.YtciaccbemnpipaaGreatDoor renaming lo -> qL, hi -> qH
open Go.RowKit
set_option maxRecDepth 10000
theorem and_i64 {a b:Nat} (ha:a<9223372036854775808) (hb:b<9223372036854775808):jaq .and .i64 (a:Int) (b:Int)=((a&&&b:Nat):Int):=by
 show IntKind.i64.wrap ((BitVec.ofInt 64 (a:Int)&&&BitVec.ofInt 64 (b:Int)).toNat:Int)=_
 rw[BitVec.toNat_and,jb9 bc,jb9 bc]
 have:=Nat.and_lt_two_pow a (n:=63) (y:=b) bc
 exact jda (by simp only[qL,qH];omega)
theorem ones_K {w0:World} {H:jb} {l:List Bool} (hl:l.length<=64):
  Cs w0 393 [.int .u64 (bitsN l:Nat)] H (.int .i64 (l.count true:Nat)):=by
 have hx64:bitsN l<18446744073709551616:=by
  have h:=jfd l
  have h2:2^l.length<=2^64:=Nat.pow_le_pow_right bc hl
  omega
 have hlaw:=fun x a b c=>pop_law hl (x:=x) (a:=a) (b:=b) (c:=c)
 obtain⟨x,hx⟩: ∃ x,x=bitsN l:=⟨_,rfl⟩
 rw[<-hx] at hx64 hlaw|-;clear hx
 --the steps
 obtain⟨u1,hu1⟩: ∃ u,u=x/2&&&6148914691236517205:=⟨_,rfl⟩
 obtain⟨v1,hv1⟩: ∃ u,u=x&&&6148914691236517205:=⟨_,rfl⟩
 obtain⟨x1,hx1⟩: ∃ u,u=u1+v1:=⟨_,rfl⟩
 obtain⟨u2,hu2⟩: ∃ u,u=x1/4&&&3689348814741910323:=⟨_,rfl⟩
 obtain⟨v2,hv2⟩: ∃ u,u=x1&&&3689348814741910323:=⟨_,rfl⟩
 obtain⟨x2,hx2⟩: ∃ u,u=u2+v2:=⟨_,rfl⟩
 obtain⟨u3,hu3⟩: ∃ u,u=x2/16:=⟨_,rfl⟩
 obtain⟨v3,hv3⟩: ∃ u,u=u3+x2:=⟨_,rfl⟩
 obtain⟨x3,hx3⟩: ∃ u,u=v3&&&1085102592571150095:=⟨_,rfl⟩
 obtain⟨a,ha⟩: ∃ u,u=x3+x3/256:=⟨_,rfl⟩
 obtain⟨b,hb⟩: ∃ u,u=a+a/65536:=⟨_,rfl⟩
 obtain⟨c,hc⟩: ∃ u,u=b+b/4294967296:=⟨_,rfl⟩
 have bu1:u1<=6148914691236517205:=by rw[hu1];exact Nat.and_le_right
 have bv1:v1<=6148914691236517205:=by rw[hv1];exact Nat.and_le_right
 have bu2:u2<=3689348814741910323:=by rw[hu2];exact Nat.and_le_right
 have bv2:v2<=3689348814741910323:=by rw[hv2];exact Nat.and_le_right
 have bx3:x3<=1085102592571150095:=by rw[hx3];exact Nat.and_le_right
 obtain⟨k1,k2,k3,k4⟩:=hlaw x3 a b c (by unfold g3 g2 g1;rw [rep_85,rep_51,rep_15,<-hu1,<-hv1,<-hx1,<-hu2,<-hv2,<-hx2,<-hu3,<-hv3,hx3]) ha hb hc
 have s1:(x:Int).fdiv (2^(min (Int.toNat 1) IntKind.u64.bits))=((x/2:Nat):Int):=jby (j:=1) bc
 have s2:(x1:Int).fdiv (2^(min (Int.toNat 2) IntKind.u64.bits))=((x1/4:Nat):Int):=jby (j:=2) bc
 have s3:(x2:Int).fdiv (2^(min (Int.toNat 4) IntKind.u64.bits))=((x2/16:Nat):Int):=jby (j:=4) bc
 have s4:(x3:Int).fdiv (2^(min (Int.toNat 8) IntKind.u64.bits))=((x3/256:Nat):Int):=jby (j:=8) bc
 have s5:(a:Int).fdiv (2^(min (Int.toNat 16) IntKind.u64.bits))=((a/65536:Nat):Int):=jby (j:=16) bc
 have s6:(b:Int).fdiv (2^(min (Int.toNat 32) IntKind.u64.bits))=((b/4294967296:Nat):Int):=jby (j:=32) bc
 have m1:jaq .and .u64 ((x/2:Nat):Int) 6148914691236517205=(u1:Int):=by rw[hu1];exact jcJ (b:=6148914691236517205) bc bc
 have m2:jaq .and .u64 (x:Int) 6148914691236517205=(v1:Int):=by rw[hv1];exact jcJ (b:=6148914691236517205) bc bc
 have m3:jaq .and .u64 ((x1/4:Nat):Int) 3689348814741910323=(u2:Int):=by rw[hu2];exact jcJ (b:=3689348814741910323) bc bc
 have m4:jaq .and .u64 (x1:Int) 3689348814741910323=(v2:Int):=by rw[hv2];exact jcJ (b:=3689348814741910323) bc bc
 have m5:jaq .and .u64 (v3:Int) 1085102592571150095=(x3:Int):=by rw[hx3];exact jcJ (b:=1085102592571150095) bc bc
 have m6:jaq .and .i64 (c:Int) 127=(l.count true:Nat):=by
  rw[show jaq .and .i64 (c:Int) 127=((c&&&127:Nat):Int) from and_i64 (b:=127) bc bc,show(127:Nat)=2^7-1 by decide,Nat.and_two_pow_sub_one_eq_mod,show 2^7=128 by decide,k1]
 have t1:(u1:Int)+(v1:Int)=(x1:Int):=by omega
 have t2:(u2:Int)+(v2:Int)=(x2:Int):=by omega
 have t3:((x2/16:Nat):Int)+(x2:Int)=(v3:Int):=by omega
 have t4:(x3:Int)+((x3/256:Nat):Int)=(a:Int):=by omega
 have t5:(a:Int)+((a/65536:Nat):Int)=(b:Int):=by omega
 have t6:(b:Int)+((b/4294967296:Nat):Int)=(c:Int):=by omega
 clear hu1 hv1 hu2 hv2 hx3 k1 hlaw;refine en1 35 Tryz.func393 ?_;refine yr5 ?_;refine zg ?_;refine yr2 ?_;rw[s1];refine yr1 ?_;rw[m1];refine yr2 ?_;rw[m2];refine yr1 ?_;rw[t1];refine yr3 ?_;refine zg ?_;refine yr2 ?_;rw[s2];refine yr1 ?_;rw[m3];refine yr2 ?_;rw[m4];refine yr1 ?_;rw[t2];refine yr3 ?_;refine zg ?_;refine yr2 ?_;rw[s3];refine yr2 ?_;rw[t3];refine yr1 ?_;rw[m5];refine yr3 ?_;refine zg ?_;refine yr3 ?_;rw[s4];refine yr1 ?_;rw[t4];refine yr3 ?_;refine zg ?_;refine yr3 ?_;rw[s5];refine yr1 ?_;rw[t5];refine yr3 ?_;refine zg ?_;refine yr3 ?_;rw[s6];refine yr1 ?_;rw[t6];refine yr3 ?_;refine zg ?_;refine yr3 ?_;rw[m6];refine yr4 ?_;exact zd
theorem Count_K {w0:World} {F:jb} {r:jam} (ok:RowOk r):
  Call Tryz.prog w0 375 [pt r.b] (jD r++F) (fun u H'=>u= .int .i64 (r.bs.count true:Nat)/\H'=jD r++F):=by
 have ok1:=ok.o
 have hn:=ok.n
 have hwl:(wordsOf r.bs).length<=1024:=by rw[jaF];omega
 have hcb: ∀ k,(r.bs.take k).count true<=65536:=fun k=>Nat.le_trans List.count_le_length bK
 refine en1 24 Tryz.func375 ?_;refine yr15 ?_;simp only[jG];refine zay ?_;refine yr15 ?_;refine K.loopT (σ:=Nat) [(12,_),(13,_)] (fun s kp_=>(14, .int .i64 (s:Nat))::(3, .int .i64 ((r.bs.take (64*s)).count true:Nat))::kp_) (fun s=>(r.b,cells [oV r.o (wordsOf r.bs).length, .int .i64 (r.bs.length:Nat), .bool true] 365)::(oH uE 67 (wordsOf r.bs) r.o++F)) (fun s=>s<=(wordsOf r.bs).length) (fun s=>(wordsOf r.bs).length-s) (0) jg ja bc ?_;rintro k hk
 have hck:=hcb (64*k)
 by_cases hlt:k<(wordsOf r.bs).length
 ·have hx:=jdr (bs:=r.bs) (k:=k) (by rw[jaF] at hlt;exact hlt)
  have hl:((r.bs.drop (64*k)).take 64).length<=64:=by rw[List.length_take];omega
  have hsum:((r.bs.take (64*(k+1))).count true:Nat)=(r.bs.take (64*k)).count true+((r.bs.drop (64*k)).take 64).count true:=by
   rw[show 64*(k+1)=64*k+64 by omega,List.take_add,List.count_append]
  have hcl:((r.bs.drop (64*k)).take 64).count true<=64:=Nat.le_trans List.count_le_length hl
  unfold wordN at hx;refine yr22 ?_;refine jj (ones_K hl) ?_;refine yr9 ?_;exact KE.again (k+1) jg ja bc bc
 ·have he:r.bs.take (64*k)=r.bs:=List.take_of_length_le (by rw[jaF] at hlt;omega)
  rw[he];refine yr19 ?_;exact zd
theorem jgT {w0:World} {v:Value} {l:List Int} (hS:SlW w0 uE v l) (hl:l.length<=4294967296):
  Call Tryz.prog w0 37 [v] [] (fun r H'=> ∃ o,oOk uE l o/\r=oV o l.length/\H'=oH uE 67 l o):=by
 refine en1 8 Tryz.func37 ?_
 have hS0:=hS
 obtain⟨a,c,rfl,h1,h2,h3⟩:=hS.shape
 cases a with
 |none=>
  have hn:l=[]:=by
   cases l with
   |nil=>rfl
   |cons x r=>obtain⟨b,o,h⟩:=h3 bF;cases h
  subst hn;refine yr20 ?_;exact zaP
 |some a=>
  (iterate 20 first|refine yS ?_|intro _)
  refine KL.e rfl (Eff.appLit (E:=uE) (ys:=l) rfl rfl rfl rfl rfl rfl rfl jK ba be rfl) ?_;rintro _ _ ⟨o',ok',rfl,rfl⟩;refine yr4 ?_;exact zaQ
theorem jg5 {w0:World} {F:jb} {r:jam} (ok:RowOk r):
  Call Tryz.prog w0 253 [pt r.b] (jD r++F) (fun u H'=> ∃ r',RowOk r'/\r'.bs=r.bs/\u=pt r'.b/\H'=jD r'++(jD r++F)):=by
 have ok1:=ok.o
 have hn:=ok.n
 have hwl:(wordsOf r.bs).length<=1024:=by rw[jaF];omega
 refine en1 16 Tryz.func253 ?_;refine yr10 ?_;simp only[jG];refine zay ?_;refine yr6 ?_;refine K.dr _ [(0,0),(1,0),(2,0),(3,0),(5,1),(6,1),(7,1),(8,1),(4,2),(9,0),(10,2),(11,0)] Part.all ?_;refine yr9 ?_;refine(CallV.pure fun w hw=>CallV.fn (jgT (Sli.own jt ok1 rfl w hw) bc)).mono ?_;rintro _ _ ⟨_,⟨o1,ko1,rfl,rfl⟩,rfl⟩;refine yr3 ?_;intro b15;refine yr5 ?_;exact KE.fin (H':=jD ⟨b15,r.bs,o1⟩++(jD r++F)) jd rfl jc Ba ⟨⟨b15,r.bs,o1⟩,⟨ko1,hn⟩,rfl,rfl,rfl⟩
def baseP (R:List (List Int)) (t:Nat):Nat:=((R.take t).map List.length).sum
def jaA (R:List (List Int)):List Int:=(List.range (R.length+1)).map fun t=>((baseP R t:Nat):Int)
theorem jiQ (R:List (List Int)):(jaA R).length=R.length+1:=by simp[jaA]
theorem jiR {R:List (List Int)} {t:Nat} (h:t<=R.length):(jaA R)[t]?=some ((baseP R t:Nat):Int):=by
 unfold jaA;rw[List.getElem?_map,List.getElem?_range bc];rfl
theorem jfK (R:List (List Int)):R.flatten.length=(R.map List.length).sum:=by
 induction R with
 |nil=>rfl
 |cons x R ih=>simp[ih]
theorem jcE {A B:List (List Int)} {x:List Int}:baseP (A++x::B) A.length=A.flatten.length/\baseP (A++x::B) (A.length+1)=A.flatten.length+x.length:=by
 constructor
 ·unfold baseP;rw [List.take_left',jfK];rfl
 ·unfold baseP
  rw[show(A++x::B).take (A.length+1)=A++ [x] by
   rw[List.take_append,List.take_of_length_le bc];simp,List.map_append,List.sum_append,<-jfK];simp
theorem jdb {R:List (List Int)} {t:Nat} {x:List Int} (h:R[t]?=some x): ∃ A B,R=A++x::B/\A.length=t:=by
 obtain⟨hl,e⟩:=List.getElem?_eq_some_iff.1 h
 exact⟨R.take t,R.drop (t+1),by rw[<-e,<-List.drop_eq_getElem_cons hl,List.take_append_drop],by rw[List.length_take];omega⟩
theorem jcq {R:List (List Int)} {t:Nat} {x:List Int} (h:R[t]?=some x):baseP R (t+1)=baseP R t+x.length/\baseP R t+x.length<=R.flatten.length:=by
 obtain⟨A,B,rfl,rfl⟩:=jdb h
 rw[jcE.1,jcE.2];refine⟨rfl,?_⟩;rw[List.flatten_append,List.flatten_cons];simp
theorem flat_at_r {R:List (List Int)} {t i:Nat} {x:List Int} {w:Int} (h:R[t]?=some x) (hw:x[i]?=some w):R.flatten[baseP R t+i]?=some w:=by
 obtain⟨A,B,rfl,rfl⟩:=jdb h
 have hi:=jl hw
 rw[jcE.1,List.flatten_append,List.flatten_cons,List.getElem?_append_right bc,show A.flatten.length+i-A.flatten.length=i by omega,List.getElem?_append_left hi,hw]
theorem flat_part {R:List (List Int)} {t:Nat} {x:List Int} (h:R[t]?=some x):(R.flatten.take (baseP R t+x.length)).drop (baseP R t)=x:=by
 obtain⟨A,B,rfl,rfl⟩:=jdb h
 rw[jcE.1,List.flatten_append,List.flatten_cons,<-List.append_assoc,show A.flatten.length+x.length=(A.flatten++x).length by simp,List.take_left',List.drop_left']
 ·rfl
 ·rfl
theorem set_r {R:List (List Int)} {t:Nat} {x x':List Int} (h:R[t]?=some x) (hl:x'.length=x.length):(R.set t x').flatten=R.flatten.take (baseP R t)++x'++R.flatten.drop (baseP R t+x.length)/\jaA (R.set t x')=jaA R:=by
 obtain⟨A,B,rfl,rfl⟩:=jdb h
 have hs:(A++x::B).set A.length x'=A++x'::B:=by simp
 constructor
 ·rw[hs,jcE.1,List.flatten_append,List.flatten_cons,List.flatten_append,List.flatten_cons,List.take_left',<-List.append_assoc,<-List.append_assoc,show A.flatten.length+x.length=(A.flatten++x).length by simp,List.drop_left']
  ·rfl
  ·rfl
 ·rw[hs];unfold jaA;simp only[List.length_append,List.length_cons]
  refine List.map_congr_left fun q _=>?_
  congr 1
  unfold baseP;rw[List.map_take,List.map_take]
  simp[hl]
theorem set_word {R:List (List Int)} {t i:Nat} {x:List Int} {w:Int} (h:R[t]?=some x) (hi:i<x.length):(R.set t (x.set i w)).flatten=R.flatten.set (baseP R t+i) w:=by
 obtain⟨A,B,rfl,rfl⟩:=jdb h
 have hs:(A++x::B).set A.length (x.set i w)=A++x.set i w::B:=by simp
 rw[hs,jcE.1,List.flatten_append,List.flatten_cons,List.flatten_append,List.flatten_cons,List.set_append_right _ _ bc,show A.flatten.length+i-A.flatten.length=i by omega,List.set_append_left _ _ hi]
theorem jmk {R:List (List Int)} {t i h':Nat} {x:List Int} (h:R[t]?=some x) (hi:i<=h') (hh:h'<=x.length):(R.set t (cleared x i h' 0)).flatten=cleared R.flatten (baseP R t+i) (baseP R t+h') 0:=by
 obtain⟨A,B,rfl,rfl⟩:=jdb h
 have hs:(A++x::B).set A.length (cleared x i h' 0)=A++cleared x i h' 0::B:=by simp
 rw[hs,jcE.1,List.flatten_append,List.flatten_cons,List.flatten_append,List.flatten_cons];unfold cleared;rw[show A.flatten.length+h'-(A.flatten.length+i)=h'-i by omega,List.take_append,List.take_of_length_le (show A.flatten.length<=A.flatten.length+i by omega),show A.flatten.length+i-A.flatten.length=i by omega,List.take_append_of_le_length bc,List.drop_append,List.drop_of_length_le (show A.flatten.length<=A.flatten.length+h' by omega),List.nil_append,show A.flatten.length+h'-A.flatten.length=h' by omega,List.drop_append_of_le_length hh];simp only[List.append_assoc]
structure Jy where
 b:Nat
 R:List (List Int)
 ow:Own
 ob:Own
def jy (m:Jy):jb:=(m.b,cells [oV m.ow m.R.flatten.length,oV m.ob (jaA m.R).length] 111)::(oH uE 67 m.R.flatten m.ow++oH iE 3 (jaA m.R) m.ob)
theorem j8 {m:Jy} {F:jb}:jy m++F=(m.b,cells [oV m.ow m.R.flatten.length,oV m.ob (jaA m.R).length] 111)::(oH uE 67 m.R.flatten m.ow++(oH iE 3 (jaA m.R) m.ob++F)):=by
 unfold jy;rw [List.cons_append,List.append_assoc]
structure jaB (m:Jy):Prop where
 w:oOk uE m.R.flatten m.ow
 b:oOk iE (jaA m.R) m.ob
 n:m.R.flatten.length<=1000000000
 t:1<=m.R.length/\m.R.length<=1000
theorem subV_two {o:Own} {n a b c d:Nat} (hn: ∀ ob,o=some ob->n<=ob.c) (h0:o=none->n=0) (hb:b<=n) (hcd:c<d) (hd:d<=b-a) (hab:a<=b):j9 (j9 (oV o n) a b 1) c d 1=j9 (oV o n) (a+c) (a+d) 1:=by
 cases o with
 |none=>have:=h0 rfl;omega
 |some ob=>
  have:=hn ob rfl
  simp only[oV,j9];rw[if_neg bc,if_neg bc,if_neg bc];simp only[Option.map_some,Addr.add]
  congr 1
  ·by_cases hc:c=0
   ·subst hc;by_cases ha:a=0<;>simp[ha]
   ·by_cases ha:a=0
    ·subst ha;simp[hc]
    ·simp[ha,hc]
  ·omega
  ·omega
theorem adr_sub {o:Own} {n a b:Nat} (hn: ∀ ob,o=some ob->n<=ob.c) (h0:o=none->n=0) (hab:a<b) (hb:b<=n):adr (j9 (oV o n) a b 1) (0*1)=adr (oV o n) (a*1):=by
 cases o with
 |none=>have:=h0 rfl;omega
 |some ob=>
  have:=hn ob rfl
  simp only[oV,j9];rw[if_neg bc];simp only[Option.map_some,Addr.add,adr]
  by_cases ha:a=0<;>simp[ha]
theorem jkL {E:Enc Int} {xs:List Int} {o:Own} (ok:oOk E xs o):(∀ ob,o=some ob->xs.length<=ob.c)/\(o=none->xs.length=0):=by
 constructor
 ·rintro ob rfl;exact ok.1
 ·rintro rfl;simp only[oOk] at ok;rw [ok];rfl
structure Tn where
 quota:Int
 trigger:Int
 caps:Int
 assist:Int
def tnE:Enc Tn:=⟨fun t=> [.int .i64 t.quota, .int .i64 t.trigger, .int .i64 t.caps, .int .i64 t.assist],4,fun _=>rfl,by intro x v hv;simp at hv;rcases hv with rfl|rfl|rfl|rfl<;>rfl⟩
structure Cfg where
 cl:List Int
 page:Int
 tn:List Tn
 workers:Int
 grey:Int
 gens:Int
def jbV (l:List Int):Int:=(l.getLast?).getD 0
def jbs (great:Int) (t:Tn):Bool:=jan [great,t.quota,4096,1,t.trigger,1048576,1,t.caps,1024,0,t.assist,1024]
def jcT (c:Cfg):Bool:=jan [jbV c.cl,c.page,64,1,(c.tn.length:Nat),8,0,c.workers,8,1,c.grey,64,1,c.gens,2147483648]
def cfgP (c:Cfg):Bool:=Jk c.cl&&(jcT c&&c.tn.all (jbs (jbV c.cl)))
def jV (c:Cfg) (vc vt:Value):List Value:=[vc, .int .i64 c.page,vt, .int .i64 c.workers, .int .i64 c.grey, .int .i64 c.gens]
def jA (c:Cfg) (vc vt:Value):Value:= .agg (jV c vc vt).toArray
structure Jl (w0:World) (H:jb) (c:Cfg) (vc vt:Value):Prop where
 cl:Sli w0 H iE vc c.cl
 tn:Sli w0 H tnE vt c.tn
 one1:vc.cells=[vc].toArray
 one2:vt.cells=[vt].toArray
 len1:c.cl.length<=140737488355328
 len2:c.tn.length<=140737488355328
theorem Jl.part {w0:World} {H H':jb} {c:Cfg} {vc vt:Value} (h:Jl w0 H' c vc vt) (hp:Part H H'):Jl w0 H c vc vt:=
 ⟨h.cl.part hp,h.tn.part hp,h.one1,h.one2,h.len1,h.len2⟩
structure CcS where
 k:Nat
theorem jhP {w0:World} {H:jb} {c:Cfg} {vc vt:Value} (hR:Jl w0 H c vc vt):
  Cs w0 81 [jA c vc vt] H (.int .i64 (jaX (cfgP c) 2)):=by
 obtain⟨hS,hT',o1,o2,l1,l2⟩:=hR
 obtain⟨cl,page,tn,workers,grey,gens⟩:=c
 dsimp only at hS hT' l1 l2;simp only[jA,jV];refine en1 51 Tryz.func81 ?_
 (iterate 4 first|refine yS ?_|intro _);refine yq8 fun T hT=>?_
 refine(CallV.fn (Check_K (l:=cl) (hS.part ja) l1)).mono ?_;rintro _ _ ⟨rfl,rfl⟩
 cases hc:Jk cl with
 |false=>
  have hf:cfgP ⟨cl,page,tn,workers,grey,gens⟩=false:=by simp[cfgP,hc]
  refine zaO ?_;clear hT T;refine yr18 ?_;exact zn
 |true=>
  simp only[jaX,if_true]
  have hcc:=hc
  simp only[Jk,Bool.and_eq_true,decide_eq_true_eq] at hcc
  obtain⟨z,hz⟩:=jq (l:=cl) (k:=cl.length-1) bc
  have hzl:cl.getLast?=some z:=by rw[List.getLast?_eq_getElem?];exact hz
  have htop:jbV cl=z:=by simp[jbV,hzl]
  refine ze ?_;clear hT T;refine yr17 ?_;refine jj (Max_K (l:=cl) (top:=z) (hS.part ja) l1 hzl (jc0 hcc.2).2) ?_
  (iterate 20 first|refine yS ?_|intro _);refine KL.callc rfl rfl Ja fun T hT=>?_
  refine(CallV.fn (jgr (l:=[z,page,64,1,(tn.length:Nat),8,0,workers,8,1,grey,64,1,gens,2147483648]) (n:=5) (Sli.blk jK rfl bF bn rfl) rfl bn)).mono ?_;rintro _ _ ⟨rfl,rfl⟩
  cases hp:jan [z,page,64,1,(tn.length:Nat),8,0,workers,8,1,grey,64,1,gens,2147483648] with
  |false=>
   have hf:cfgP ⟨cl,page,tn,workers,grey,gens⟩=false:=by simp[cfgP,jcT,hc,htop,hp]
   refine ze ?_;clear hT T;refine yr11 ?_;exact zn
  |true=>
   have hcr:cfgP ⟨cl,page,tn,workers,grey,gens⟩=tn.all (jbs z):=by simp[cfgP,jcT,hc,htop,hp]
   refine ze ?_;clear hT T;refine yr16 ?_;refine K.loopT (σ:=CcS) [(4,_),(32,_),(33,_)] (fun s kp_=>(34, .int .i64 (s.k:Nat))::kp_) (fun s=>H) (fun s=>s.k<=tn.length/\tn.all (jbs z)=(tn.drop s.k).all (jbs z)) (fun s=>tn.length-s.k) (⟨0⟩) jg ja (⟨by simp,by simp⟩) ?_;rintro⟨k⟩ ⟨hk,hr⟩;dsimp only at hk hr|-
   by_cases hlt:k<tn.length
   ·obtain⟨t,ht⟩:=jq hlt
    have hd:tn.drop k=t::tn.drop (k+1):=by
     obtain⟨h1,e⟩:=List.getElem?_eq_some_iff.1 ht
     rw[List.drop_eq_getElem_cons h1,e]
    rw[hd,List.all_cons] at hr
    obtain⟨q,tr,cp,ax⟩:=t
    (iterate 33 first|refine yS ?_|intro _);refine KL.callc rfl rfl Ja fun T hT=>?_
    refine(CallV.fn (jgr (l:=[z,q,4096,1,tr,1048576,1,cp,1024,0,ax,1024]) (n:=4) (Sli.blk jK rfl bF bn rfl) rfl bn)).mono ?_;rintro _ _ ⟨rfl,rfl⟩
    have htp:jbs z ⟨q,tr,cp,ax⟩=jan [z,q,4096,1,tr,1048576,1,cp,1024,0,ax,1024]:=rfl
    cases hw:jan [z,q,4096,1,tr,1048576,1,cp,1024,0,ax,1024] with
    |false=>
     have hf:cfgP ⟨cl,page,tn,workers,grey,gens⟩=false:=by rw[hcr,hr,htp,hw];rfl
     refine ze ?_;clear hT T;refine yr15 ?_;exact zn
    |true=>
     rw[htp,hw,Bool.true_and] at hr;refine ze ?_;clear hT T;refine yr11 ?_;exact zbT
   ·have hf:cfgP ⟨cl,page,tn,workers,grey,gens⟩=true:=by rw[hcr,hr,List.drop_of_length_le bc];rfl
    refine yr18 ?_;exact zn
theorem sub_perm {α:Type} {A S:List α} (h:A.Sublist S): ∃ F,S.Perm (A++F):=by
 induction h with
 |slnil=>exact⟨[],List.Perm.refl _⟩
 |cons a h ih=>obtain⟨F,hF⟩:=ih;exact⟨a::F,(hF.cons a).trans List.perm_middle.symm⟩
 |cons_cons a h ih=>obtain⟨F,hF⟩:=ih;exact⟨F,hF.cons a⟩
theorem Call.ro {P:Program} {w0:World} {f:FuncId} {args:List Value} {A H:jb} {R:Value->Prop} (h: ∀ F,Call P w0 f args (A++F) (fun r H'=>R r/\H'=A++F)) (hp:Part H A):Call P w0 f args H (fun r H'=>R r/\H'=H):=by
 obtain⟨S,h1,h2⟩:=hp.sub
 obtain⟨F,h3⟩:=sub_perm h2
 have hF:=h1.trans h3
 refine⟨(h F).ent,fun w hw=>((h F).out w (hw.perm hF)).mono ?_⟩;rintro e w' ⟨v,H',rfl,hw',hr,rfl⟩;exact⟨v,H,rfl,hw'.perm hF.symm,hr,rfl⟩
def jcU (x:jdo):List Value:=[.int .i64 (x.size:Nat), .int .i64 (x.first:Nat), .int .i64 (x.many:Nat), .int .i64 (x.page:Nat), .int .i64 (x.per:Nat)]
def jdj:Enc jdo:=⟨jcU,5,fun _=>rfl,by intro x v hv;simp[jcU] at hv;rcases hv with rfl|rfl|rfl|rfl|rfl<;>rfl⟩
theorem jmK (x:jdo):jdj.enc x=[.int .i64 (x.size:Nat), .int .i64 (x.first:Nat), .int .i64 (x.many:Nat), .int .i64 (x.page:Nat), .int .i64 (x.per:Nat)]:=rfl
structure jQ where
 b:Nat
 g:PlG
 o:Own
def planH (p:jQ):jb:=(p.b,cells [oV p.o p.g.parts.length, .int .i64 (p.g.slots:Nat), .int .i64 (p.g.pages:Nat), .int .i64 (p.g.pg:Nat)] 222)::oH jdj 219 p.g.parts p.o
theorem jU {p:jQ} {F:jb}:planH p++F=(p.b,cells [oV p.o p.g.parts.length, .int .i64 (p.g.slots:Nat), .int .i64 (p.g.pages:Nat), .int .i64 (p.g.pg:Nat)] 222)::(oH jdj 219 p.g.parts p.o++F):=rfl
structure jar (p:jQ):Prop where
 g:jh p.g
 o:oOk jdj p.g.parts p.o
theorem jjt {w0:World} {F:jb} {p:jQ} (ok:jar p):
  Cs w0 160 [pt p.b] (planH p++F) (.bool false):=by
 have h1:=ok.g.pg1
 have hne: ¬((p.g.pg:Nat):Int)=0:=by omega
 refine en1 12 Tryz.func160 ?_;simp only[jG,j8,jU];refine yr20 ?_;exact zI
theorem jc9 {w0:World} {F:jb} {p:jQ} (ok:jar p):
  Cs w0 93 [pt p.b] (planH p++F) (.int .i64 (p.g.slots:Nat)):=by
 refine en1 9 Tryz.func93 ?_;refine yr10 ?_;refine zaa ?_;simp only[jG,j8,jU];refine yr15 ?_;exact zI
theorem Words0_K {w0:World} {F:jb} {p:jQ} (ok:jar p):
  Cs w0 157 [pt p.b] (planH p++F) (.int .i64 (p.g.words:Nat)):=by
 have hw:=ok.g.words
 have e:((p.g.pages:Nat):Int)*((p.g.pg:Nat):Int)=((p.g.words:Nat):Int):=rfl
 refine en1 14 Tryz.func157 ?_;refine yr10 ?_;refine zaa ?_;simp only[jG,j8,jU];refine yr6 ?_;refine zab ?_;refine yr13 ?_;exact zI
theorem last_K {w0:World} {F:jb} {p:jQ} {g:FuncId} {cap:List Value} {q:Nat->Bool} (ok:jar p) (hmono: ∀ i j,i<=j->j<p.g.m->q j=true->q i=true)
  (hso: ∀ H' i,Part H' (planH p++F)->i<p.g.m->CallV Tryz.prog w0 (.func (.func g) #[] cap.toArray) [.agg (jcU (p.g.pt i)).toArray] H' (fun r H''=>r= .bool (q i)/\H''=H')):
  Call Tryz.prog w0 220 [pt p.b, .func (.func g) #[] cap.toArray] (planH p++F) (fun r H'=> ∃ i:Nat,i<=p.g.m/\(∀ j,j<i->q j=true)/\(∀ j,i<=j->j<p.g.m->q j=false)/\r= .int .i64 ((i:Int)-1)/\H'=planH p++F):=by
 have hm:=ok.g.m
 have hpl:p.g.parts.length=p.g.m:=jcz
 have ho:=ok.o
 refine en2 13 Tryz.func220 ?_;simp only[jG,j8,jU];refine yr3 ?_;intro b2;refine yr1 ?_;intro b3;refine yq11 fun T hT=>?_;refine(CallV.part (CallV.fn (jka (H:=(b2,cells [pt p.b] 144)::(b3,cells [.func (.func g) #[] cap.toArray] 338)::(planH p++F)) (n:=p.g.parts.length) (fun i=>!q i) bc ?_ ?_)) (by simp only[jG,j8,jU];exact ja)).mono ?_
 ·intro i j h1 h2 h3
  cases hq:q j with
  |false=>rfl
  |true=>rw [hmono i j h1 bc hq] at h3;cases h3
 ·intro i hi0
  have hi:i<p.g.m:=by omega
  have hx:p.g.parts[i]?=some (p.g.pt i):=jc1 hi
  refine CallV.clo (cap:=[pt b3,pt b2]) ?_;refine en3 15 Tryz.func317 ?_;simp only[jG,j8,jU];refine yr6 ?_;refine K.dr [] (od 0 [0,0,0,0,0,0,0,0,2,0,0]) Part.nil ?_;refine yr9 ?_;refine(hso _ i (by simp only[jG,j8,jU];exact ja) hi).mono ?_;rintro _ _ ⟨rfl,rfl⟩;refine yr6 ?_;exact zI
 ·rintro _ _ ⟨i,hi,h1,h2,rfl,rfl⟩;refine ze ?_;clear hT T;refine yr5 ?_;exact KE.fin jd rfl jc Br ⟨i,by omega,fun j hj=>by have:=h1 j hj;simpa using this,fun j h3 h4=>by have:=h2 j h3 bc;simpa using this,rfl,rfl⟩
theorem jfD {w0:World} {F:jb} {p:jQ} {s k d:Nat} (ok:jar p) (hk:k<p.g.m) (hd:d<p.g.n k) (hs:s=p.g.first k+d):
  Cs w0 124 [pt p.b, .int .i64 (s:Nat)] (planH p++F) (.tuple [.int .i64 (k:Nat), .int .i64 (d:Nat), .int .i64 0].toArray):=by
 have hm:=ok.g.m
 have hpl:p.g.parts.length=p.g.m:=jcz
 have ho:=ok.o
 have hst:s<p.g.slots:=by
  have:=jbL (n:=p.g.n) hk
  unfold PlG.slots;unfold PlG.first at*;omega
 have hge: ¬((s:Nat):Int)>=(p.g.slots:Nat):=by omega
 have hslb:=ok.g.slots.2
 have hq: ∀ j,decide (p.g.first j<=s)=decide (((p.g.first j:Nat):Int)<=(s:Nat)):=fun j=>decide_eq_decide.2 bc
 refine en2 35 Tryz.func124 ?_;refine yr3 ?_;intro b3;refine yr11 ?_;refine ji (jjt ok) ja ?_;simp only[jG,j8,jU];refine yr5 ?_;refine zE ?_;refine yq21 fun T hT=>?_;refine(CallV.part (CallV.fn (last_K (F:=(b3,cells [.int .i64 (s:Nat)] 3)::F) (g:=221) (cap:=[pt b3]) (q:=fun j=>decide (p.g.first j<=s)) ok ?_ ?_)) Br).mono ?_
 ·intro i j h1 h2 h3
  have h4:p.g.first i<=p.g.first j:=jgn h1
  have h5:=of_decide_eq_true h3
  exact decide_eq_true bc
 ·intro H' i hp hi;refine CallV.clo (cap:=[pt b3]) ?_
  have hsee:j7 w0 H' ⟨b3,0,none⟩ (.int .i64 (s:Nat)):=(j7.cell (H:=planH p++((b3,cells [.int .i64 (s:Nat)] 3)::F)) jK rfl).more hp
  rw[hq];unfold jcU PlG.pt;dsimp only;refine en2 8 Tryz.func221 ?_
  (iterate 17 first|refine yS ?_|intro _)
  exact zd
 ·rintro _ _ ⟨i,hi,h1,h2,rfl,rfl⟩
  have hf0:p.g.first 0=0:=rfl
  have hi1:1<=i:=by
   rcases Nat.eq_zero_or_pos i with h|h
   ·subst h
    have:=h2 0 bc bc
    simp[hf0] at this
   ·exact h
  have hik:i=k+1:=by
   have e1:k<i:=by
    rcases Nat.lt_or_ge k i with h|h
    ·exact h
    ·have:=h2 k h hk
     have:=of_decide_eq_false this
     omega
   rcases Nat.lt_or_ge (k+1) i with h|h
   ·have h3:=of_decide_eq_true (h1 (k+1) h)
    have h4:p.g.first (k+1)=p.g.first k+p.g.n k:=rfl
    omega
   ·omega
  have he:(i:Int)-1=((k:Nat):Int):=by omega
  have hx:p.g.parts[k]?=some (p.g.pt k):=jc1 hk
  have hsd:((s:Nat):Int)-((p.g.first k:Nat):Int)=(d:Nat):=by omega
  have hpt:(p.g.pt k).first=p.g.first k:=rfl
  have hf:=ok.g.first (Nat.le_of_lt hk)
  rw[he];refine ze ?_;clear hT T;simp only[jG,j8,jU];refine yr4 ?_;refine zac ?_;refine yr17 ?_;rw[hpt,hsd];exact zI
structure jk where
 st:Int
 slot:Int
 gen:Int
def enE:Enc jk:=⟨fun e=> [.int .i64 e.st, .int .i64 e.slot, .int .u32 e.gen],3,fun _=>rfl,by intro x v hv;simp at hv;rcases hv with rfl|rfl|rfl<;>rfl⟩
def cntP (s:Int) (l:List jk):Nat:=l.countP fun e=>decide (e.st=s)
structure TbM where
 b:Nat
 l:List jk
 gens:Int
 o:Own
def jF (t:TbM):jb:=(t.b,cells [oV t.o t.l.length, .int .i64 t.gens, .int .i64 (cntP 0 t.l:Nat), .int .i64 (cntP 1 t.l:Nat), .int .i64 (cntP 2 t.l:Nat), .int .i64 (cntP 3 t.l:Nat)] 269)::oH enE 266 t.l t.o
theorem Jm {t:TbM} {F:jb}:jF t++F=(t.b,cells [oV t.o t.l.length, .int .i64 t.gens, .int .i64 (cntP 0 t.l:Nat), .int .i64 (cntP 1 t.l:Nat), .int .i64 (cntP 2 t.l:Nat), .int .i64 (cntP 3 t.l:Nat)] 269)::(oH enE 266 t.l t.o++F):=rfl
structure TbOk (t:TbM):Prop where
 o:oOk enE t.l t.o
 n:1<=t.l.length/\t.l.length<=1024
 g:1<=t.gens/\t.gens<=2147483648
 e: ∀ e∈t.l,0<=e.st/\e.st<4/\1<=e.gen/\e.gen<=2147483648/\0<=e.slot/\e.slot<=1000000
theorem Mul_K {w0:World} {H:jb} (x y:Nat) (hx:x<18446744073709551616) (hy:y<18446744073709551616):
  Cs w0 247 [.int .u64 x, .int .u64 y] H (.tuple #[.int .u64 ((x*y/18446744073709551616:Nat):Int), .int .u64 ((x*y%18446744073709551616:Nat):Int)]):=by
 refine⟨by kernel_rfl,fun w hw=>?_⟩;refine(Tryz.bits_Mul x y hx hy w).mono ?_;rintro e w' ⟨he,rfl⟩;exact⟨_,_,he,hw,rfl,rfl⟩
structure RqS where
 k:Nat
 zs:List jk
theorem jh8 {α:Type} {n k j:Nat} {z:α} {zs:List α} (h:zs.length=n) (hk:k<=n) (ht:zs.take k=List.replicate k z) {ys:List α} (hy:ys=List.replicate j z):
  (jbb zs ys k).length=n/\(jbb zs ys k).take (k+min j (n-k))=List.replicate (k+min j (n-k)) z:=by
 subst hy;unfold jbb
 have e0:min (min j (n-k)) j=min j (n-k):=by omega
 simp only[List.length_replicate,h,List.take_replicate,ht,e0]
 constructor
 ·simp;omega
 ·rw[List.take_append_of_le_length bF,List.take_of_length_le bF,List.replicate_append_replicate]
theorem Repeat_K {w0:World} {H:jb} {v:Value} {z:jk} {n:Nat} (hS:Sli w0 H enE v [z]) (hn:n<=100000):
  Call Tryz.prog w0 159 [v, .int .i64 (n:Nat)] H (fun r H'=> ∃ o,oOk enE (List.replicate n z) o/\r=oV o (List.replicate n z).length/\H'=oH enE 266 (List.replicate n z) o++H):=by
 refine en2 48 Tryz.func159 ?_;refine yq22 fun T hT=>?_;refine(CallV.fn (Mul_K 1 n bc bc)).mono ?_;rintro _ H ⟨rfl,rfl⟩
 have e1:1*n/18446744073709551616=0:=by omega
 have e2:1*n%18446744073709551616=n:=by omega
 rw[e1,e2];refine ze ?_;clear hT T;refine yr21 ?_;refine zg ?_;refine yr2 ?_;refine KL.e rfl (Eff.makeR (E:=enE) (x0:=⟨0,0,0⟩) rfl rfl rfl rfl rfl rfl bc) ?_;rintro _ _ ⟨o30,ok30,rfl,rfl⟩;refine yr7 ?_;refine KL.e rfl (Eff.copyS0 rfl rfl rfl rfl jt bh ba) ?_;rintro _ _ ⟨rfl,ok33,rfl⟩;refine yr5 ?_
 have hc0:=jh8 (k:=0) (j:=1) (z:=z) (zs:=List.replicate n (⟨0,0,0⟩:jk)) (n:=n) bF bc bF (ys:=[z]) rfl
 refine K.loopT (σ:=RqS) [] (fun s kp_=>(8, .int .i64 (s.k:Nat))::(7,oV o30 s.zs.length)::kp_) (fun s=>oH enE 266 s.zs o30++H) (fun s=>s.zs.length=n/\s.k<=n/\s.zs.take s.k=List.replicate s.k z/\oOk enE s.zs o30/\(s.k=0->n=0)) (fun s=>n-s.k) (⟨min 1 n,jbb (List.replicate n ⟨0,0,0⟩) [z] 0⟩) jg ja (⟨hc0.1,by dsimp only;omega,by have:=hc0.2;simpa using this,ok33,by dsimp only;omega⟩) ?_;rintro⟨k,zs⟩ ⟨hl,hk,ht,ok,h0⟩;dsimp only at hl hk ht ok h0|-
 by_cases hlt:k<n
 ·have hkl:k<=zs.length:=by omega
  have hkl':k<zs.length:=by omega
  have hsli:Sli w0 (oH enE 266 zs o30++H) enE (oV o30 zs.length) zs:=Sli.own jE.head ok rfl
  refine yr13 ?_;refine zi ?_
  (repeat refine K.seq ?_)
  refine K.dr (H) (od 0 [1,0,0,0,0,0,0,2,0,0]) ja ?_;refine yr7 ?_
  --STOP before op 7
  refine KD.e rfl rfl (Eff.copyS (E:=enE) (xs:=zs) (ys:=(zs.take k).drop 0) (o:=o30) (i:=k) rfl rfl rfl rfl rfl hkl jE.head ok (hsli.sub (Nat.zero_le _) hkl)) ?_;rintro _ _ ⟨rfl,ok',rfl⟩;refine⟨ja,?_⟩
  have hys:(zs.take k).drop 0=List.replicate k z:=by simpa using ht
  have hc:=jh8 (j:=k) hl hk ht hys
  rw[hys] at ok' hc|-;simp only[List.length_replicate]
  have hmin:min k (zs.length-k)+k<=n:=by omega
  refine yr4 ?_;exact KE.again ⟨k+min k (zs.length-k),jbb zs (List.replicate k z) k⟩ jg ja ⟨hc.1,by dsimp only;omega,by have:=hc.2;rw [hl];exact this,ok',by dsimp only;omega⟩ Bi
 ·have hkn:k=n:=by omega
  subst hkn
  have hzs:zs=List.replicate k z:=by rw[<-ht,List.take_of_length_le bc]
  subst hzs;refine yr22 ?_;exact KE.fin jd rfl jc ja ⟨o30,ok,rfl,rfl⟩
theorem cnt_rep (s:Int) (z:jk) (n:Nat):cntP s (List.replicate n z)=if z.st=s then n else 0:=by
 unfold cntP;rw[List.countP_replicate]
 simp
theorem tbNew_K {w0:World} {H:jb} {n:Nat} {gens:Int} (hn:1<=n/\n<=1024) (hg:1<=gens/\gens<=2147483648):
  Call Tryz.prog w0 91 [.int .i64 (n:Nat), .int .i64 gens] H (fun r H'=> ∃ t,TbOk t/\t.l=List.replicate n ⟨0,0,1⟩/\t.gens=gens/\r= .tuple [pt t.b, .int .i64 0].toArray/\H'=jF t++H):=by
 have h1: ¬((n:Nat):Int)<1:=by omega
 have h2: ¬((n:Nat):Int)>1024:=by omega
 refine en2 34 Tryz.func91 ?_
 (iterate 35 first|refine yS ?_|intro _)
 refine Jx (Repeat_K (z:=⟨0,0,1⟩) (n:=n) (Sli.blk jK rfl bF (by simp[maxLen]) rfl) bc) ?_;rintro _ _ ⟨o,ko,rfl,rfl⟩;refine yr3 ?_;intro b27;refine yr21 ?_;refine KE.fin (H':=jF ⟨b27,List.replicate n ⟨0,0,1⟩,gens,o⟩++H) jd rfl jc (by simp only[Jm,cnt_rep];exact ja) ⟨⟨b27,List.replicate n ⟨0,0,1⟩,gens,o⟩,⟨ko,by simpa using hn,hg,fun e he=>?_⟩,rfl,rfl,rfl,rfl⟩;rw[(List.mem_replicate.1 he).2];decide
section
variable {w0 : World} {F : jb} {t : TbM}
theorem ji3 (ok:TbOk t):Cs w0 218 [pt t.b] (jF t++F) (.bool false):=by
 have ho:=ok.o
 have hn:=ok.n
 have hne: ¬((t.l.length:Nat):Int)=0:=by omega
 refine en1 13 Tryz.func218 ?_;simp only[Jm];refine yr21 ?_;exact zt
theorem jgZ (ok:TbOk t):Cs w0 162 [pt t.b] (jF t++F) (.int .i64 (t.l.length:Nat)):=by
 have ho:=ok.o
 refine en1 10 Tryz.func162 ?_;refine yr10 ?_;refine jj (ji3 ok) ?_;simp only[Jm];refine yr16 ?_;exact zt
end
set_option maxRecDepth 100000
set_option maxHeartbeats 4000000
theorem jfV {w0:World} {H:jb} (n:Int):CallV Tryz.prog w0 (.func (.func 146) #[] #[]) [.int .u64 n] H (fun r H'=>r= .float .f64 n.toNat/\H'=H):=
 CallV.extern (e:=Extern.MathFloatBits.float64frombits) Tryz.func146 bu bu bu bu (fun w=>rfl)
theorem bits_V {w0:World} {H:jb} (b:Nat):CallV Tryz.prog w0 (.func (.func 148) #[] #[]) [.float .f64 b] H (fun r H'=>r= .int .u64 b/\H'=H):=
 CallV.extern (e:=Extern.MathFloatBits.float64bits) Tryz.func148 bu bu bu bu (fun w=>rfl)
set_option maxRecDepth 10000 in
theorem jgB {w0:World} {H:jb} (n:Int):Cs w0 310 [.int .u64 n] H (.float .f64 n.toNat):=by
 refine en1 5 Tryz.func310 ?_;refine yq8 fun T hT=>?_;refine(jfV n).mono ?_;rintro _ _ ⟨rfl,rfl⟩;refine ze ?_;clear hT T;refine yr4 ?_;exact zd
set_option maxRecDepth 10000 in
theorem Canon_K {w0:World} {H:jb} (n:Nat):Cs w0 311 [.int .u64 n] H (.int .u64 (canonN (fl n))):=by
 refine en1 10 Tryz.func311 ?_;refine yq9 fun T hT=>?_;refine(CallV.fn (jgB n)).mono ?_;rintro _ _ ⟨rfl,rfl⟩;rw[show((n:Int)).toNat=n by omega]
 cases hf:fl n with
 |none=>
  have hi:(fl n).isNone=true:=by rw[hf];rfl
  refine ze ?_;clear hT T;refine yr3 ?_;refine zg ?_;refine yr4 ?_;rw[hi];refine yr9 ?_;exact zn
 |some c=>
  have hi:(fl n).isNone=false:=by rw[hf];rfl
  have hc:=jfr hf
  subst hc;refine ze ?_;clear hT T;refine yr3 ?_;refine zg ?_;refine yr4 ?_;rw[hi];refine yr11 ?_;exact zn
structure SuS where
 k:Nat
 r:Nat
set_option maxRecDepth 10000 in
theorem Sum_K {w0:World} {H:jb} {v:Value} {l:List Int} (hS:Sli w0 H uE v l) (hl:l.length<=1000000):
  Cs w0 214 [v] H (.int .u64 (Go.Proofs.YtciaccbemnpipaaGreatDoor.sumP l)):=by
 refine en1 28 Tryz.func214 ?_
 cases l with
 |nil=>
  have h0:((List.length ([]:List Int):Nat):Int)=0:=rfl
  refine yr21 ?_;exact zd
 |cons x l=>
  have hx:(x::l)[0]?=some x:=rfl
  have hx0:(x::l)[Int.toNat 0]?=some x:=rfl
  have hne: ¬(((x::l).length:Nat):Int)=0:=by simp only[List.length_cons];omega
  have hS1:Sli w0 H uE (j9 v (Int.toNat 1) (x::l).length uE.sz) l:=by
   have:=hS.sub (l:=1) (h:=(x::l).length) bF (Nat.le_refl _)
   simpa using this
  have hl':l.length<=1000000:=by simp only[List.length_cons] at hl;omega
  refine yr22 ?_;refine Jx (jgB x) ?_;rintro _ H ⟨rfl,rfl⟩;refine yr13 ?_;refine K.loopT (σ:=SuS) [(14,_),(15,_)] (fun s kp_=>(16, .int .i64 (s.k:Nat))::(3, .float .f64 s.r)::kp_) (fun s=>H) (fun s=>s.k<=l.length/\fl s.r=(l.take s.k).foldl (fun a w=>addF a (fl w.toNat)) (fl x.toNat)) (fun s=>l.length-s.k) (⟨0,x.toNat⟩) jg ja (⟨by simp,by simp⟩) ?_;rintro⟨k,r⟩ ⟨hk,hr⟩;dsimp only at hk hr|-
  by_cases hlt:k<l.length
  ·obtain⟨y,hy⟩:=jq hlt
   refine yr22 ?_;refine Jx (jgB y) ?_;rintro _ H ⟨rfl,rfl⟩;refine KL.e rfl (Eff.fadd rfl rfl) ?_;rintro _ _ ⟨f23,fb23,fe23,rfl,rfl⟩;refine yr8 ?_;exact KE.again ⟨k+1,f23⟩ jg ja ⟨by show k+1<=_;omega,by show fl f23=_;rw [fe23,hr,ja6 hy,List.foldl_append];rfl⟩ bQ
  ·have hkl:l.take k=l:=List.take_of_length_le bc
   rw[hkl] at hr;refine yq15 fun T hT=>?_;refine(bits_V r).mono ?_;rintro _ H ⟨rfl,rfl⟩;refine ze ?_;clear hT T;refine yr1 ?_;refine Jx (Canon_K r) ?_;rintro _ H ⟨rfl,rfl⟩;refine yr4 ?_;exact KE.fin jd rfl jc ja ⟨by rw[hr];rfl,rfl⟩
theorem fl_kind (n:Nat):fl n=none↔n/4503599627370496%2048=2047/\n%4503599627370496≠0:=by
 rw[fl_none];omega
theorem Kind_K {w0:World} {H:jb} {n:Nat} (hn:n<18446744073709551616):
  Call Tryz.prog w0 328 [.int .u64 n] H (fun r H'=> ∃ (k:Int) (b:Bool),(k=0↔fl n=none)/\r= .tuple [.int .u8 k, .bool b].toArray/\H'=H):=by
 have hsh:(n:Int).fdiv (2^(min (Int.toNat 52) IntKind.u64.bits))=((n/4503599627370496:Nat):Int):=by
  have e:(2:Int)^min (Int.toNat 52) IntKind.u64.bits=4503599627370496:=by decide
  rw[e,Int.fdiv_eq_ediv_of_nonneg _ bc];omega
 have hsh0:0<=(n:Int).fdiv (2^(min (Int.toNat 52) IntKind.u64.bits)):=by rw[hsh];omega
 have hk:=fl_kind n
 obtain⟨e,he⟩: ∃ e:Nat,e=n/4503599627370496%2048:=⟨_,rfl⟩
 obtain⟨m,hm⟩: ∃ m:Nat,m=n%4503599627370496:=⟨_,rfl⟩
 have he':((n/4503599627370496:Nat):Int)%2048=(e:Int):=by omega
 have hm':(n:Int)%4503599627370496=(m:Int):=by omega
 rw[<-he,<-hm] at hk;refine en1 32 Tryz.func328 ?_;refine yr25 ?_;rw[hsh,he',hm']
 by_cases h1:(e:Int)=2047
 ·by_cases h2:(m:Int)=0
  ·have h2': ¬(m:Int)≠0:=by omega
   refine yr31 ?_;exact KE.fin jd rfl jc ja ⟨1,_,⟨fun h=>by omega,fun h=>by have:=(hk.1 h).2;omega⟩,rfl,rfl⟩
  ·have h2':(m:Int)≠0:=h2
   refine yr21 ?_;exact KE.fin jd rfl jc ja ⟨0,_,⟨fun _=>hk.2 ⟨by omega,by omega⟩,fun _=>rfl⟩,rfl,rfl⟩
 ·have hnn:fl n≠none:=fun h=>by have:=(hk.1 h).1;omega
  by_cases h3:(e:Int)≠0
  ·refine yr41 ?_;exact KE.fin jd rfl jc ja ⟨2,_,⟨fun h=>by omega,fun h=>absurd h hnn⟩,rfl,rfl⟩
  ·by_cases h4:(m:Int)≠0
   ·refine yr51 ?_;exact KE.fin jd rfl jc ja ⟨3,_,⟨fun h=>by omega,fun h=>absurd h hnn⟩,rfl,rfl⟩
   ·refine yr52 ?_;exact KE.fin jd rfl jc ja ⟨4,_,⟨fun h=>by omega,fun h=>absurd h hnn⟩,rfl,rfl⟩
theorem nan_K {w0:World} {H:jb} {n:Nat} (hn:n<18446744073709551616):
  Cs w0 243 [.int .u64 n] H (.bool (fl n).isNone):=by
 refine en1 12 Tryz.func243 ?_;refine yq8 fun T hT=>?_;refine(CallV.fn (Kind_K hn)).mono ?_;rintro _ _ ⟨k,b,hk,rfl,rfl⟩
 by_cases h0:k=0
 ·have:(fl n).isNone=true:=by rw[hk.1 h0];rfl
  refine ze ?_;clear hT T;refine yr15 ?_;exact KE.fin jd rfl jc ja ⟨by rw[this];rfl,rfl⟩
 ·have:(fl n).isNone=false:=by
   cases h:fl n with
   |none=>exact absurd (hk.2 h) h0
   |some c=>rfl
  refine ze ?_;clear hT T;refine yr15 ?_;exact KE.fin jd rfl jc ja ⟨by rw[this];rfl,rfl⟩
theorem RCanon_K {w0:World} {H:jb} {n:Nat} (hn:n<18446744073709551616):
  Cs w0 147 [.int .u64 n] H (.int .u64 (canonN (fl n))):=by
 refine en1 6 Tryz.func147 ?_;refine yq9 fun T hT=>?_;refine(CallV.fn (nan_K hn)).mono ?_;rintro _ _ ⟨rfl,rfl⟩
 cases hf:fl n with
 |none=>
  refine ze ?_;clear hT T;refine yr10 ?_;exact zn
 |some c=>
  have hc:=jfr hf
  subst hc;refine ze ?_;clear hT T;refine yr12 ?_;exact zn
structure RSuS where
 k:Nat
 r:Nat
theorem RSum_K {w0:World} {H:jb} {v:Value} {l:List Int} (hS:Sli w0 H uE v l) (hl:l.length<=1000000) (hb: ∀ x∈l,0<=x/\x<18446744073709551616):
  Cs w0 76 [v] H (.int .u64 (Go.Proofs.YtciaccbemnpipaaGreatDoor.sumP l)):=by
 refine en1 28 Tryz.func76 ?_
 cases l with
 |nil=>
  have h0:((List.length ([]:List Int):Nat):Int)=0:=rfl
  refine yr21 ?_;exact zd
 |cons x l=>
  have hx:(x::l)[0]?=some x:=rfl
  have hx0:(x::l)[Int.toNat 0]?=some x:=rfl
  have hne: ¬(((x::l).length:Nat):Int)=0:=by simp only[List.length_cons];omega
  have hl':l.length<=1000000:=by simp only[List.length_cons] at hl;omega
  have hxb:=hb x (.head _)
  refine yq21 fun T hT=>?_;refine(jfV x).mono ?_;rintro _ H ⟨rfl,rfl⟩;refine ze ?_;clear hT T;refine yr10 ?_;refine K.loopT (σ:=RSuS) [(0,_)] (fun s kp_=>(4, .int .i64 (s.k:Nat))::(3, .float .f64 s.r)::kp_) (fun s=>H) (fun s=>1<=s.k/\s.k<=(x::l).length/\s.r<18446744073709551616/\fl s.r=(l.take (s.k-1)).foldl (fun a w=>addF a (fl w.toNat)) (fl x.toNat)) (fun s=>(x::l).length-s.k) (⟨1,x.toNat⟩) jg ja (⟨by simp,by simp,by dsimp only;omega,by simp⟩) ?_;rintro⟨k,r⟩ ⟨hk1,hk,hrb,hr⟩;dsimp only at hk1 hk hrb hr|-
  by_cases hlt:k<(x::l).length
  ·obtain⟨y,hy⟩:=jq hlt
   have hy2:l[k-1]?=some y:=by rw[show k=(k-1)+1 by omega] at hy;simpa using hy
   refine yq20 fun T hT=>?_;refine(jfV y).mono ?_;rintro _ H ⟨rfl,rfl⟩;refine ze ?_;clear hT T;refine KL.e rfl (Eff.fadd rfl rfl) ?_;rintro _ _ ⟨f24,fb24,fe24,rfl,rfl⟩;refine yr9 ?_;exact KE.again ⟨k+1,f24⟩ jg ja ⟨by show 1<=k+1;omega,by show k+1<=_;omega,fb24,by show fl f24=(l.take (k+1-1)).foldl _ _;rw [fe24,hr,show k+1-1=(k-1)+1 by omega,ja6 hy2,List.foldl_append];rfl⟩ (by show(x::l).length-(k+1)<(x::l).length-k;omega)
  ·have hkl:l.take (k-1)=l:=List.take_of_length_le (by simp only[List.length_cons] at hlt;omega)
   rw[hkl] at hr;refine yq18 fun T hT=>?_;refine(bits_V r).mono ?_;rintro _ H ⟨rfl,rfl⟩;refine ze ?_;clear hT T;refine yr1 ?_;refine Jx (RCanon_K hrb) ?_;rintro _ H ⟨rfl,rfl⟩;refine yr4 ?_;exact KE.fin jd rfl jc ja ⟨by rw[hr];rfl,rfl⟩
