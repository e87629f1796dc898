/-The walker and the contracts that the law needs,part 32. -/
import Derived.Test.YtpcgafhgfjlkmaaGreatDoorD1
import Derived.ArgAppend
import Derived.ChangeMaps5
import Derived.Deep.Fields
import Derived.Deep.LoopGhost
import Derived.Deep.OwnRows
import Derived.Deep.Quiet
import Derived.Deep.Slices
import Derived.IntWalk
import Derived.Laws.Cells
import Derived.Laws.CopyOwn
import Derived.Laws.Externs
import Derived.Laws.FloatArith
import Derived.Laws.IdiomStrings
import Derived.Laws.NewFold
import Derived.Laws.StructEq
import Derived.Lib.BitFns
import Derived.Lib.Hide
import Derived.Lib.SmallJoins
import Derived.Lib.TrailingZeros
import Derived.Maps.RangeRun
import Derived.OrdersIn
import Derived.ProofKit
import Derived.RangeFuncBound
import Derived.RangeFuncCalls
import Derived.RangeFuncLeaves
import Derived.RangeFuncNested
import Derived.RecoverIn
import Derived.Shelf.Bits.Mul64
import Derived.Shelf.Slices.Turned
import Derived.Shelf.Spec.TrailingZeros
import Derived.Shelf.Strconv.Itoa0
import Derived.SizedLaws
import Derived.Sort.BigQuietIn
import Derived.StillTailTactics
import Derived.Test.YtpcgafhgfjlkmaaGreatDoorProg
import Derived.WalkKit
import Derived.Test.YtpcgafhgfjlkmaaGreatDoorJ26
set_option linter.unusedVariables false set_option linter.unusedSimpArgs false set_option linter.unusedVariables false
set_option linter.unusedSimpArgs false
namespace Go.Proofs.YtpcgafhgfjlkmaaGreatDoor.Sw
set_option maxHeartbeats 8000000
open Go.Proofs.YtpcgafhgfjlkmaaGreatDoor renaming lo → qL, hi → qH
open Go.RowKit
set_option maxRecDepth 10000
section
variable {w0 : World} {F : jb} {t : TbM}
theorem jlP {i:Nat} {e:jh} (ok:TbOk t) (he:t.l[i]?=some e) (h0:e.st=2):
  Call Tryz.prog w0 254 [.pointer (some ⟨t.b,0,none⟩), .pointer (some (adr (oV t.o t.l.length) (i*enE.sz))), .int .i64 0] (jy t++F) (fun r H'=>r= .tuple #[]∧H'=jy ⟨t.b,t.l.set i ⟨0,e.slot,e.gen⟩,t.gens,t.o⟩++F):=by
 have ho:=ok.o
 have hn:=ok.n
 obtain⟨st,sl,ge⟩:=e
 dsimp only at h0;subst h0
 have c0:=jaF he ⟨0,sl,ge⟩ 0
 have c1:=jaF he ⟨0,sl,ge⟩ 1
 have c2:=jaF he ⟨0,sl,ge⟩ 2
 have c3:=jaF he ⟨0,sl,ge⟩ 3
 have p0:1≤cntP 2 t.l:=jgc he
 have p1:=jc7 0 t.l
 have p2:=jc7 2 t.l
 simp at c0 c1 c2 c3
 have e0:((cntP 2 t.l:Nat):Int)-1=((cntP 2 (t.l.set i ⟨0,sl,ge⟩):Nat):Int):=by omega
 have e1:((cntP 0 t.l:Nat):Int)+1=((cntP 0 (t.l.set i ⟨0,sl,ge⟩):Nat):Int):=by omega
 refine zi9 ?_;simp only[Jf];refine K.seq ?_;refine zgW ?_;refine zj ?_;refine zeb ?_;refine zej ?_;refine zdF ?_;dsimp only;refine zbX ?_;refine zP ?_;refine zg4 ?_;refine zdF ?_;refine zbX ?_;refine zby ?_;refine za1 ?_;refine zhW ?_;refine zj ?_;refine zap ?_;refine zg2 ?_;refine zbX ?_;refine zP ?_;refine zc5 ?_;refine zdF ?_;refine zbX ?_;refine zby ?_;refine zbG ?_;refine zbm ?_;refine zbK ?_;refine zfR ?_;refine KL.eN (Eff.stSl0 (x1:=(⟨0,sl,ge⟩:jh)) rfl rfl rfl rfl jn ho he rfl rfl) ?_;rintro _ _ rfl;refine zN ?_;rw[e0,e1];exact KE.finN (H':=jy ⟨t.b,t.l.set i ⟨0,sl,ge⟩,t.gens,t.o⟩++F) je rfl jd (by simp only[Jf,List.length_set,c1,c3];exact ja) ⟨rfl,rfl⟩
theorem jlO {i:Nat} {e:jh} (ok:TbOk t) (he:t.l[i]?=some e) (h0:e.st=2):
  Call Tryz.prog w0 254 [.pointer (some ⟨t.b,0,none⟩), .pointer (some (adr (oV t.o t.l.length) (i*enE.sz))), .int .i64 3] (jy t++F) (fun r H'=>r= .tuple #[]∧H'=jy ⟨t.b,t.l.set i ⟨3,e.slot,e.gen⟩,t.gens,t.o⟩++F):=by
 have ho:=ok.o
 have hn:=ok.n
 obtain⟨st,sl,ge⟩:=e
 dsimp only at h0;subst h0
 have c0:=jaF he ⟨3,sl,ge⟩ 0
 have c1:=jaF he ⟨3,sl,ge⟩ 1
 have c2:=jaF he ⟨3,sl,ge⟩ 2
 have c3:=jaF he ⟨3,sl,ge⟩ 3
 have p0:1≤cntP 2 t.l:=jgc he
 have p1:=jc7 3 t.l
 have p2:=jc7 2 t.l
 simp at c0 c1 c2 c3
 have e0:((cntP 2 t.l:Nat):Int)-1=((cntP 2 (t.l.set i ⟨3,sl,ge⟩):Nat):Int):=by omega
 have e1:((cntP 3 t.l:Nat):Int)+1=((cntP 3 (t.l.set i ⟨3,sl,ge⟩):Nat):Int):=by omega
 refine zi9 ?_;simp only[Jf];refine K.seq ?_;refine zgW ?_;refine zj ?_;refine zeb ?_;refine zej ?_;refine zdF ?_;dsimp only;refine zbX ?_;refine zP ?_;refine zg4 ?_;refine zdF ?_;refine zbX ?_;refine zby ?_;refine za1 ?_;refine zhW ?_;refine zj ?_;refine zap ?_;refine zg2 ?_;refine zbX ?_;refine zP ?_;refine zc5 ?_;refine zdF ?_;refine zbX ?_;refine zby ?_;refine zbG ?_;refine zbm ?_;refine zbK ?_;refine zfR ?_;refine KL.eN (Eff.stSl0 (x1:=(⟨3,sl,ge⟩:jh)) rfl rfl rfl rfl jn ho he rfl rfl) ?_;rintro _ _ rfl;refine zN ?_;rw[e0,e1];exact KE.finN (H':=jy ⟨t.b,t.l.set i ⟨3,sl,ge⟩,t.gens,t.o⟩++F) je rfl jd (by simp only[Jf,List.length_set,c0,c1];exact ja) ⟨rfl,rfl⟩
structure TbJ where
 i:Nat
theorem tbin2_K {st:Int} {q1 q2:Nat} {yv:Value} (ok:TbOk t) (A:Nat→jb) (R:Nat→TbM)
  (h0:R 0=t) (hb: ∀ i,(R i).b=t.b∧(R i).o=t.o∧(R i).l.length=t.l.length∧TbOk (R i)∧(R i).l[i]?=t.l[i]?)
  (hn: ∀ (i:Nat) (e:jh),t.l[i]?=some e→e.st≠st→A (i+1)=A i∧R (i+1)=R i)
  (hy: ∀ (i:Nat) (e:jh),t.l[i]?=some e→e.st=st→CallV Tryz.prog w0 yv [.int .i64 (i:Nat), .pointer (some (adr (oV t.o t.l.length) (i*enE.sz)))] (A i++((q1,cells [.pointer (some ⟨t.b,0,none⟩)] 70)::(q2,cells [.int .i64 st] 3)::(jy (R i)++F))) (fun u H'=>u= .bool true∧H'=A (i+1)++((q1,cells [.pointer (some ⟨t.b,0,none⟩)] 70)::(q2,cells [.int .i64 st] 3)::(jy (R (i+1))++F)))):
  Call Tryz.prog w0 301 [yv, .pointer (some ⟨q1,0,none⟩), .pointer (some ⟨q2,0,none⟩)] (A 0++((q1,cells [.pointer (some ⟨t.b,0,none⟩)] 70)::(q2,cells [.int .i64 st] 3)::(jy t++F)))
   (fun _ H'=>H'=A t.l.length++((q1,cells [.pointer (some ⟨t.b,0,none⟩)] 70)::(q2,cells [.int .i64 st] 3)::(jy (R t.l.length)++F))):=by
 have ho:=ok.o
 have hn0:=ok.n
 refine Call.enter3 (n:=34) (by kernel_rfl) Tryz.func301 rfl rfl rfl ?_;simp only[Jf];refine zy ?_;refine zec ?_;refine zbW ?_;refine zcH ?_;refine K.loopT (σ:=TbJ) [(0,_),(1,_),(2,_),(10,_)] (fun s kp_=>(11, .int .i64 (s.i:Nat))::kp_) (fun s=>A s.i++((q1,cells [.pointer (some ⟨t.b,0,none⟩)] 70)::(q2,cells [.int .i64 st] 3)::(jy (R s.i)++F))) (fun s=>s.i≤t.l.length) (fun s=>t.l.length-s.i) (⟨0⟩) jj (by dsimp only;rw [h0];exact(by first|exact ja|(simp only[Jf];exact ja))) (Nat.zero_le _) ?_;rintro⟨i⟩ hi;dsimp only at hi⊢
 obtain⟨b1,b2,b3,b4,b5⟩:=hb i
 have ho':=b4.o
 rw[b2] at ho'
 by_cases hlt:i<t.l.length
 ·obtain⟨e,he⟩:=jA hlt
  have he':(R i).l[i]?=some e:=b5.trans he
  by_cases hst:e.st=st
  ·have hyi:=hy i e he hst
   simp only[Jf,b1,b2,b3] at hyi⊢;refine zaN ?_;refine ze ?_;refine zu ?_;refine zec ?_;refine ze ?_;refine ze8 ?_;refine zk ?_;refine zcK ?_;refine zja ?_;refine zeb ?_;refine zgz ?_;refine zP ?_;refine zha ?_;refine zj ?_;refine zbi ?_;refine zbt ?_;refine zcb fun T hT=>?_;refine(CallV.part hyi ja).mono ?_;rintro _ H' ⟨rfl,rfl⟩;refine zg ?_;clear hT T;refine zh7 ?_;refine zcB ?_;refine zbH ?_;refine zcS ?_;exact KE.again ⟨i+1⟩ jj (by first|exact ja|(simp only[Jf];exact ja)) hlt (by show t.l.length-(i+1)<t.l.length-i;omega)
  ·obtain⟨ha,hr⟩:=hn i e he hst
   simp only[Jf,b1,b2,b3];refine zaN ?_;refine ze ?_;refine zu ?_;refine zec ?_;refine ze ?_;refine ze8 ?_;refine zk ?_;refine zcK ?_;refine zja ?_;refine zeb ?_;refine zgz ?_;refine zP ?_;refine zhb ?_;refine zj ?_;refine zft ?_;refine zgp ?_;refine zaB ?_;refine zbH ?_;refine zcS ?_;exact KE.again ⟨i+1⟩ jj (by dsimp only;rw [ha,hr];simp only[Jf,b1,b2,b3];exact ja) hlt (by show t.l.length-(i+1)<t.l.length-i;omega)
 ·have hie:i=t.l.length:=by omega
  subst hie;simp only[Jf,b1,b2,b3];refine ziA ?_;exact KE.finN (H':=A t.l.length++((q1,cells [.pointer (some ⟨t.b,0,none⟩)] 70)::(q2,cells [.int .i64 st] 3)::(jy (R t.l.length)++F))) je rfl jd (by simp only[Jf,b1,b2,b3];exact ja) (by simp only[Jf,b1,b2,b3])
def recTo (gens:Int) (T:List jh) (k:Nat):List jh:=Ji gens (T.take k)++T.drop k
theorem jjp (gens:Int) (T:List jh) (k:Nat):(recTo gens T k).length=T.length:=by
 grind[recTo,Ji]
theorem jjq (gens:Int) (T:List jh):recTo gens T T.length=Ji gens T:=by simp[recTo]
theorem jhv (gens:Int) (T:List jh) (k:Nat):(recTo gens T k)[k]?=T[k]? :=by
 grind[recTo,Ji,jaz]
theorem jgK {gens:Int} {T:List jh} {k:Nat} {e:jh} (h:T[k]?=some e):recTo gens T (k+1)=(recTo gens T k).set k (jaz gens e):=by
 have hlt:=jx h
 unfold recTo Ji
 have hl:((T.take k).map (jaz gens)).length=k:=by rw[List.length_map,List.length_take];omega
 rw[List.set_append,if_neg (by omega),hl,Nat.sub_self,jca h,List.map_append,List.append_assoc]
 congr 1
 rw[List.drop_eq_getElem_cons hlt]
 have:T[k]=e:=by rw[List.getElem?_eq_getElem hlt] at h;exact Option.some.inj h
 rw[this];rfl
theorem jjr {gens:Int} {T:List jh} {k:Nat} {e:jh} (h:T[k]?=some e):recyN gens (T.take (k+1))=recyN gens (T.take k)+(if e.st=2∧ ¬e.gen≥gens then 1 else 0):=by
 unfold recyN;rw[jca h,List.countP_append]
 by_cases hc:e.st=2∧ ¬e.gen≥gens
 ·rw[if_pos hc,List.countP_cons_of_pos (by exact decide_eq_true hc)];rfl
 ·rw[if_neg hc,List.countP_cons_of_neg (by rw[decide_eq_false hc];exact Bool.false_ne_true)];rfl
theorem jl1 {gens:Int} {T:List jh} {k:Nat} {e:jh} (h:T[k]?=some e) (hn:e.st≠2):recTo gens T (k+1)=recTo gens T k∧recyN gens (T.take (k+1))=recyN gens (T.take k):=by
 constructor
 ·rw[jgK h];unfold jaz;rw[if_neg hn]
  obtain⟨hl,he⟩:=List.getElem?_eq_some_iff.1 ((jhv gens T k).trans h)
  rw[←he,List.set_getElem_self]
 ·rw[jjr h,if_neg (fun h=>hn h.1)];rfl
theorem jhu (ok:TbOk t) (k:Nat):TbOk ⟨t.b,recTo t.gens t.l k,t.gens,t.o⟩:=by
 induction k with
 |zero=>exact ok
 |succ k ih=>
  cases h:t.l[k]? with
  |none=>
   have hl:=List.getElem?_eq_none_iff.1 h
   have:recTo t.gens t.l (k+1)=recTo t.gens t.l k:=by
    unfold recTo;rw[List.take_of_length_le (by omega),List.take_of_length_le hl,List.drop_of_length_le (by omega),List.drop_of_length_le hl]
   rw[this];exact ih
  |some e=>
   rw[jgK h]
   have hb:=ok.e e (List.mem_of_getElem? h)
   have hg:=ok.g
   refine jej (t:=⟨t.b,recTo t.gens t.l k,t.gens,t.o⟩) ih ?_;unfold jaz
   split
   ·split
    ·dsimp only;omega
    ·dsimp only;omega
   ·exact hb
theorem recyN_le (gens:Int) (T:List jh):recyN gens T≤T.length:=List.countP_le_length
set_option maxHeartbeats 2000000 in
theorem jls (ok:TbOk t):Call Tryz.prog w0 294 [.pointer (some ⟨t.b,0,none⟩)] (jy t++F)
  (fun r H'=>r= .int .i64 (recyN t.gens t.l:Nat)∧TbOk ⟨t.b,Ji t.gens t.l,t.gens,t.o⟩∧H'=jy ⟨t.b,Ji t.gens t.l,t.gens,t.o⟩++F):=by
 have ho:=ok.o
 have hn:=ok.n
 have hg:=ok.g
 have okE:=jhu ok t.l.length
 rw[jjq] at okE;refine Call.enter1 (n:=41) (by kernel_rfl) Tryz.func294 rfl rfl rfl ?_;refine zdV ?_;intro b1;refine zX ?_;refine zV ?_;refine zcL ?_;refine zz ?_;refine zaD ?_;intro b3;refine zO ?_;refine zdH ?_;refine zV ?_;refine jat (tbin_K (b:=t.b) (st:=2)) ?_;rintro _ _ ⟨c1,c2,rfl,rfl⟩;refine zb9 ?_;refine K.rangeFunc (lb:=[.pointer (some ⟨c1,0,none⟩), .pointer (some ⟨c2,0,none⟩)]) rfl
  (fun D G=>G=(D, .deferred (some []))::(b3,cells [.int .i64 (recyN t.gens t.l:Nat)] 3)::(b1,cells [.pointer (some ⟨t.b,0,none⟩)] 70)::(jy ⟨t.b,Ji t.gens t.l,t.gens,t.o⟩++F))
  (fun D c G=>False) ?_ ?_ ?_
 ·intro l D rc hyl
  refine(Call.part (tbin2_K (F:=F) (st:=2) (q1:=c1) (q2:=c2) ok
   (fun k=>(l, .loop (rc .ready none))::(D, .deferred (some []))::(b3,cells [.int .i64 (recyN t.gens (t.l.take k):Nat)] 3)::(b1,cells [.pointer (some ⟨t.b,0,none⟩)] 70)::[])
   (fun k=>⟨t.b,recTo t.gens t.l k,t.gens,t.o⟩) rfl
   (fun k=>⟨rfl,rfl,jjp _ _ _,jhu ok k,jhv _ _ _⟩)
   (fun i e he hn=>by
    obtain⟨q1,q2⟩:=jl1 (gens:=t.gens) he hn
    rw[q1,q2];exact⟨rfl,rfl⟩) ?_) (by simp only[List.cons_append,List.nil_append];exact ja)).mono ?_
  ·intro i e he hst
   obtain⟨st,sl,ge⟩:=e
   dsimp only at hst;subst hst
   have hb:=ok.e _ (List.mem_of_getElem? he)
   dsimp only at hb
   have hlt:=jx he
   have okL:=jhu ok i
   have heL:=(jhv t.gens t.l i).trans he
   have hll:=jjp t.gens t.l i
   have hnx:=jgK (gens:=t.gens) he
   have hn2:=jjr (gens:=t.gens) he
   have hnl:=recyN_le t.gens (t.l.take i)
   rw[List.length_take] at hnl
   obtain⟨n,hn'⟩: ∃ n,recyN t.gens (t.l.take i)=n:=⟨_,rfl⟩
   rw[hn'] at hn2 hnl
   obtain⟨L,hL⟩: ∃ L,recTo t.gens t.l i=L:=⟨_,rfl⟩
   rw[hL] at okL heL hll hnx
   obtain⟨n1,hn1⟩: ∃ n1,recyN t.gens (t.l.take (i+1))=n1:=⟨_,rfl⟩
   rw[hn1] at hn2;rw[hL,hn',hnx,hn1]
   have okL1:TbOk ⟨t.b,L.set i ⟨2,0,ge⟩,t.gens,t.o⟩:=jej okL (by dsimp only;omega)
   have heL1:(L.set i (⟨2,0,ge⟩:jh))[i]?=some ⟨2,0,ge⟩:=List.getElem?_set_self (by omega)
   have hll1:(L.set i (⟨2,0,ge⟩:jh)).length=t.l.length:=by rw[List.length_set];exact hll
   have hcs: ∀ q:Int,cntP q (L.set i ⟨2,0,ge⟩)=cntP q L:=fun q=>by
    have:=jaF heL ⟨2,0,ge⟩ q
    dsimp only at this
    omega
   have hoL:=okL.o
   have hoL1:=okL1.o
   dsimp only at hoL hoL1;refine ziz ?_;refine zge ?_;refine K.block ?_;simp only[Jf,hll]
   skip
   refine zdC ?_;refine zbK ?_;refine zc7 ?_;refine KL.eN (Eff.stSl (j:=1) (x1:=(⟨2,0,ge⟩:jh)) rfl rfl rfl rfl jn hoL heL rfl rfl) ?_;rintro _ _ rfl;refine zN ?_
   by_cases hge:ge≥t.gens
   ·have hre:jaz t.gens ⟨2,sl,ge⟩=⟨3,0,ge⟩:=by unfold jaz;rw [if_pos rfl,if_pos hge]
    have hn1':n1=n:=by rw[hn2,if_neg (fun h=>h.2 hge)];rfl
    subst hn1'
    have ht:=fun A=>jlO (w0:=w0) (F:=A) okL1 heL1 rfl
    simp only[hll1,List.set_set,hre] at ht⊢;refine KE.next (K.seq (K.seq ?_));refine zlX ?_;refine zap ?_;refine zjf ?_;refine zkz ?_;refine KD.v0 rfl rfl (Val.conv rfl rfl rfl (by simp only[qL,qH];omega)) ?_;refine zbN ?_;refine zd1 ?_;refine KD.v0 rfl rfl (Val.isT (Val.geq rfl rfl) jL) ?_;refine zD ?_;refine zcs ?_;refine zb6 fun T hT=>?_;refine(CallV.part (CallV.fn (ht _)) (by simp only[Jf,hll1,hcs];exact ja)).mono ?_;rintro _ _ ⟨rfl,rfl⟩;refine zd ?_;clear hT T;refine zaY ?_;refine zc4 ?_;refine zdW ?_;refine KE.part ((l, .loop (rc .busy none))::((D, .deferred (some []))::(b3,cells [.int .i64 (n1:Nat)] 3)::(b1,cells [.pointer (some ⟨t.b,0,none⟩)] 70)::(c1,cells [.pointer (some ⟨t.b,0,none⟩)] 70)::(c2,cells [.int .i64 2] 3)::(jy ⟨t.b,L.set i ⟨3,0,ge⟩,t.gens,t.o⟩++F))) (by exact ja) ?_;exact KE.roundN j3.head ⟨rfl,rfl⟩
   ·have hre:jaz t.gens ⟨2,sl,ge⟩=⟨0,0,ge+1⟩:=by unfold jaz;rw [if_pos rfl,if_neg hge]
    have okL2:TbOk ⟨t.b,L.set i ⟨2,0,ge+1⟩,t.gens,t.o⟩:=jej okL (by dsimp only;omega)
    have heL2:(L.set i (⟨2,0,ge+1⟩:jh))[i]?=some ⟨2,0,ge+1⟩:=List.getElem?_set_self (by omega)
    have hll2:(L.set i (⟨2,0,ge+1⟩:jh)).length=t.l.length:=by rw[List.length_set];exact hll
    have hcs2: ∀ q:Int,cntP q (L.set i ⟨2,0,ge+1⟩)=cntP q L:=fun q=>by
     have:=jaF heL ⟨2,0,ge+1⟩ q
     dsimp only at this
     omega
    have hn1':n1=n+1:=by rw[hn2,if_pos (show(⟨2,sl,ge⟩:jh).st=2∧ ¬(⟨2,sl,ge⟩:jh).gen≥t.gens from⟨rfl,hge⟩)]
    subst hn1'
    have ht:=fun A=>jlP (w0:=w0) (F:=A) okL2 heL2 rfl
    simp only[hll2,List.set_set,hre] at ht⊢;refine KE.next (K.seq (K.seq ?_));refine zlX ?_;refine zap ?_;refine zjf ?_;refine zkz ?_;refine KD.v0 rfl rfl (Val.conv rfl rfl rfl (by simp only[qL,qH];omega)) ?_;refine zbN ?_;refine zd1 ?_;refine KD.v0 rfl rfl (Val.isF (Val.geq rfl rfl) jL) ?_;refine zD ?_;refine KE.next (K.condF rfl (K.skip (KE.next ?_)));refine zdC ?_;refine zbK ?_;refine zex ?_;refine zbo ?_;refine zkm ?_;refine zbK ?_;refine zex ?_;refine KL.eN (Eff.stSl (j:=2) (x1:=(⟨2,0,ge+1⟩:jh)) rfl rfl rfl rfl jn hoL1 heL1 rfl rfl) ?_;rintro _ _ rfl;refine zN ?_;simp only[List.set_set];refine zaf ?_;refine zb6 fun T hT=>?_;refine(CallV.part (CallV.fn (ht _)) (by simp only[Jf,hll2,hcs2];exact ja)).mono ?_;rintro _ _ ⟨rfl,rfl⟩;refine zd ?_;clear hT T;refine za0 ?_;refine zmL ?_;refine zO ?_;refine zdm ?_;refine KE.part ((l, .loop (rc .busy none))::((D, .deferred (some []))::(b3,cells [.int .i64 ((n+1:Nat):Int)] 3)::(b1,cells [.pointer (some ⟨t.b,0,none⟩)] 70)::(c1,cells [.pointer (some ⟨t.b,0,none⟩)] 70)::(c2,cells [.int .i64 2] 3)::(jy ⟨t.b,L.set i ⟨0,0,ge+1⟩,t.gens,t.o⟩++F))) (by exact ja) ?_;exact KE.roundN j3.head ⟨rfl,rfl⟩
  ·rintro u H' rfl;rw[List.take_length,jjq];refine .inl ⟨_,?_,rfl⟩;exact zf0
 ·rintro D G rfl;refine zeU ?_;refine zcQ ?_;exact KE.fin je rfl jd ja ⟨rfl,okE,rfl⟩
 ·rintro D c G hf;exact hf.elim
end
open Go.RowKit
set_option maxRecDepth 10000
section
variable {w0 : World} {F : jb} {t : TbM}
theorem jk6 {k:Nat} (ok:TbOk t) (hk:k<4):Call Tryz.prog w0 64 [.pointer (some ⟨t.b,0,none⟩), .int .i64 (k:Nat)] (jy t++F) (fun r H'=>r= .int .i64 (cntP (k:Nat) t.l:Nat)∧H'=jy t++F):=by
 match k,hk with
 |0,_=>
  refine zjw ?_;refine zY ?_;refine zcL ?_;refine zhE ?_;refine zbn ?_;refine ze1 ?_;refine zcQ ?_;exact zaK
 |1,_=>
  refine zjw ?_;refine zY ?_;refine zcL ?_;refine zhE ?_;refine zbn ?_;refine ze1 ?_;refine zcQ ?_;exact zaK
 |2,_=>
  refine zjw ?_;refine zY ?_;refine zcL ?_;refine zhE ?_;refine zbn ?_;refine ze1 ?_;refine zcQ ?_;exact zaK
 |3,_=>
  refine zjw ?_;refine zY ?_;refine zcL ?_;refine zhE ?_;refine zbn ?_;refine ze1 ?_;refine zcQ ?_;exact zaK
theorem tbFree_K (ok:TbOk t):Call Tryz.prog w0 38 [.pointer (some ⟨t.b,0,none⟩)] (jy t++F) (fun r H'=>r= .int .i64 (cntP 0 t.l:Nat)∧H'=jy t++F):=by
 refine Call.enter1 (n:=5) (by kernel_rfl) Tryz.func38 rfl rfl rfl ?_;refine zbB ?_;refine ji (jk6 (k:=0) ok (by decide)) ja ?_;refine zf ?_;exact zaK
theorem jlS {i n:Nat} (ok:TbOk t) (hn:namedT t.l (i:Nat) (n:Nat)=none):Call Tryz.prog w0 203 [.pointer (some ⟨t.b,0,none⟩), .int .i64 (i:Nat), .int .u32 (n:Nat)] (jy t++F)
  (fun r H'=>r= .pointer none∧H'=jy t++F):=by
 have ho:=ok.o
 by_cases hlt:i<t.l.length
 ·obtain⟨e,he⟩:=jA hlt
  have hge: ¬((i:Nat):Int)≥(t.l.length:Nat):=by omega
  unfold namedT at hn;rw[if_pos (by omega),Int.toNat_natCast,he] at hn;dsimp only at hn
  by_cases hst:e.st≠1
  ·refine zkB ?_;simp only[Jf];refine zaa ?_;refine zT ?_;refine zci ?_;refine zaq ?_;refine zbW ?_;refine zdj ?_;refine zan ?_;refine zaq ?_;refine zL ?_;refine ze8 ?_;refine zfq ?_;refine zi ?_;refine zjx ?_;refine zi ?_;refine zag ?_;refine zC ?_;refine zdZ ?_;refine zcc ?_;refine zcc ?_;refine zw ?_;refine zav ?_;exact zaK
  ·have hgn:e.gen≠((n:Nat):Int):=fun h=>by rw[if_pos ⟨by omega,h⟩] at hn;cases hn
   refine zkB ?_;simp only[Jf];refine zaa ?_;refine zT ?_;refine zci ?_;refine zaq ?_;refine zbW ?_;refine zdj ?_;refine zan ?_;refine zaq ?_;refine zL ?_;refine ze8 ?_;refine zfq ?_;refine zi ?_;refine zjx ?_;refine zi ?_;refine zed ?_;refine zan ?_;refine zaq ?_;refine zL ?_;refine ze8 ?_;refine zi ?_;refine zgA ?_;refine zi ?_;refine KL.v rfl (Val.loadP rfl rfl (jI.sl (Sli.own jn (by assumption) j6) (by assumption) rfl)) ?_;refine zeC ?_;refine zag ?_;refine zC ?_;refine zav ?_;exact zaK
 ·have hge:((i:Nat):Int)≥(t.l.length:Nat):=by omega
  refine zkB ?_;simp only[Jf];refine zaa ?_;refine zT ?_;refine zci ?_;refine zaq ?_;refine zbW ?_;refine zgo ?_;refine zdZ ?_;refine zcc ?_;refine zfZ ?_;refine zdZ ?_;refine zcc ?_;refine zcc ?_;refine zw ?_;refine zav ?_;exact zaK
theorem jmH {i n:Nat} (ok:TbOk t) (hn:namedT t.l (i:Nat) (n:Nat)=none):Call Tryz.prog w0 140 [.pointer (some ⟨t.b,0,none⟩), .int .i64 (i:Nat), .int .u32 (n:Nat)] (jy t++F)
  (fun r H'=>r= .tuple [.int .i64 0, .int .i64 130].toArray∧H'=jy t++F):=by
 refine Call.enter3 (n:=21) (by kernel_rfl) Tryz.func140 rfl rfl rfl ?_;refine zfH ?_;refine zcL ?_;refine zz ?_;refine zm ?_;refine zo ?_;refine ji (jlS ok hn) ja ?_;refine z6 ?_;refine zgq ?_;refine zgh ?_;exact zaK
theorem jmI {i n:Nat} (ok:TbOk t):Call Tryz.prog w0 140 [.pointer (some ⟨t.b,0,none⟩), .int .i64 (i:Nat), .int .u32 (n:Nat)] (jy t++F)
  (fun r H'=>r= .tuple [.int .i64 (((namedT t.l (i:Nat) (n:Nat)).map (·.slot)).getD 0), .int .i64 (if (namedT t.l (i:Nat) (n:Nat)).isSome=true then 0 else 130)].toArray∧H'=jy t++F):=by
 cases hn:namedT t.l (i:Nat) (n:Nat) with
 |none=>exact jmH ok hn
 |some e=>
  unfold namedT at hn;rw[if_pos (by omega),Int.toNat_natCast] at hn
  cases he:t.l[i]? with
  |none=>rw [he] at hn;cases hn
  |some q=>
   rw[he] at hn;dsimp only at hn
   split at hn
   ·rename_i hc
    cases hn
    have:=jj1 (w0:=w0) (F:=F) ok he hc.1
    rw[hc.2] at this;exact this
   ·cases hn
end
section
variable {w0 : World} {F : jb} {B : BoM} {x : List Int} {s : Nat} {y : jg}
theorem bWord_K {i:Int} (hG:js w0) (ok:jag B x) (hy:B.p.g.L[s]?=some y):
  Call Tryz.prog w0 189 [.pointer (some ⟨B.b,0,none⟩), .int .i64 (s:Nat), .int .i64 i] (jR B++(jv B.m++(planH B.p++F)))
   (fun r H'=>r= .tuple [.int .u64 (wordP x y i).1, .int .i64 (wordP x y i).2].toArray∧H'=jR B++(jv B.m++(planH B.p++F))):=by
 have hw:wordP x y i=(if fldP x y false i=0 then wAt x (fAt y i) else 0,fldP x y false i):=by
  unfold wordP
  split
  ·rename_i h;rw [h]
  ·rfl
 rw[hw];refine Call.enter3 (n:=14) (by kernel_rfl) Tryz.func189 rfl rfl rfl ?_;refine za6 ?_;refine zm ?_;refine zo ?_;refine ji (bload_K hG ok hy) ja ?_;refine zfY ?_;exact zb8
structure BwS where
 k:Nat
 o:Own
def wdsL (x:List Int) (y:jg) (f:Int) (k:Nat):List Int:=(List.range k).map fun i=>(wordP x y (f+((i:Nat):Int))).1
theorem jjV {f:Int} {k:Nat}:(wdsL x y f k).length=k:=by simp[wdsL]
theorem jmE {f:Int} {k:Nat}:wdsL x y f k++ [(wordP x y (f+((k:Nat):Int))).1]=wdsL x y f (k+1):=by simp[wdsL,List.range_succ]
theorem ball_K {f0:Int} {n:Nat} (hG:js w0) (ok:jag B x) (hy:B.p.g.L[s]?=some y) (hn:n≤64) (hf:0≤f0∧f0≤64) (hw: ∀ i:Nat,i<n→(wordP x y (f0+(i:Nat))).2=0):
  Call Tryz.prog w0 255 [.int .i64 (s:Nat), .int .i64 f0, .int .i64 (n:Nat), .func (.func 189) #[.pointer (some ⟨B.b,0,none⟩)] #[]] (jR B++(jv B.m++(planH B.p++F)))
   (fun r H'=> ∃ o,oOk uE (wdsL x y f0 n) o∧r= .tuple [oV o (wdsL x y f0 n).length, .int .i64 0].toArray∧H'=oH uE 33 (wdsL x y f0 n) o++(jR B++(jv B.m++(planH B.p++F)))):=by
 have hword:=fun A (i:Nat)=>bWord_K (w0:=w0) (F:=A) (i:=f0+(i:Nat)) hG ok hy
 refine Call.enter4 (n:=36) (by kernel_rfl) Tryz.func255 rfl rfl rfl ?_;refine za6 ?_;refine zX ?_;refine zm ?_;refine zb9 ?_;refine K.loopT (σ:=BwS) [(0,_),(1,_),(3,_),(14,_)] (fun s kp_=>(15, .int .i64 (s.k:Nat))::(10,oV s.o (wdsL x y f0 s.k).length)::kp_) (fun s=>oH uE 33 (wdsL x y f0 s.k) s.o++(jR B++(jv B.m++(planH B.p++F)))) (fun s=>s.k≤n∧oOk uE (wdsL x y f0 s.k) s.o) (fun s=>n-s.k) (⟨0,none⟩) jj ja (⟨Nat.zero_le _,rfl⟩) ?_;rintro⟨k,o⟩ ⟨hk,ko⟩;dsimp only at hk ko⊢
 have hwl:=jjV (x:=x) (y:=y) (f:=f0) (k:=k)
 by_cases hlt:k<n
 ·have hlt':((k:Nat):Int)<(n:Nat):=by omega
  have hw1:=fun A=>hword A k
  simp only[hw k hlt] at hw1
  obtain⟨z,hz⟩: ∃ z,(wordP x y (f0+((k:Nat):Int))).1=z:=⟨_,rfl⟩
  have hnx:=jmE (x:=x) (y:=y) (f:=f0) (k:=k)
  rw[hz] at hnx;simp only[hz] at hw1
  have hbd:(wdsL x y f0 (k+1)).length≤4294967296:=by rw[jjV];omega
  refine zaN ?_;refine ze ?_;refine zu ?_;refine zm ?_;refine zm ?_;refine zbT ?_;refine zq fun T hT=>?_;refine(CallV.part (CallV.bound (first:=[.pointer (some ⟨B.b,0,none⟩)]) (hw1 _)) ja).mono ?_;rintro _ _ ⟨rfl,rfl⟩;refine zd ?_;clear hT T;refine zbA ?_;refine zaR ?_;refine zbm ?_;refine zaj ?_;intro b32;refine KL.e rfl (Eff.appZ (E:=uE) (xs:=wdsL x y f0 k) (o:=o) (ys:=[z]) (zs:=wdsL x y f0 (k+1)) rfl rfl rfl rfl rfl rfl jn (by assumption) (by first|exact Sli.blk jF rfl (by first|decide|simp) (by first|decide|(unfold maxLen;omega)) rfl|exact Sli.old (by assumption)|exact Sli.own jn (by assumption) j6|assumption|exact Sli.part (by assumption) ja) (hnx) (by first|assumption|omega|(simp<;>fail)|(simp;omega)) rfl) ?_;rintro _ _ ⟨o',ok',rfl,rfl⟩;refine zbY ?_;refine zcS ?_;exact KE.again ⟨k+1,o'⟩ jj ja ⟨hlt,ok'⟩ (by show n-(k+1)<n-k;omega)
 ·have hkn:k=n:=by omega
  subst hkn
  have hlt': ¬((k:Nat):Int)<(k:Nat):=by omega
  refine zeR ?_;refine zbl ?_;exact KE.fin je rfl jd ja ⟨o,ko,rfl,rfl⟩
theorem bWords_K (hG:js w0) (ok:jag B x) (hy:B.p.g.L[s]?=some y):
  Call Tryz.prog w0 199 [.pointer (some ⟨B.b,0,none⟩), .int .i64 (s:Nat)] (jR B++(jv B.m++(planH B.p++F)))
   (fun r H'=> ∃ (o:Own) (e:Int),oOk uE (jaG x y) o∧r= .tuple [oV o (jaG x y).length, .int .i64 e].toArray∧H'=oH uE 33 (jaG x y) o++(jR B++(jv B.m++(planH B.p++F)))):=by
 have hhead:=fun A=>jdO (w0:=w0) (F:=A) hG ok hy
 unfold headV at hhead;unfold jaG
 cases hh:headP x y with
 |none=>
  simp only[hh] at hhead;unfold hdV at hhead;dsimp only at hhead⊢;refine Call.enter2 (n:=27) (by kernel_rfl) Tryz.func199 rfl rfl rfl ?_;refine zhD ?_;refine ji (hhead _) ja ?_;refine zaX ?_;intro b6;refine z6 ?_;refine zdy ?_;refine zas ?_;exact KE.fin je rfl jd ja ⟨none,5,rfl,rfl,rfl⟩
 |some h=>
  have hm:=(jaD (jaY hh).2).1
  have hsz:=(jaD (jaY hh).2).2.2
  simp only[hh] at hhead
  obtain⟨c,r,w⟩:=h
  dsimp only at hsz⊢;simp only[Jd,decide_eq_true_eq] at hm;unfold hdV at hhead;dsimp only at hhead
  obtain⟨n,hrn⟩: ∃ n:Nat,w=n:=⟨w.toNat,by omega⟩
  subst hrn;rw[Int.toNat_natCast]
  have hok: ∀ i:Nat,i<n→(wordP x y (r+(i:Nat))).2=0:=fun i hi=>by
   have hf:fldP x y false (r+(i:Nat))=0:=by
    unfold fldP;rw[hh];dsimp only;rw[if_pos ⟨by omega,by omega,decide_eq_false (by omega)⟩]
   unfold wordP;rw[if_pos hf]
  have hall:=fun A=>ball_K (w0:=w0) (F:=A) (f0:=r) (n:=n) hG ok hy (by omega) ⟨by omega,by omega⟩ hok
  unfold wdsL at hall;refine Call.enter2 (n:=27) (by kernel_rfl) Tryz.func199 rfl rfl rfl ?_;refine zhD ?_;refine ji (hhead _) ja ?_;refine zaX ?_;intro b6;refine zdB ?_;refine zaG ?_;refine zF ?_;refine zI ?_;refine ze ?_;refine zbF ?_;refine zn ?_;refine j4 (hall _) ja ?_;rintro _ _ ⟨o,ko,rfl,rfl⟩;refine zfY ?_;refine zaI ?_;exact KE.fin je rfl jd ja ⟨o,0,ko,rfl,rfl⟩
end
open Go.RowKit
set_option maxRecDepth 10000
def cwL:List Nat:=[32,24,8]
theorem cw_ok:WsOk cwL:=⟨by decide,by decide,by decide⟩
theorem dig_cw (w:Nat):digK cwL w 3=[w%2^32,w/2^32%2^24,w/2^56%2^8]:=by
 have h1:=jct (ws:=cwL) (w:=w) (k:=0) rfl
 have h2:=jct (ws:=cwL) (w:=w) (k:=1) rfl
 have h3:=jct (ws:=cwL) (w:=w) (k:=2) rfl
 have e0:digK cwL w 0=[]:=rfl
 rw[show(cwL.take 0).sum=0 from rfl,Nat.pow_zero,Nat.div_one] at h1;rw[show(cwL.take 1).sum=32 from rfl] at h2;rw[show(cwL.take 2).sum=56 from rfl] at h3;rw[h3,h2,h1,e0]
 rfl
theorem pack_cw (t i n:Nat):packK cwL [n,i,t] 3=capW t i n:=by
 have h1:=jcq (ws:=cwL) (vs:=[n,i,t]) (k:=0) rfl
 have h2:=jcq (ws:=cwL) (vs:=[n,i,t]) (k:=1) rfl
 have h3:=jcq (ws:=cwL) (vs:=[n,i,t]) (k:=2) rfl
 have e0:packK cwL [n,i,t] 0=0:=rfl
 rw[show(cwL.take 0).sum=0 from rfl] at h1;rw[show(cwL.take 1).sum=32 from rfl] at h2;rw[show(cwL.take 2).sum=56 from rfl] at h3;rw[h3,h2,h1,e0]
 have e1:(2:Nat)^32=4294967296:=by decide
 have e2:(2:Nat)^56=72057594037927936:=by decide
 rw[e1,e2];unfold capW
 simp
theorem jjU {w0:World} {H:jb}:Call Tryz.prog w0 201 [] H (fun r H'=> ∃ b,r= .slice (some ⟨b,0,none⟩) 3 3∧H'=(b,cells [.int .i64 32, .int .i64 24, .int .i64 8] 3)::H):=by
 refine Call.enter0 (n:=2) (by kernel_rfl) Tryz.func201 rfl rfl rfl ?_;refine z7 ?_;refine zaj ?_;intro b1;refine zf ?_;exact KE.fin je rfl jd ja ⟨_,rfl,rfl⟩
def capV (w:Nat):Value:=if capG w=0 then .tuple [.agg [.int .i64 0, .int .i64 0, .int .u32 0].toArray, .int .i64 130].toArray else .tuple [.agg [.int .i64 (capT w:Nat), .int .i64 (capI w:Nat), .int .u32 (capG w:Nat)].toArray, .int .i64 0].toArray
theorem jhg {w0:World} {F:jb} {b1:Nat} {v:Value} {x:Int} {l:List Int} (hS:Sli w0 F uE v (x::l)) (hc:v.cells=[v].toArray) (hc2:(Jc v 1 (x::l).length uE.sz).oneCell'=true):Call Tryz.prog w0 202 [.pointer (some ⟨b1,0,none⟩)] ((b1,cells [v] 32)::F)
  (fun r H'=>r= .int .u64 x∧H'=(b1,cells [Jc v 1 (x::l).length uE.sz] 32)::F):=by
 have h0:(x::l)[Int.toNat 0]?=some x:=rfl
 have hlt:Int.toNat 0<(x::l).length:=by simp
 have hlt1:Int.toNat 1≤(x::l).length:=by simp
 refine Call.enter1 (n:=9) (by kernel_rfl) Tryz.func202 rfl rfl rfl ?_;refine z7 ?_;refine zp ?_;refine zbr ?_;refine z8 ?_;refine zu ?_;refine zp ?_;refine KL.v rfl (Val.sliceL rfl rfl rfl J3 rfl jL) ?_;refine zaw ?_;refine ze ?_;exact zt
theorem dig_cap (w:Nat) (hw:w<18446744073709551616):natL (digK cwL w 3)=[((capG w:Nat):Int),((capI w:Nat):Int),((capT w:Nat):Int)]:=by
 have e1:(2:Nat)^32=4294967296:=by decide
 have e2:(2:Nat)^24=16777216:=by decide
 have e3:(2:Nat)^56=72057594037927936:=by decide
 have e4:(2:Nat)^8=256:=by decide
 have h8:w/72057594037927936%256=w/72057594037927936:=Nat.mod_eq_of_lt (by omega)
 rw[dig_cw,e1,e2,e3,e4,h8]
 rfl
theorem jkL {w0:World} {H:jb} {w:Nat} (hw:w<18446744073709551616):Call Tryz.prog w0 139 [.int .u64 (w:Nat)] H (fun r H'=>r=capV w∧H'=H):=by
 have hg:capG w<4294967296:=by unfold capG;omega
 have hi:capI w<16777216:=by unfold capI;omega
 have ht:capT w<256:=by unfold capT;omega
 have hwd:=fun A=>jjU (w0:=w0) (H:=A)
 have hun:=fun A (b:Nat) (hS:Sli w0 A iE (.slice (some ⟨b,0,none⟩) 3 3) [32,24,8])=>jkW (w0:=w0) (H:=A) (ws:=cwL) cw_ok rfl hw hS
 have hD:=dig_cap w hw
 have h3:cwL.length=3:=rfl
 simp only[h3,hD] at hun;clear hD;unfold capV
 obtain⟨gn,egn⟩: ∃ gn,gn=capG w:=⟨_,rfl⟩
 obtain⟨ix,eix⟩: ∃ ix,ix=capI w:=⟨_,rfl⟩
 obtain⟨tn,etn⟩: ∃ tn,tn=capT w:=⟨_,rfl⟩
 rw[←egn] at hg;rw[←eix] at hi;rw[←etn] at ht;simp only[←egn,←eix,←etn] at hun⊢;clear egn eix etn;refine Call.enter1 (n:=40) (by kernel_rfl) Tryz.func139 rfl rfl rfl ?_;refine zy ?_;refine zaD ?_;intro b2;refine zu ?_;refine zn ?_;refine jat (hwd _) ?_;rintro _ _ ⟨bw,rfl,rfl⟩;refine zo ?_;refine jat (hun _ bw (Sli.blk jF rfl (by decide) (by decide) rfl)) ?_;rintro _ _ ⟨o,ko,rfl,rfl⟩;refine za3 ?_;refine zaD ?_;intro b4;refine zO ?_;refine zu ?_;refine zbF ?_;refine zk ?_;refine ze9 ?_;refine K.drawn _ [(0,0),(1,0),(2,0),(3,1),(4,1),(5,2),(6,0),(7,0),(8,0)] (by kernel_rfl) (by kernel_rfl) (by kernel_rfl) (by kernel_rfl) (by kernel_rfl) (by kernel_rfl) Part.all ?_;refine zj ?_;refine zfS ?_;refine zj ?_;refine zhc ?_;refine KD.y1 rfl rfl rfl rfl (Val.lenSl rfl rfl (Sli.own jn (by assumption) j6)) ?_;refine zcb fun T hT=>?_;refine(CallV.fn (hwd _)).mono ?_;rintro _ _ ⟨bw2,rfl,rfl⟩;refine zg ?_;clear hT T;refine KD.y0 rfl rfl rfl rfl (Val.lenS rfl rfl) ?_;refine KD.y0 rfl rfl rfl rfl (Val.neq rfl rfl) ?_;refine zaB ?_;refine KE.next (K.condF rfl (K.skip (KE.next ?_)))
 obtain⟨v0,hv0⟩: ∃ v0,v0=oV o [((gn:Nat):Int),((ix:Nat):Int),((tn:Nat):Int)].length:=⟨_,rfl⟩
 obtain⟨v1,hv1⟩: ∃ v1,v1=Jc v0 1 [((gn:Nat):Int),((ix:Nat):Int),((tn:Nat):Int)].length uE.sz:=⟨_,rfl⟩
 obtain⟨v2,hv2⟩: ∃ v2,v2=Jc v1 1 [((ix:Nat):Int),((tn:Nat):Int)].length uE.sz:=⟨_,rfl⟩
 have hS0: ∀ R,Sli w0 (oH uE 33 [((gn:Nat):Int),((ix:Nat):Int),((tn:Nat):Int)] o++R) uE v0 [((gn:Nat):Int),((ix:Nat):Int),((tn:Nat):Int)]:=fun R=>by rw[hv0];exact Sli.own jn ko rfl
 have hS1: ∀ R,Sli w0 (oH uE 33 [((gn:Nat):Int),((ix:Nat):Int),((tn:Nat):Int)] o++R) uE v1 [((ix:Nat):Int),((tn:Nat):Int)]:=fun R=>by rw[hv1];have:=(hS0 R).sub (l:=1) (h:=3) (by simp) (by simp);simpa using this
 have hS2: ∀ R,Sli w0 (oH uE 33 [((gn:Nat):Int),((ix:Nat):Int),((tn:Nat):Int)] o++R) uE v2 [((tn:Nat):Int)]:=fun R=>by rw[hv2];have:=(hS1 R).sub (l:=1) (h:=2) (by simp) (by simp);simpa using this
 have hc0:v0.cells=[v0].toArray:=by rw[hv0];exact jkj _ _
 have hc1:v1.cells=[v1].toArray:=by rw[hv1,hv0];cases o<;>rfl
 have hc2:v2.cells=[v2].toArray:=by rw[hv2,hv1,hv0];cases o<;>rfl
 have h10:(Jc v0 1 [((gn:Nat):Int),((ix:Nat):Int),((tn:Nat):Int)].length uE.sz).oneCell'=true:=by rw[hv0];cases o<;>rfl
 have h11:(Jc v1 1 [((ix:Nat):Int),((tn:Nat):Int)].length uE.sz).oneCell'=true:=by rw[hv1,hv0];cases o<;>rfl
 have h12:(Jc v2 1 [((tn:Nat):Int)].length uE.sz).oneCell'=true:=by rw[hv2,hv1,hv0];cases o<;>rfl
 rw[←hv0];refine zy ?_;refine zx fun T hT=>?_;refine(CallV.part (CallV.clo (args:=[]) (cap:=[.pointer (some ⟨b4,0,none⟩)]) (jhg (hS0 _) hc0 h10)) ja).mono ?_;rintro _ _ ⟨rfl,rfl⟩;rw[←hv1];refine zd ?_;clear hT T;refine zeo ?_;refine zx fun T hT=>?_;refine(CallV.part (CallV.clo (args:=[]) (cap:=[.pointer (some ⟨b4,0,none⟩)]) (jhg (hS1 _) hc1 h11)) ja).mono ?_;rintro _ _ ⟨rfl,rfl⟩;rw[←hv2];refine zd ?_;clear hT T;refine zeo ?_;refine zx fun T hT=>?_;refine(CallV.part (CallV.clo (args:=[]) (cap:=[.pointer (some ⟨b4,0,none⟩)]) (jhg (hS2 _) hc2 h12)) ja).mono ?_;rintro _ _ ⟨rfl,rfl⟩;refine zd ?_;clear hT T
 by_cases hz:gn=0
 ·have hz':((gn:Nat):Int)=0:=by omega
  rw[if_pos hz];refine zeo ?_;refine zM ?_;refine zfd ?_;intro b7;refine zdH ?_;refine zI ?_;refine zJ ?_;refine zac ?_;refine zM ?_;refine zbb ?_;exact zaT
 ·have hz': ¬((gn:Nat):Int)=0:=by omega
  rw[if_neg hz];refine zeo ?_;refine zM ?_;refine zfd ?_;intro b7;refine zdH ?_;refine zI ?_;refine zG ?_;refine zz ?_;refine z3 ?_;refine zbb ?_;exact zt
structure FiS where
 k:Nat
theorem fit_K {w0:World} {H:jb} {v:Value} {t i:Nat} (ht:t<256) (hi:i<16777216) (hS:Sli w0 H iE v [((t:Nat):Int),8,((i:Nat):Int),24]):Call Tryz.prog w0 281 [v] H (fun r H'=>r= .bool true∧H'=H):=by
 obtain⟨L,hL⟩: ∃ L:List Int,L=[((t:Nat):Int),8,((i:Nat):Int),24]:=⟨_,rfl⟩
 rw[←hL] at hS
 have x0:L[0]?=some ((t:Nat):Int):=by rw[hL];rfl
 have x1:L[0+1]?=some 8:=by rw[hL];rfl
 have x2:L[2]?=some ((i:Nat):Int):=by rw[hL];rfl
 have x3:L[2+1]?=some 24:=by rw[hL];rfl
 have hLl:L.length=4:=by rw[hL];rfl
 clear hL
 have s1:((t:Nat):Int).fdiv (2^(min (Int.toNat 8) IntKind.i64.bits))=0:=by
  rw[show(2:Int)^(min (Int.toNat 8) IntKind.i64.bits)=256 by decide,Int.fdiv_eq_ediv_of_nonneg _ (by omega)];omega
 have s2:((i:Nat):Int).fdiv (2^(min (Int.toNat 24) IntKind.i64.bits))=0:=by
  rw[show(2:Int)^(min (Int.toNat 24) IntKind.i64.bits)=16777216 by decide,Int.fdiv_eq_ediv_of_nonneg _ (by omega)];omega
 refine Call.enter1 (n:=29) (by kernel_rfl) Tryz.func281 rfl rfl rfl ?_;refine zy ?_;refine zcn ?_;refine K.loopT (σ:=FiS) [(0,_)] (fun s kp_=>(3, .int .i64 (s.k:Nat))::kp_) (fun s=>H) (fun s=>s.k=0∨s.k=2∨s.k=4) (fun s=>4-s.k) (⟨0⟩) jj ja (.inl rfl) ?_;rintro⟨k⟩ hk;dsimp only at hk⊢
 rcases hk with rfl|rfl|rfl
 ·refine K.seq ?_;refine zy ?_;refine zbZ ?_;refine ze ?_;refine zce ?_;refine zgZ ?_;refine zlY ?_;refine zgl ?_;refine zdn ?_;refine zbi ?_;refine zen ?_;refine zgn ?_;refine KD.y0 rfl rfl rfl rfl (Val.shr rfl rfl (by omega)) ?_;refine zh5 ?_;refine zaB ?_;refine zbH ?_;refine zcg ?_;exact KE.again ⟨2⟩ jj ja (.inr (.inl rfl)) (by show 4-2<4-0;decide)
 ·refine K.seq ?_;refine zy ?_;refine zbZ ?_;refine ze ?_;refine zce ?_;refine zgZ ?_;refine zlY ?_;refine zgl ?_;refine zdn ?_;refine zbi ?_;refine zen ?_;refine zgn ?_;refine KD.y0 rfl rfl rfl rfl (Val.shr rfl rfl (by omega)) ?_;refine zh5 ?_;refine zaB ?_;refine zbH ?_;refine zcg ?_;exact KE.again ⟨4⟩ jj ja (.inr (.inr rfl)) (by show 4-4<4-2;decide)
 ·refine K.seq ?_;refine zy ?_;refine zbZ ?_;refine ze ?_;refine zcV ?_;exact zt
theorem capPut_K {w0:World} {H:jb} {t i n:Nat} (ht:t<256) (hi:i<16777216) (hn:1≤n∧n<4294967296):Call Tryz.prog w0 242 [.agg [.int .i64 (t:Nat), .int .i64 (i:Nat), .int .u32 (n:Nat)].toArray] H (fun r H'=>r= .tuple [.int .u64 (capW t i n:Nat), .int .i64 0].toArray∧H'=H):=by
 have hn0: ¬((n:Nat):Int)=0:=by omega
 have hfit:=fun A v (hS:Sli w0 A iE v [((t:Nat):Int),8,((i:Nat):Int),24])=>fit_K (w0:=w0) ht hi hS
 have hwd:=fun A=>jjU (w0:=w0) (H:=A)
 have hpk:packK cwL [n,i,t] cwL.length=capW t i n:=pack_cw t i n
 have hf: ∀ (q m v:Nat),cwL[q]?=some m→ [n,i,t][q]?=some v→v<2^m:=fun q m v h1 h2=>by
  match q,h1,h2 with
  |0,h1,h2=>cases h1;cases h2;exact hn.2
  |1,h1,h2=>cases h1;cases h2;exact hi
  |2,h1,h2=>cases h1;cases h2;exact ht
  |q+3,h1,h2=>simp[cwL] at h1
 have hpack:=fun A v vv (hS:Sli w0 A iE v [32,24,8]) (hV:Sli w0 A uE vv [((n:Nat):Int),((i:Nat):Int),((t:Nat):Int)]) (hc:vv.cells=[vv].toArray)=>Pack_K (w0:=w0) (H:=A) (ws:=cwL) (vs:=[n,i,t]) cw_ok rfl hf hS hV hc
 rw[hpk] at hpack;refine Call.enter1 (n:=30) (by kernel_rfl) Tryz.func242 rfl rfl rfl ?_;refine zcj ?_;intro b1;refine zI ?_;refine zG ?_;refine zbg ?_;refine zbh ?_;refine zaj ?_;intro b12;refine zdk ?_;refine jq (hfit _ _ (Sli.blk jF rfl (Nat.le_refl 4) (by decide) rfl)) ?_;refine zd4 ?_;refine zaR ?_;refine zar ?_
 (first|refine K.seq (K.drawn _ [(1,1),(2,1),(3,1),(4,1),(5,1),(6,1),(7,1),(8,1),(9,1),(0,3),(10,2),(11,2),(12,0),(13,0),(14,0),(15,0)] (by kernel_rfl) (by kernel_rfl) (by kernel_rfl) (by kernel_rfl) (by kernel_rfl) (by kernel_rfl) Part.all ?_)|refine K.seq (K.seq (K.drawn _ [(1,1),(2,1),(3,1),(4,1),(5,1),(6,1),(7,1),(8,1),(9,1),(0,3),(10,2),(11,2),(12,0),(13,0),(14,0),(15,0)] (by kernel_rfl) (by kernel_rfl) (by kernel_rfl) (by kernel_rfl) (by kernel_rfl) (by kernel_rfl) Part.all ?_))|refine K.drawn _ [(1,1),(2,1),(3,1),(4,1),(5,1),(6,1),(7,1),(8,1),(9,1),(0,3),(10,2),(11,2),(12,0),(13,0),(14,0),(15,0)] (by kernel_rfl) (by kernel_rfl) (by kernel_rfl) (by kernel_rfl) (by kernel_rfl) (by kernel_rfl) Part.all ?_)
 refine zjy ?_;refine zc6 ?_;refine zkC ?_;refine zlZ ?_;refine zc6 ?_;refine zkC ?_;refine zcU ?_;refine zkC ?_
 --FORK at region 3:[(0,3),(10,2),(11,2),(12,0),(13,0),(14,0),(15,0)]
 refine KD.fork2 (x:=0) (y:=10) (o1:=[(10,2),(11,2),(12,0),(13,0),(14,0),(15,0)]) (o2:=[(0,2),(11,2),(12,0),(13,0),(14,0),(15,0)]) (by kernel_rfl) rfl rfl (by kernel_rfl) (by kernel_rfl) ?_ ?_
 ·refine zcM fun T hT=>?_;refine(CallV.fn (hwd _)).mono ?_;rintro _ _ ⟨bw,rfl,rfl⟩;refine zg ?_;clear hT T;refine zh3 ?_;intro b26;refine zbQ ?_;refine zl fun T hT=>?_;refine zl0 ?_;rintro _ _ ⟨rfl,rfl⟩;refine zg ?_;clear hT T;refine ziQ ?_;refine zlb ?_;refine zaV ?_;exact zZ
 ·(refine JK.e rfl (Eff.buildS jei rfl rfl rfl rfl rfl jeq) ?_;rintro _ _ ⟨b26,rfl,rfl⟩;refine⟨ja,?_⟩)
  refine zl fun T hT=>?_;refine(CallV.fn (hwd _)).mono ?_;rintro _ _ ⟨bw,rfl,rfl⟩;refine zg ?_;clear hT T;refine zl fun T hT=>?_;refine zl0 ?_;rintro _ _ ⟨rfl,rfl⟩;refine zg ?_;clear hT T;refine ziQ ?_;refine zlb ?_;refine zaV ?_;exact zZ
end Go.Proofs.YtpcgafhgfjlkmaaGreatDoor.Sw
