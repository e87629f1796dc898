/-The walker and the contracts that the law needs,part 32. -/
import Derived.Test.YtebiafomiemgbaaGreatDoorJ24
import Derived.Test.YtebiafomiemgbaaGreatDoorJ25
set_option linter.unusedVariables false set_option linter.unusedSimpArgs false set_option linter.unusedVariables false
set_option linter.unusedSimpArgs false
namespace Go.Proofs.YtebiafomiemgbaaGreatDoor.Sw
set_option maxHeartbeats 8000000
open Go.Proofs.YtebiafomiemgbaaGreatDoor renaming lo → qL, hi → qH
open Go.RowKit
set_option maxRecDepth 10000
section
variable {w0 : World} {F : jb} {t : TbM}
theorem jmv {i:Nat} {e:jl} (ok:TbOk t) (he:t.l[i]?=some e) (h0:e.st=2):
  Call Tryz.prog w0 271 [.pointer (some ⟨t.b,0,none⟩), .pointer (some (adr (oV t.o t.l.length) (i*enE.sz))), .int .i64 0] (jK t++F) (fun r H'=>r= .tuple #[]∧H'=jK ⟨t.b,t.l.set i ⟨0,e.slot,e.gen⟩,t.gens,t.o⟩++F):=by
 have ho:=ok.o
 have hn:=ok.n
 obtain⟨st,sl,ge⟩:=e
 dsimp only at h0;subst h0
 have c0:=ja6 he ⟨0,sl,ge⟩ 0
 have c1:=ja6 he ⟨0,sl,ge⟩ 1
 have c2:=ja6 he ⟨0,sl,ge⟩ 2
 have c3:=ja6 he ⟨0,sl,ge⟩ 3
 have p0:1≤j6 2 t.l:=jhi he
 have p1:=jem 0 t.l
 have p2:=jem 2 t.l
 simp at c0 c1 c2 c3
 have e0:((j6 2 t.l:Nat):Int)-1=((j6 2 (t.l.set i ⟨0,sl,ge⟩):Nat):Int):=by omega
 have e1:((j6 0 t.l:Nat):Int)+1=((j6 0 (t.l.set i ⟨0,sl,ge⟩):Nat):Int):=by omega
 refine zol ?_;simp only[Jr];refine K.seq ?_;refine zkv ?_;refine zo ?_;refine zfn ?_;refine zfA ?_;refine zeQ ?_;dsimp only;refine zcL ?_;refine zan ?_;refine zkF ?_;refine zeQ ?_;refine zcL ?_;refine zcl ?_;refine zbC ?_;refine zlW ?_;refine zo ?_;refine zaW ?_;refine zkD ?_;refine zcL ?_;refine zan ?_;refine zdt ?_;refine zeQ ?_;refine zcL ?_;refine zcl ?_;refine zb9 ?_;refine zcB ?_;refine zbW ?_;refine zom ?_;refine KL.eN (Eff.stSl0 (x1:=(⟨0,sl,ge⟩:jl)) rfl rfl rfl rfl jj ho he rfl rfl) ?_;rintro _ _ rfl;refine zR ?_;rw[e0,e1];exact KE.finN (H':=jK ⟨t.b,t.l.set i ⟨0,sl,ge⟩,t.gens,t.o⟩++F) je rfl jd (by simp only[Jr,List.length_set,c1,c3];exact ja) ⟨rfl,rfl⟩
theorem jmu {i:Nat} {e:jl} (ok:TbOk t) (he:t.l[i]?=some e) (h0:e.st=2):
  Call Tryz.prog w0 271 [.pointer (some ⟨t.b,0,none⟩), .pointer (some (adr (oV t.o t.l.length) (i*enE.sz))), .int .i64 3] (jK t++F) (fun r H'=>r= .tuple #[]∧H'=jK ⟨t.b,t.l.set i ⟨3,e.slot,e.gen⟩,t.gens,t.o⟩++F):=by
 have ho:=ok.o
 have hn:=ok.n
 obtain⟨st,sl,ge⟩:=e
 dsimp only at h0;subst h0
 have c0:=ja6 he ⟨3,sl,ge⟩ 0
 have c1:=ja6 he ⟨3,sl,ge⟩ 1
 have c2:=ja6 he ⟨3,sl,ge⟩ 2
 have c3:=ja6 he ⟨3,sl,ge⟩ 3
 have p0:1≤j6 2 t.l:=jhi he
 have p1:=jem 3 t.l
 have p2:=jem 2 t.l
 simp at c0 c1 c2 c3
 have e0:((j6 2 t.l:Nat):Int)-1=((j6 2 (t.l.set i ⟨3,sl,ge⟩):Nat):Int):=by omega
 have e1:((j6 3 t.l:Nat):Int)+1=((j6 3 (t.l.set i ⟨3,sl,ge⟩):Nat):Int):=by omega
 refine zol ?_;simp only[Jr];refine K.seq ?_;refine zkv ?_;refine zo ?_;refine zfn ?_;refine zfA ?_;refine zeQ ?_;dsimp only;refine zcL ?_;refine zan ?_;refine zkF ?_;refine zeQ ?_;refine zcL ?_;refine zcl ?_;refine zbC ?_;refine zlW ?_;refine zo ?_;refine zaW ?_;refine zkD ?_;refine zcL ?_;refine zan ?_;refine zdt ?_;refine zeQ ?_;refine zcL ?_;refine zcl ?_;refine zb9 ?_;refine zcB ?_;refine zbW ?_;refine zom ?_;refine KL.eN (Eff.stSl0 (x1:=(⟨3,sl,ge⟩:jl)) rfl rfl rfl rfl jj ho he rfl rfl) ?_;rintro _ _ rfl;refine zR ?_;rw[e0,e1];exact KE.finN (H':=jK ⟨t.b,t.l.set i ⟨3,sl,ge⟩,t.gens,t.o⟩++F) je rfl jd (by simp only[Jr,List.length_set,c0,c1];exact ja) ⟨rfl,rfl⟩
structure TbJ where
 i:Nat
theorem tbin2_K {st:Int} {q1 q2:Nat} {yv:Value} (ok:TbOk t) (A:Nat→jb) (R:Nat→TbM)
  (h0:R 0=t) (hb: ∀ i,(R i).b=t.b∧(R i).o=t.o∧(R i).l.length=t.l.length∧TbOk (R i)∧(R i).l[i]?=t.l[i]?)
  (hn: ∀ (i:Nat) (e:jl),t.l[i]?=some e→e.st≠st→A (i+1)=A i∧R (i+1)=R i)
  (hy: ∀ (i:Nat) (e:jl),t.l[i]?=some e→e.st=st→CallV Tryz.prog w0 yv [.int .i64 (i:Nat), .pointer (some (adr (oV t.o t.l.length) (i*enE.sz)))] (A i++((q1,cells [.pointer (some ⟨t.b,0,none⟩)] 123)::(q2,cells [.int .i64 st] 3)::(jK (R i)++F))) (fun u H'=>u= .bool true∧H'=A (i+1)++((q1,cells [.pointer (some ⟨t.b,0,none⟩)] 123)::(q2,cells [.int .i64 st] 3)::(jK (R (i+1))++F)))):
  Call Tryz.prog w0 328 [yv, .pointer (some ⟨q1,0,none⟩), .pointer (some ⟨q2,0,none⟩)] (A 0++((q1,cells [.pointer (some ⟨t.b,0,none⟩)] 123)::(q2,cells [.int .i64 st] 3)::(jK t++F)))
   (fun _ H'=>H'=A t.l.length++((q1,cells [.pointer (some ⟨t.b,0,none⟩)] 123)::(q2,cells [.int .i64 st] 3)::(jK (R t.l.length)++F))):=by
 have ho:=ok.o
 have hn0:=ok.n
 refine Call.enter3 (n:=34) (by kernel_rfl) Tryz.func328 rfl rfl rfl ?_;simp only[Jr];refine zG ?_;refine za0 ?_;refine zN ?_;refine zct ?_;refine zbj ?_;refine K.loopT (σ:=TbJ) [(0,_),(1,_),(2,_),(10,_)] (fun s kp_=>(11, .int .i64 (s.i:Nat))::kp_) (fun s=>A s.i++((q1,cells [.pointer (some ⟨t.b,0,none⟩)] 123)::(q2,cells [.int .i64 st] 3)::(jK (R s.i)++F))) (fun s=>s.i≤t.l.length) (fun s=>t.l.length-s.i) (⟨0⟩) jc (by dsimp only;rw [h0];exact(by first|exact ja|(simp only[Jr];exact ja))) (Nat.zero_le _) ?_;rintro⟨i⟩ hi;dsimp only at hi⊢
 obtain⟨b1,b2,b3,b4,b5⟩:=hb i
 have ho':=b4.o
 rw[b2] at ho'
 by_cases hlt:i<t.l.length
 ·obtain⟨e,he⟩:=jh hlt
  have he':(R i).l[i]?=some e:=b5.trans he
  by_cases hst:e.st=st
  ·have hyi:=hy i e he hst
   simp only[Jr,b1,b2,b3] at hyi⊢;refine zeB ?_;refine za0 ?_;refine zfe ?_;refine zcK ?_;refine zdK ?_;refine zqu ?_;refine zfn ?_;refine zi9 ?_;refine zan ?_;refine zkK ?_;refine zo ?_;refine zaZ ?_;refine zca ?_;refine zdR fun T hT=>?_;refine(CallV.part hyi ja).mono ?_;rintro _ H' ⟨rfl,rfl⟩;refine zi ?_;clear hT T;refine zl9 ?_;refine zbD ?_;refine zhl ?_;refine zb0 ?_;exact KE.again ⟨i+1⟩ jc (by first|exact ja|(simp only[Jr];exact ja)) hlt (by show t.l.length-(i+1)<t.l.length-i;omega)
  ·obtain⟨ha,hr⟩:=hn i e he hst
   simp only[Jr,b1,b2,b3];refine zeB ?_;refine za0 ?_;refine zfe ?_;refine zcK ?_;refine zdK ?_;refine zqu ?_;refine zfn ?_;refine zi9 ?_;refine zan ?_;refine zkL ?_;refine zo ?_;refine zgk ?_;refine ziV ?_;refine zbr ?_;refine zfC ?_;refine zb0 ?_;exact KE.again ⟨i+1⟩ jc (by dsimp only;rw [ha,hr];simp only[b1,b2,b3];exact ja) hlt (by show t.l.length-(i+1)<t.l.length-i;omega)
 ·have hie:i=t.l.length:=by omega
  subst hie;simp only[Jr,b1,b2,b3];refine zc5 ?_;exact KE.finN (H':=A t.l.length++((q1,cells [.pointer (some ⟨t.b,0,none⟩)] 123)::(q2,cells [.int .i64 st] 3)::(jK (R t.l.length)++F))) je rfl jd (by simp only[Jr,b1,b2,b3];exact ja) (by simp only[Jr,b1,b2,b3])
def recTo (gens:Int) (T:List jl) (k:Nat):List jl:=j5 gens (T.take k)++T.drop k
theorem jkf (gens:Int) (T:List jl) (k:Nat):(recTo gens T k).length=T.length:=by
 grind[recTo,j5]
theorem jkg (gens:Int) (T:List jl):recTo gens T T.length=j5 gens T:=by simp[recTo]
theorem jiz (gens:Int) (T:List jl) (k:Nat):(recTo gens T k)[k]?=T[k]? :=by
 grind[recTo,j5,jah]
theorem jhO {gens:Int} {T:List jl} {k:Nat} {e:jl} (h:T[k]?=some e):recTo gens T (k+1)=(recTo gens T k).set k (jah gens e):=by
 have hlt:=jv h
 unfold recTo j5
 have hl:((T.take k).map (jah gens)).length=k:=by rw[List.length_map,List.length_take];omega
 rw[List.set_append,if_neg (by omega),hl,Nat.sub_self,J2 h,List.map_append,List.append_assoc]
 congr 1
 rw[List.drop_eq_getElem_cons hlt]
 have:T[k]=e:=by rw[List.getElem?_eq_getElem hlt] at h;exact Option.some.inj h
 rw[this];rfl
theorem jkh {gens:Int} {T:List jl} {k:Nat} {e:jl} (h:T[k]?=some e):recyN gens (T.take (k+1))=recyN gens (T.take k)+(if e.st=2∧ ¬e.gen≥gens then 1 else 0):=by
 unfold recyN;rw[J2 h,List.countP_append]
 grind
theorem jmH {gens:Int} {T:List jl} {k:Nat} {e:jl} (h:T[k]?=some e) (hn:e.st≠2):recTo gens T (k+1)=recTo gens T k∧recyN gens (T.take (k+1))=recyN gens (T.take k):=by
 constructor
 ·rw[jhO h];unfold jah;rw[if_neg hn]
  obtain⟨hl,he⟩:=List.getElem?_eq_some_iff.1 ((jiz gens T k).trans h)
  rw[←he,List.set_getElem_self]
 grind[jkh]
theorem jiy (ok:TbOk t) (k:Nat):TbOk ⟨t.b,recTo t.gens t.l k,t.gens,t.o⟩:=by
 induction k with
 |zero=>exact ok
 |succ k ih=>
  cases h:t.l[k]? with
  |none=>
   have hl:=List.getElem?_eq_none_iff.1 h
   have:recTo t.gens t.l (k+1)=recTo t.gens t.l k:=by
    unfold recTo;rw[List.take_of_length_le (by omega),List.take_of_length_le hl,List.drop_of_length_le (by omega),List.drop_of_length_le hl]
   grind
  |some e=>
   rw[jhO h]
   have hb:=ok.e e (List.mem_of_getElem? h)
   have hg:=ok.g
   refine jfy (t:=⟨t.b,recTo t.gens t.l k,t.gens,t.o⟩) ih ?_
   grind[jah]
theorem recyN_le (gens:Int) (T:List jl):recyN gens T≤T.length:=List.countP_le_length
set_option maxHeartbeats 2000000 in
theorem jl8 (ok:TbOk t):Call Tryz.prog w0 321 [.pointer (some ⟨t.b,0,none⟩)] (jK t++F)
  (fun r H'=>r= .int .i64 (recyN t.gens t.l:Nat)∧TbOk ⟨t.b,j5 t.gens t.l,t.gens,t.o⟩∧H'=jK ⟨t.b,j5 t.gens t.l,t.gens,t.o⟩++F):=by
 have ho:=ok.o
 have hn:=ok.n
 have hg:=ok.g
 have okE:=jiy ok t.l.length
 rw[jkg] at okE;refine Call.enter1 (n:=41) (by kernel_rfl) Tryz.func321 rfl rfl rfl ?_;refine zbY ?_;intro b1;refine zbX ?_;refine zaI ?_;refine zeY ?_;refine zK ?_;refine zbe ?_;intro b3;refine zaq ?_;refine zbu ?_;refine zaI ?_;refine JY (tbin_K (b:=t.b) (st:=2)) ?_;rintro _ _ ⟨c1,c2,rfl,rfl⟩;refine zc1 ?_;refine K.rangeFunc (lb:=[.pointer (some ⟨c1,0,none⟩), .pointer (some ⟨c2,0,none⟩)]) rfl
  (fun D G=>G=(D, .deferred (some []))::(b3,cells [.int .i64 (recyN t.gens t.l:Nat)] 3)::(b1,cells [.pointer (some ⟨t.b,0,none⟩)] 123)::(jK ⟨t.b,j5 t.gens t.l,t.gens,t.o⟩++F))
  (fun D c G=>False) ?_ ?_ ?_
 ·intro l D rc hyl
  refine(Call.part (tbin2_K (F:=F) (st:=2) (q1:=c1) (q2:=c2) ok
   (fun k=>(l, .loop (rc .ready none))::(D, .deferred (some []))::(b3,cells [.int .i64 (recyN t.gens (t.l.take k):Nat)] 3)::(b1,cells [.pointer (some ⟨t.b,0,none⟩)] 123)::[])
   (fun k=>⟨t.b,recTo t.gens t.l k,t.gens,t.o⟩) rfl
   (fun k=>⟨rfl,rfl,jkf _ _ _,jiy ok k,jiz _ _ _⟩)
   (fun i e he hn=>by
    obtain⟨q1,q2⟩:=jmH (gens:=t.gens) he hn
    rw[q1,q2];exact⟨rfl,rfl⟩) ?_) (by simp only[List.cons_append,List.nil_append];exact ja)).mono ?_
  ·intro i e he hst
   obtain⟨st,sl,ge⟩:=e
   dsimp only at hst;subst hst
   have hb:=ok.e _ (List.mem_of_getElem? he)
   dsimp only at hb
   have hlt:=jv he
   have okL:=jiy ok i
   have heL:=(jiz t.gens t.l i).trans he
   have hll:=jkf t.gens t.l i
   have hnx:=jhO (gens:=t.gens) he
   have hn2:=jkh (gens:=t.gens) he
   have hnl:=recyN_le t.gens (t.l.take i)
   rw[List.length_take] at hnl
   obtain⟨n,hn'⟩: ∃ n,recyN t.gens (t.l.take i)=n:=⟨_,rfl⟩
   rw[hn'] at hn2 hnl
   obtain⟨L,hL⟩: ∃ L,recTo t.gens t.l i=L:=⟨_,rfl⟩
   rw[hL] at okL heL hll hnx
   obtain⟨n1,hn1⟩: ∃ n1,recyN t.gens (t.l.take (i+1))=n1:=⟨_,rfl⟩
   rw[hn1] at hn2;rw[hL,hn',hnx,hn1]
   have okL1:TbOk ⟨t.b,L.set i ⟨2,0,ge⟩,t.gens,t.o⟩:=jfy okL (by dsimp only;omega)
   have heL1:(L.set i (⟨2,0,ge⟩:jl))[i]?=some ⟨2,0,ge⟩:=List.getElem?_set_self (by omega)
   have hll1:(L.set i (⟨2,0,ge⟩:jl)).length=t.l.length:=by rw[List.length_set];exact hll
   have hcs: ∀ q:Int,j6 q (L.set i ⟨2,0,ge⟩)=j6 q L:=fun q=>by
    have:=ja6 heL ⟨2,0,ge⟩ q
    dsimp only at this
    omega
   have hoL:=okL.o
   have hoL1:=okL1.o
   dsimp only at hoL hoL1;simp only[List.cons_append,List.nil_append];refine zqc ?_;refine za4 ?_;refine zlx ?_;refine K.block ?_;simp only[Jr,hll]
   skip
   refine zZ ?_;refine zbW ?_;refine zja ?_;refine KL.eN (Eff.stSl (j:=1) (x1:=(⟨2,0,ge⟩:jl)) rfl rfl rfl rfl jj hoL heL rfl rfl) ?_;rintro _ _ rfl;refine zR ?_
   by_cases hge:ge≥t.gens
   ·have hre:jah t.gens ⟨2,sl,ge⟩=⟨3,0,ge⟩:=by unfold jah;rw [if_pos rfl,if_pos hge]
    have hn1':n1=n:=by rw[hn2,if_neg (fun h=>h.2 hge)];rfl
    subst hn1'
    have ht:=fun A=>jmu (w0:=w0) (F:=A) okL1 heL1 rfl
    simp only[hll1,List.set_set,hre] at ht⊢;refine KE.next (K.seq (K.seq ?_));refine zsy ?_;refine zaW ?_;refine zor ?_;refine zqz ?_;refine KD.v0 rfl rfl (Val.conv rfl rfl rfl (by simp only[qL,qH];omega)) ?_;refine zcG ?_;refine zdA ?_;refine KD.v0 rfl rfl (Val.isT (Val.geq rfl rfl) jO) ?_;refine zcV ?_;refine zw ?_;refine zz fun T hT=>?_;refine(CallV.part (CallV.fn (ht _)) (by simp only[Jr,hll1,hcs];exact ja)).mono ?_;rintro _ _ ⟨rfl,rfl⟩;refine ze ?_;clear hT T;refine za3 ?_;refine zrL ?_;refine KE.part ((l, .loop (rc .busy none))::((D, .deferred (some []))::(b3,cells [.int .i64 (n1:Nat)] 3)::(b1,cells [.pointer (some ⟨t.b,0,none⟩)] 123)::(c1,cells [.pointer (some ⟨t.b,0,none⟩)] 123)::(c2,cells [.int .i64 2] 3)::(jK ⟨t.b,L.set i ⟨3,0,ge⟩,t.gens,t.o⟩++F))) (by exact ja) ?_;exact KE.roundN jI.head ⟨rfl,rfl⟩
   ·have hre:jah t.gens ⟨2,sl,ge⟩=⟨0,0,ge+1⟩:=by unfold jah;rw [if_pos rfl,if_neg hge]
    have okL2:TbOk ⟨t.b,L.set i ⟨2,0,ge+1⟩,t.gens,t.o⟩:=jfy okL (by dsimp only;omega)
    have heL2:(L.set i (⟨2,0,ge+1⟩:jl))[i]?=some ⟨2,0,ge+1⟩:=List.getElem?_set_self (by omega)
    have hll2:(L.set i (⟨2,0,ge+1⟩:jl)).length=t.l.length:=by rw[List.length_set];exact hll
    have hcs2: ∀ q:Int,j6 q (L.set i ⟨2,0,ge+1⟩)=j6 q L:=fun q=>by
     have:=ja6 heL ⟨2,0,ge+1⟩ q
     dsimp only at this
     omega
    have hn1':n1=n+1:=by rw[hn2,if_pos (show(⟨2,sl,ge⟩:jl).st=2∧ ¬(⟨2,sl,ge⟩:jl).gen≥t.gens from⟨rfl,hge⟩)]
    subst hn1'
    have ht:=fun A=>jmv (w0:=w0) (F:=A) okL2 heL2 rfl
    simp only[hll2,List.set_set,hre] at ht⊢;refine KE.next (K.seq (K.seq ?_));refine zsy ?_;refine zaW ?_;refine zor ?_;refine zqz ?_;refine KD.v0 rfl rfl (Val.conv rfl rfl rfl (by simp only[qL,qH];omega)) ?_;refine zcG ?_;refine zdA ?_;refine KD.v0 rfl rfl (Val.isF (Val.geq rfl rfl) jO) ?_;refine zam ?_;refine KE.next (K.condF rfl (K.skip (KE.next ?_)));refine zZ ?_;refine zbW ?_;refine zqB ?_;refine zhM ?_;refine zqm ?_;refine zbW ?_;refine zqB ?_;refine KL.eN (Eff.stSl (j:=2) (x1:=(⟨2,0,ge+1⟩:jl)) rfl rfl rfl rfl jj hoL1 heL1 rfl rfl) ?_;rintro _ _ rfl;refine zR ?_;simp only[List.set_set];refine zV ?_;refine zw ?_;refine zz fun T hT=>?_;refine(CallV.part (CallV.fn (ht _)) (by simp only[Jr,hll2,hcs2];exact ja)).mono ?_;rintro _ _ ⟨rfl,rfl⟩;refine ze ?_;clear hT T;refine zed ?_;refine zw ?_;refine zbl ?_;refine zrs ?_;refine KE.part ((l, .loop (rc .busy none))::((D, .deferred (some []))::(b3,cells [.int .i64 ((n+1:Nat):Int)] 3)::(b1,cells [.pointer (some ⟨t.b,0,none⟩)] 123)::(c1,cells [.pointer (some ⟨t.b,0,none⟩)] 123)::(c2,cells [.int .i64 2] 3)::(jK ⟨t.b,L.set i ⟨0,0,ge+1⟩,t.gens,t.o⟩++F))) (by exact ja) ?_;exact KE.roundN jI.head ⟨rfl,rfl⟩
  ·rintro u H' rfl;rw[List.take_length,jkg];refine .inl ⟨_,?_,rfl⟩;exact zlk
 ·rintro D G rfl;refine zaw ?_;refine zV ?_;refine zw ?_;refine zm ?_;exact KE.fin je rfl jd ja ⟨rfl,okE,rfl⟩
 ·rintro D c G hf;exact hf.elim
end
open Go.RowKit
set_option maxRecDepth 10000
section
variable {w0 : World} {F : jb} {t : TbM}
theorem tbcnt_K {k:Nat} (ok:TbOk t) (hk:k<4):Call Tryz.prog w0 296 [.pointer (some ⟨t.b,0,none⟩), .int .i64 (k:Nat)] (jK t++F) (fun r H'=>r= .int .i64 (j6 (k:Nat) t.l:Nat)∧H'=jK t++F):=by
 match k,hk with
 |0,_=>
  refine zoG ?_;refine zaf ?_;refine zeY ?_;simp only[Jr];refine zK ?_;refine zb6 ?_;refine zaz ?_;refine zi0 ?_;refine zw ?_;refine zm ?_;exact zcu
 |1,_=>
  refine zoG ?_;refine zaf ?_;refine zeY ?_;simp only[Jr];refine zK ?_;refine zb6 ?_;refine zaz ?_;refine zi0 ?_;refine zw ?_;refine zm ?_;exact zcu
 |2,_=>
  refine zoG ?_;refine zaf ?_;refine zeY ?_;simp only[Jr];refine zK ?_;refine zb6 ?_;refine zaz ?_;refine zi0 ?_;refine zw ?_;refine zm ?_;exact zcu
 |3,_=>
  refine zoG ?_;refine zaf ?_;refine zeY ?_;simp only[Jr];refine zK ?_;refine zb6 ?_;refine zaz ?_;refine zi0 ?_;refine zw ?_;refine zm ?_;exact zcu
theorem tbFree_K (ok:TbOk t):Call Tryz.prog w0 250 [.pointer (some ⟨t.b,0,none⟩)] (jK t++F) (fun r H'=>r= .int .i64 (j6 0 t.l:Nat)∧H'=jK t++F):=by
 refine Call.enter1 (n:=5) (by rfl) Tryz.func250 rfl rfl rfl ?_;refine zbL ?_;refine jn (tbcnt_K (k:=0) ok (by decide)) ja ?_;refine zm ?_;exact zcu
theorem jmy {i n:Nat} (ok:TbOk t) (hn:namedT t.l (i:Nat) (n:Nat)=none):Call Tryz.prog w0 217 [.pointer (some ⟨t.b,0,none⟩), .int .i64 (i:Nat), .int .u32 (n:Nat)] (jK t++F)
  (fun r H'=>r= .pointer none∧H'=jK t++F):=by
 have ho:=ok.o
 by_cases hlt:i<t.l.length
 ·obtain⟨e,he⟩:=jh hlt
  have hge: ¬((i:Nat):Int)≥(t.l.length:Nat):=by omega
  unfold namedT at hn;rw[if_pos (by omega),Int.toNat_natCast,he] at hn;dsimp only at hn
  by_cases hst:e.st≠1
  ·refine zop ?_;simp only[Jr];refine zai ?_;refine zW ?_;refine zc9 ?_;refine zbI ?_;refine zfo ?_;refine zaY ?_;refine zbI ?_;refine zQ ?_;refine zcc ?_;refine zl ?_;refine zi6 ?_;refine zl ?_;refine zdp ?_;refine zl ?_;refine zM ?_;refine zx ?_;refine zdZ ?_;refine zcM ?_;refine zcM ?_;refine zgv ?_;exact zcu
  ·have hgn:e.gen≠((n:Nat):Int):=fun h=>by grind
   refine zop ?_;simp only[Jr];refine zai ?_;refine zW ?_;refine zc9 ?_;refine zbI ?_;refine zfo ?_;refine zaY ?_;refine zbI ?_;refine zQ ?_;refine zcc ?_;refine zl ?_;refine zi6 ?_;refine zl ?_;refine zdp ?_;refine zl ?_;refine zcz ?_;refine zaY ?_;refine zbI ?_;refine zQ ?_;refine zcc ?_;refine zl ?_;refine zoq ?_;refine zl ?_;refine zoo ?_;refine zlp ?_;refine zM ?_;refine za8 ?_;refine zaE ?_;exact zcu
 ·have hge:((i:Nat):Int)≥(t.l.length:Nat):=by omega
  refine zop ?_;simp only[Jr];refine zai ?_;refine zW ?_;refine zc9 ?_;refine zbI ?_;refine ze9 ?_;refine zac ?_;refine zx ?_;refine zdZ ?_;refine zcM ?_;refine zgN ?_;refine zA ?_;refine zdZ ?_;refine zcM ?_;refine zcM ?_;refine zgv ?_;exact zcu
theorem tbLookE_K {i n:Nat} (ok:TbOk t) (hn:namedT t.l (i:Nat) (n:Nat)=none):Call Tryz.prog w0 162 [.pointer (some ⟨t.b,0,none⟩), .int .i64 (i:Nat), .int .u32 (n:Nat)] (jK t++F)
  (fun r H'=>r= .tuple [.int .i64 0, .int .i64 130].toArray∧H'=jK t++F):=by
 refine Call.enter3 (n:=21) (by rfl) Tryz.func162 rfl rfl rfl ?_;refine zhx ?_;refine zeY ?_;refine zK ?_;refine zB ?_;refine zn ?_;refine jn (jmy ok hn) ja ?_;refine zad ?_;refine zcq ?_;refine zao ?_;refine zcW ?_;exact zcu
theorem tbLook2_K {i n:Nat} (ok:TbOk t):Call Tryz.prog w0 162 [.pointer (some ⟨t.b,0,none⟩), .int .i64 (i:Nat), .int .u32 (n:Nat)] (jK t++F)
  (fun r H'=>r= .tuple [.int .i64 (((namedT t.l (i:Nat) (n:Nat)).map (·.slot)).getD 0), .int .i64 (if (namedT t.l (i:Nat) (n:Nat)).isSome=true then 0 else 130)].toArray∧H'=jK t++F):=by
 cases hn:namedT t.l (i:Nat) (n:Nat) with
 |none=>exact tbLookE_K ok hn
 |some e=>
  unfold namedT at hn;rw[if_pos (by omega),Int.toNat_natCast] at hn
  cases he:t.l[i]? with
  |none=>rw [he] at hn;cases hn
  |some q=>
   rw[he] at hn;dsimp only at hn
   split at hn
   ·rename_i hc
    cases hn
    have:=jkW (w0:=w0) (F:=F) ok he hc.1
    rw[hc.2] at this;exact this
   ·cases hn
end
section
variable {w0 : World} {F : jb} {B : BoM} {x : List Int} {s : Nat} {y : jq}
theorem bWord_K {i:Int} (hG:ji w0) (ok:jaD B x) (hy:B.p.g.L[s]?=some y):
  Call Tryz.prog w0 202 [.pointer (some ⟨B.b,0,none⟩), .int .i64 (s:Nat), .int .i64 i] (jT B++(jy B.m++(planH B.p++F)))
   (fun r H'=>r= .tuple [.int .u64 (wordP x y i).1, .int .i64 (wordP x y i).2].toArray∧H'=jT B++(jy B.m++(planH B.p++F))):=by
 have hw:wordP x y i=(if fldP x y false i=0 then wAt x (fAt y i) else 0,fldP x y false i):=by
  grind[wordP]
 rw[hw];refine Call.enter3 (n:=14) (by rfl) Tryz.func202 rfl rfl rfl ?_;refine zlu ?_;refine zn ?_;refine jn (bload_K hG ok hy) ja ?_;refine zh4 ?_;exact zb5
structure BwS where
 k:Nat
 o:Own
def wdsL (x:List Int) (y:jq) (f:Int) (k:Nat):List Int:=(List.range k).map fun i=>(wordP x y (f+((i:Nat):Int))).1
theorem wdsL_len {f:Int} {k:Nat}:(wdsL x y f k).length=k:=by simp[wdsL]
theorem wdsL_next {f:Int} {k:Nat}:wdsL x y f k++ [(wordP x y (f+((k:Nat):Int))).1]=wdsL x y f (k+1):=by simp[wdsL,List.range_succ]
theorem ball_K {f0:Int} {n:Nat} (hG:ji w0) (ok:jaD B x) (hy:B.p.g.L[s]?=some y) (hn:n≤64) (hf:0≤f0∧f0≤64) (hw: ∀ i:Nat,i<n→(wordP x y (f0+(i:Nat))).2=0):
  Call Tryz.prog w0 272 [.int .i64 (s:Nat), .int .i64 f0, .int .i64 (n:Nat), .func (.func 202) #[.pointer (some ⟨B.b,0,none⟩)] #[]] (jT B++(jy B.m++(planH B.p++F)))
   (fun r H'=> ∃ o,oOk uE (wdsL x y f0 n) o∧r= .tuple [oV o (wdsL x y f0 n).length, .int .i64 0].toArray∧H'=oH uE 34 (wdsL x y f0 n) o++(jT B++(jy B.m++(planH B.p++F)))):=by
 have hword:=fun A (i:Nat)=>bWord_K (w0:=w0) (F:=A) (i:=f0+(i:Nat)) hG ok hy
 refine Call.enter4 (n:=36) (by rfl) Tryz.func272 rfl rfl rfl ?_;refine zL ?_;refine zah ?_;refine zeD ?_;refine zc1 ?_;refine K.loopT (σ:=BwS) [(0,_),(1,_),(3,_),(14,_)] (fun s kp_=>(15, .int .i64 (s.k:Nat))::(10,oV s.o (wdsL x y f0 s.k).length)::kp_) (fun s=>oH uE 34 (wdsL x y f0 s.k) s.o++(jT B++(jy B.m++(planH B.p++F)))) (fun s=>s.k≤n∧oOk uE (wdsL x y f0 s.k) s.o) (fun s=>n-s.k) (⟨0,none⟩) jc ja (⟨Nat.zero_le _,rfl⟩) ?_;rintro⟨k,o⟩ ⟨hk,ko⟩;dsimp only at hk ko⊢
 have hwl:=wdsL_len (x:=x) (y:=y) (f:=f0) (k:=k)
 by_cases hlt:k<n
 ·have hlt':((k:Nat):Int)<(n:Nat):=by omega
  have hw1:=fun A=>hword A k
  simp only[hw k hlt] at hw1
  obtain⟨z,hz⟩: ∃ z,(wordP x y (f0+((k:Nat):Int))).1=z:=⟨_,rfl⟩
  have hnx:=wdsL_next (x:=x) (y:=y) (f:=f0) (k:=k)
  rw[hz] at hnx;simp only[hz] at hw1
  have hbd:(wdsL x y f0 (k+1)).length≤4294967296:=by grind
  refine zid ?_;refine zrz ?_;refine zaB ?_;refine zu fun T hT=>?_;refine(CallV.part (CallV.bound (first:=[.pointer (some ⟨B.b,0,none⟩)]) (hw1 _)) ja).mono ?_;rintro _ _ ⟨rfl,rfl⟩;refine ze ?_;clear hT T;refine zbM ?_;refine zax ?_;refine zcB ?_;refine zar ?_;intro b32;refine KL.e rfl (Eff.appZ (E:=uE) (xs:=wdsL x y f0 k) (o:=o) (ys:=[z]) (zs:=wdsL x y f0 (k+1)) rfl rfl rfl rfl rfl rfl jj (by omega) (by first|exact Sli.blk ju rfl (by grind) (by first|decide|(unfold maxLen;omega)) rfl|exact Sli.old (by assumption)|exact Sli.own jj (by assumption) jF|assumption|exact Sli.part (by assumption) ja) (hnx) (by omega) rfl) ?_;rintro _ _ ⟨o',ok',rfl,rfl⟩;refine zhs ?_;exact KE.again ⟨k+1,o'⟩ jc ja ⟨hlt,ok'⟩ (by grind)
 ·have hkn:k=n:=by omega
  subst hkn
  have hlt': ¬((k:Nat):Int)<(k:Nat):=by omega
  refine zc5 ?_;refine zbw ?_;refine zab ?_;exact KE.fin je rfl jd ja ⟨o,ko,rfl,rfl⟩
theorem bWords_K (hG:ji w0) (ok:jaD B x) (hy:B.p.g.L[s]?=some y):
  Call Tryz.prog w0 212 [.pointer (some ⟨B.b,0,none⟩), .int .i64 (s:Nat)] (jT B++(jy B.m++(planH B.p++F)))
   (fun r H'=> ∃ (o:Own) (e:Int),oOk uE (jbr x y) o∧r= .tuple [oV o (jbr x y).length, .int .i64 e].toArray∧H'=oH uE 34 (jbr x y) o++(jT B++(jy B.m++(planH B.p++F)))):=by
 have hhead:=fun A=>jeX (w0:=w0) (F:=A) hG ok hy
 unfold headV at hhead;unfold jbr
 cases hh:headP x y with
 |none=>
  simp only[hh] at hhead;unfold hdV at hhead;dsimp only at hhead⊢;refine Call.enter2 (n:=27) (by rfl) Tryz.func212 rfl rfl rfl ?_;refine zlA ?_;refine jn (hhead _) ja ?_;refine zb4 ?_;intro b6;refine zM ?_;refine zbP ?_;refine zcW ?_;exact KE.fin je rfl jd ja ⟨none,5,rfl,rfl,rfl⟩
 |some h=>
  have hm:=(jdI (jfk hh).2).1
  have hsz:=(jdI (jfk hh).2).2.2
  simp only[hh] at hhead
  obtain⟨c,r,w⟩:=h
  dsimp only at hsz⊢;simp only[JT,decide_eq_true_eq] at hm;unfold hdV at hhead;dsimp only at hhead
  obtain⟨n,hrn⟩: ∃ n:Nat,w=n:=⟨w.toNat,by omega⟩
  subst hrn;rw[Int.toNat_natCast]
  have hok: ∀ i:Nat,i<n→(wordP x y (r+(i:Nat))).2=0:=fun i hi=>by
   grind[fldP,wordP]
  have hall:=fun A=>ball_K (w0:=w0) (F:=A) (f0:=r) (n:=n) hG ok hy (by omega) ⟨by omega,by omega⟩ hok
  unfold wdsL at hall;refine Call.enter2 (n:=27) (by rfl) Tryz.func212 rfl rfl rfl ?_;refine zlA ?_;refine jn (hhead _) ja ?_;refine zb4 ?_;intro b6;refine zaj ?_;refine zba ?_;refine zae ?_;refine zaa ?_;refine zj ?_;refine za5 ?_;refine zp ?_;refine jB (hall _) ja ?_;rintro _ _ ⟨o,ko,rfl,rfl⟩;refine zh4 ?_;refine zab ?_;exact KE.fin je rfl jd ja ⟨o,0,ko,rfl,rfl⟩
end
open Go.RowKit
set_option maxRecDepth 10000
def cwL:List Nat:=[32,24,8]
theorem cw_ok:WsOk cwL:=⟨by decide,by decide,by decide⟩
theorem dig_cw (w:Nat):digK cwL w 3=[w%2^32,w/2^32%2^24,w/2^56%2^8]:=by
 have h1:=jdt (ws:=cwL) (w:=w) (k:=0) rfl
 have h2:=jdt (ws:=cwL) (w:=w) (k:=1) rfl
 have h3:=jdt (ws:=cwL) (w:=w) (k:=2) rfl
 have e0:digK cwL w 0=[]:=rfl
 rw[show(cwL.take 0).sum=0 from rfl,Nat.pow_zero,Nat.div_one] at h1;rw[show(cwL.take 1).sum=32 from rfl] at h2;rw[show(cwL.take 2).sum=56 from rfl] at h3;rw[h3,h2,h1,e0]
 rfl
theorem pack_cw (t i n:Nat):packK cwL [n,i,t] 3=capW t i n:=by
 have h1:=jc6 (ws:=cwL) (vs:=[n,i,t]) (k:=0) rfl
 have h2:=jc6 (ws:=cwL) (vs:=[n,i,t]) (k:=1) rfl
 have h3:=jc6 (ws:=cwL) (vs:=[n,i,t]) (k:=2) rfl
 have e0:packK cwL [n,i,t] 0=0:=rfl
 rw[show(cwL.take 0).sum=0 from rfl] at h1;rw[show(cwL.take 1).sum=32 from rfl] at h2;rw[show(cwL.take 2).sum=56 from rfl] at h3;rw[h3,h2,h1,e0]
 have e1:(2:Nat)^32=4294967296:=by decide
 have e2:(2:Nat)^56=72057594037927936:=by decide
 rw[e1,e2];unfold capW
 simp
theorem jkR {w0:World} {H:jb}:Call Tryz.prog w0 215 [] H (fun r H'=> ∃ b,r= .slice (some ⟨b,0,none⟩) 3 3∧H'=(b,cells [.int .i64 32, .int .i64 24, .int .i64 8] 3)::H):=by
 refine Call.enter0 (n:=2) (by rfl) Tryz.func215 rfl rfl rfl ?_;refine ztB ?_;intro b1;refine zm ?_;exact KE.fin je rfl jd ja ⟨_,rfl,rfl⟩
def capV (w:Nat):Value:=if capG w=0 then .tuple [.agg [.int .i64 0, .int .i64 0, .int .u32 0].toArray, .int .i64 130].toArray else .tuple [.agg [.int .i64 (capT w:Nat), .int .i64 (capI w:Nat), .int .u32 (capG w:Nat)].toArray, .int .i64 0].toArray
theorem jik {w0:World} {F:jb} {b1:Nat} {v:Value} {x:Int} {l:List Int} (hS:Sli w0 F uE v (x::l)) (hc:v.cells=[v].toArray) (hc2:(subV v 1 (x::l).length uE.sz).oneCell'=true):Call Tryz.prog w0 216 [.pointer (some ⟨b1,0,none⟩)] ((b1,cells [v] 47)::F)
  (fun r H'=>r= .int .u64 x∧H'=(b1,cells [subV v 1 (x::l).length uE.sz] 47)::F):=by
 have h0:(x::l)[Int.toNat 0]?=some x:=rfl
 have hlt:Int.toNat 0<(x::l).length:=by simp
 have hlt1:Int.toNat 1≤(x::l).length:=by simp
 refine Call.enter1 (n:=9) (by rfl) Tryz.func216 rfl rfl rfl ?_;refine zav ?_;refine zw ?_;refine zfP ?_;refine zgs ?_;refine zkV ?_;refine zgC ?_;exact zq
theorem dig_cap (w:Nat) (hw:w<18446744073709551616):natL (digK cwL w 3)=[((capG w:Nat):Int),((capI w:Nat):Int),((capT w:Nat):Int)]:=by
 have e1:(2:Nat)^32=4294967296:=by decide
 have e2:(2:Nat)^24=16777216:=by decide
 have e3:(2:Nat)^56=72057594037927936:=by decide
 have e4:(2:Nat)^8=256:=by decide
 have h8:w/72057594037927936%256=w/72057594037927936:=Nat.mod_eq_of_lt (by omega)
 rw[dig_cw,e1,e2,e3,e4,h8]
 rfl
theorem jlF {w0:World} {H:jb} {w:Nat} (hw:w<18446744073709551616):Call Tryz.prog w0 160 [.int .u64 (w:Nat)] H (fun r H'=>r=capV w∧H'=H):=by
 have hg:capG w<4294967296:=by grind[capG]
 have hi:capI w<16777216:=by grind[capI]
 have ht:capT w<256:=by grind[capT]
 have hwd:=fun A=>jkR (w0:=w0) (H:=A)
 have hun:=fun A (b:Nat) (hS:Sli w0 A iE (.slice (some ⟨b,0,none⟩) 3 3) [32,24,8])=>jlR (w0:=w0) (H:=A) (ws:=cwL) cw_ok rfl hw hS
 have hD:=dig_cap w hw
 have h3:cwL.length=3:=rfl
 simp only[h3,hD] at hun;clear hD;unfold capV
 obtain⟨gn,egn⟩: ∃ gn,gn=capG w:=⟨_,rfl⟩
 obtain⟨ix,eix⟩: ∃ ix,ix=capI w:=⟨_,rfl⟩
 obtain⟨tn,etn⟩: ∃ tn,tn=capT w:=⟨_,rfl⟩
 rw[←egn] at hg;rw[←eix] at hi;rw[←etn] at ht;simp only[←egn,←eix,←etn] at hun⊢;clear egn eix etn;refine Call.enter1 (n:=40) (by rfl) Tryz.func160 rfl rfl rfl ?_;refine zbx ?_;intro b2;refine zah ?_;refine zp ?_;refine JY (hwd _) ?_;rintro _ _ ⟨bw,rfl,rfl⟩;refine zn ?_;refine JY (hun _ bw (Sli.blk ju rfl (by decide) (by decide) rfl)) ?_;rintro _ _ ⟨o,ko,rfl,rfl⟩;refine zbF ?_;refine zbe ?_;intro b4;refine zaq ?_;refine zah ?_;refine za5 ?_;refine zt ?_;refine zgS ?_;refine K.drawn _ [(0,0),(1,0),(2,0),(3,1),(4,1),(5,2),(6,0),(7,0),(8,0)] (by rfl) (by rfl) (by kernel_rfl) (by rfl) (by rfl) (by rfl) Part.all ?_;refine zo ?_;refine zfK ?_;refine zo ?_;refine zok ?_;refine KD.y1 rfl rfl rfl rfl (Val.lenSl rfl rfl (Sli.own jj (by omega) jF)) ?_;refine zdR fun T hT=>?_;refine(CallV.fn (hwd _)).mono ?_;rintro _ _ ⟨bw2,rfl,rfl⟩;refine zi ?_;clear hT T;refine KD.y0 rfl rfl rfl rfl (Val.lenS rfl rfl) ?_;refine KD.y0 rfl rfl rfl rfl (Val.neq rfl rfl) ?_;refine zbr ?_;refine KE.next (K.condF rfl (K.skip (KE.next ?_)))
 obtain⟨v0,hv0⟩: ∃ v0,v0=oV o [((gn:Nat):Int),((ix:Nat):Int),((tn:Nat):Int)].length:=⟨_,rfl⟩
 obtain⟨v1,hv1⟩: ∃ v1,v1=subV v0 1 [((gn:Nat):Int),((ix:Nat):Int),((tn:Nat):Int)].length uE.sz:=⟨_,rfl⟩
 obtain⟨v2,hv2⟩: ∃ v2,v2=subV v1 1 [((ix:Nat):Int),((tn:Nat):Int)].length uE.sz:=⟨_,rfl⟩
 have hS0: ∀ R,Sli w0 (oH uE 34 [((gn:Nat):Int),((ix:Nat):Int),((tn:Nat):Int)] o++R) uE v0 [((gn:Nat):Int),((ix:Nat):Int),((tn:Nat):Int)]:=fun R=>by rw[hv0];exact Sli.own jj ko rfl
 have hS1: ∀ R,Sli w0 (oH uE 34 [((gn:Nat):Int),((ix:Nat):Int),((tn:Nat):Int)] o++R) uE v1 [((ix:Nat):Int),((tn:Nat):Int)]:=fun R=>by rw[hv1];have:=(hS0 R).sub (l:=1) (h:=3) (by simp) (by simp);simpa using this
 have hS2: ∀ R,Sli w0 (oH uE 34 [((gn:Nat):Int),((ix:Nat):Int),((tn:Nat):Int)] o++R) uE v2 [((tn:Nat):Int)]:=fun R=>by rw[hv2];have:=(hS1 R).sub (l:=1) (h:=2) (by simp) (by simp);simpa using this
 have hc0:v0.cells=[v0].toArray:=by grind[jlj]
 have hc1:v1.cells=[v1].toArray:=by rw[hv1,hv0];cases o<;>rfl
 have hc2:v2.cells=[v2].toArray:=by rw[hv2,hv1,hv0];cases o<;>rfl
 have h10:(subV v0 1 [((gn:Nat):Int),((ix:Nat):Int),((tn:Nat):Int)].length uE.sz).oneCell'=true:=by rw[hv0];cases o<;>rfl
 have h11:(subV v1 1 [((ix:Nat):Int),((tn:Nat):Int)].length uE.sz).oneCell'=true:=by rw[hv1,hv0];cases o<;>rfl
 have h12:(subV v2 1 [((tn:Nat):Int)].length uE.sz).oneCell'=true:=by rw[hv2,hv1,hv0];cases o<;>rfl
 rw[←hv0];refine zG ?_;refine zz fun T hT=>?_;refine(CallV.part (CallV.clo (args:=[]) (cap:=[.pointer (some ⟨b4,0,none⟩)]) (jik (hS0 _) hc0 h10)) ja).mono ?_;rintro _ _ ⟨rfl,rfl⟩;rw[←hv1];refine ze ?_;clear hT T;refine zaT ?_;refine zz fun T hT=>?_;refine(CallV.part (CallV.clo (args:=[]) (cap:=[.pointer (some ⟨b4,0,none⟩)]) (jik (hS1 _) hc1 h11)) ja).mono ?_;rintro _ _ ⟨rfl,rfl⟩;rw[←hv2];refine ze ?_;clear hT T;refine zaT ?_;refine zz fun T hT=>?_;refine(CallV.part (CallV.clo (args:=[]) (cap:=[.pointer (some ⟨b4,0,none⟩)]) (jik (hS2 _) hc2 h12)) ja).mono ?_;rintro _ _ ⟨rfl,rfl⟩;refine ze ?_;clear hT T
 by_cases hz:gn=0
 ·have hz':((gn:Nat):Int)=0:=by omega
  rw[if_pos hz];refine zaT ?_;refine zbb ?_;refine znn ?_;intro b7;refine zaa ?_;refine zeF ?_;refine zcQ ?_;exact zaL
 ·have hz': ¬((gn:Nat):Int)=0:=by omega
  rw[if_neg hz];refine zaT ?_;refine zbb ?_;refine znn ?_;intro b7;refine zaa ?_;refine zC ?_;refine ztv ?_;exact zq
structure FiS where
 k:Nat
theorem fit_K {w0:World} {H:jb} {v:Value} {t i:Nat} (ht:t<256) (hi:i<16777216) (hS:Sli w0 H iE v [((t:Nat):Int),8,((i:Nat):Int),24]):Call Tryz.prog w0 304 [v] H (fun r H'=>r= .bool true∧H'=H):=by
 obtain⟨L,hL⟩: ∃ L:List Int,L=[((t:Nat):Int),8,((i:Nat):Int),24]:=⟨_,rfl⟩
 rw[←hL] at hS
 have x0:L[0]?=some ((t:Nat):Int):=by grind
 have x1:L[0+1]?=some 8:=by grind
 have x2:L[2]?=some ((i:Nat):Int):=by grind
 have x3:L[2+1]?=some 24:=by grind
 have hLl:L.length=4:=by grind
 clear hL
 have s1:((t:Nat):Int).fdiv (2^(min (Int.toNat 8) IntKind.i64.bits))=0:=by
  rw[show(2:Int)^(min (Int.toNat 8) IntKind.i64.bits)=256 by decide,Int.fdiv_eq_ediv_of_nonneg _ (by omega)];omega
 have s2:((i:Nat):Int).fdiv (2^(min (Int.toNat 24) IntKind.i64.bits))=0:=by
  rw[show(2:Int)^(min (Int.toNat 24) IntKind.i64.bits)=16777216 by decide,Int.fdiv_eq_ediv_of_nonneg _ (by omega)];omega
 refine Call.enter1 (n:=29) (by rfl) Tryz.func304 rfl rfl rfl ?_;refine zG ?_;refine zbs ?_;refine K.loopT (σ:=FiS) [(0,_)] (fun s kp_=>(3, .int .i64 (s.k:Nat))::kp_) (fun s=>H) (fun s=>s.k=0∨s.k=2∨s.k=4) (fun s=>4-s.k) (⟨0⟩) jc ja (.inl rfl) ?_;rintro⟨k⟩ hk;dsimp only at hk⊢
 rcases hk with rfl|rfl|rfl
 ·refine K.seq ?_;refine zaH ?_;refine zmc ?_;refine zj ?_;refine zen ?_;refine zkz ?_;refine zsz ?_;refine ziR ?_;refine zhb ?_;refine zaZ ?_;refine KD.y0 rfl rfl rfl rfl (Val.add rfl rfl (by simp[qL,qH])) ?_;refine ziU ?_;refine KD.y0 rfl rfl rfl rfl (Val.shr rfl rfl (by omega)) ?_;refine zkQ ?_;refine zbr ?_;refine zfC ?_;refine zjU ?_;refine zj ?_;refine zmc ?_;refine zaK ?_;exact KE.again ⟨2⟩ jc ja (.inr (.inl rfl)) (by grind)
 ·refine K.seq ?_;refine zaH ?_;refine zmc ?_;refine zj ?_;refine zen ?_;refine zkz ?_;refine zsz ?_;refine ziR ?_;refine zhb ?_;refine zaZ ?_;refine KD.y0 rfl rfl rfl rfl (Val.add rfl rfl (by simp[qL,qH])) ?_;refine ziU ?_;refine KD.y0 rfl rfl rfl rfl (Val.shr rfl rfl (by omega)) ?_;refine zkQ ?_;refine zbr ?_;refine zfC ?_;refine zjU ?_;refine zj ?_;refine zmc ?_;refine zaK ?_;exact KE.again ⟨4⟩ jc ja (.inr (.inr rfl)) (by grind)
 ·refine K.seq ?_;refine zaH ?_;refine zmc ?_;refine zj ?_;refine zno ?_;refine zV ?_;exact zq
theorem capPut_K {w0:World} {H:jb} {t i n:Nat} (ht:t<256) (hi:i<16777216) (hn:1≤n∧n<4294967296):Call Tryz.prog w0 259 [.agg [.int .i64 (t:Nat), .int .i64 (i:Nat), .int .u32 (n:Nat)].toArray] H (fun r H'=>r= .tuple [.int .u64 (capW t i n:Nat), .int .i64 0].toArray∧H'=H):=by
 have hn0: ¬((n:Nat):Int)=0:=by omega
 have hfit:=fun A v (hS:Sli w0 A iE v [((t:Nat):Int),8,((i:Nat):Int),24])=>fit_K (w0:=w0) ht hi hS
 have hwd:=fun A=>jkR (w0:=w0) (H:=A)
 have hpk:packK cwL [n,i,t] cwL.length=capW t i n:=pack_cw t i n
 have hf: ∀ (q m v:Nat),cwL[q]?=some m→ [n,i,t][q]?=some v→v<2^m:=fun q m v h1 h2=>by
  grind[hi,cwL]
 have hpack:=fun A v vv (hS:Sli w0 A iE v [32,24,8]) (hV:Sli w0 A uE vv [((n:Nat):Int),((i:Nat):Int),((t:Nat):Int)]) (hc:vv.cells=[vv].toArray)=>Pack_K (w0:=w0) (H:=A) (ws:=cwL) (vs:=[n,i,t]) cw_ok rfl hf hS hV hc
 rw[hpk] at hpack;refine Call.enter1 (n:=30) (by rfl) Tryz.func259 rfl rfl rfl ?_;refine zb7 ?_;intro b1;refine zaa ?_;refine zC ?_;refine zaV ?_;refine zbK ?_;refine zar ?_;intro b12;refine zis ?_;refine jp (hfit _ _ (Sli.blk ju rfl (Nat.le_refl 4) (by decide) rfl)) ?_;refine zha ?_;refine zax ?_;refine zJ ?_
 (first|refine K.seq (K.drawn _ [(1,1),(2,1),(3,1),(4,1),(5,1),(6,1),(7,1),(8,1),(9,1),(0,3),(10,2),(11,2),(12,0),(13,0),(14,0),(15,0)] (by rfl) (by rfl) (by kernel_rfl) (by rfl) (by rfl) (by rfl) Part.all ?_)|refine K.seq (K.seq (K.drawn _ [(1,1),(2,1),(3,1),(4,1),(5,1),(6,1),(7,1),(8,1),(9,1),(0,3),(10,2),(11,2),(12,0),(13,0),(14,0),(15,0)] (by kernel_rfl) (by kernel_rfl) (by kernel_rfl) (by kernel_rfl) (by kernel_rfl) (by kernel_rfl) Part.all ?_))|refine K.drawn _ [(1,1),(2,1),(3,1),(4,1),(5,1),(6,1),(7,1),(8,1),(9,1),(0,3),(10,2),(11,2),(12,0),(13,0),(14,0),(15,0)] (by kernel_rfl) (by kernel_rfl) (by kernel_rfl) (by kernel_rfl) (by kernel_rfl) (by kernel_rfl) Part.all ?_)
 refine zmd ?_;refine zcb ?_;refine zqC ?_;refine ztw ?_;refine zqC ?_;refine zcP ?_;refine zqC ?_
 --FORK at region 3:[(0,3),(10,2),(11,2),(12,0),(13,0),(14,0),(15,0)]
 refine KD.fork2 (x:=0) (y:=10) (o1:=[(10,2),(11,2),(12,0),(13,0),(14,0),(15,0)]) (o2:=[(0,2),(11,2),(12,0),(13,0),(14,0),(15,0)]) (by kernel_rfl) rfl rfl (by kernel_rfl) (by kernel_rfl) ?_ ?_
 ·refine zT fun T hT=>?_;refine(CallV.fn (hwd _)).mono ?_;rintro _ _ ⟨bw,rfl,rfl⟩;refine zi ?_;clear hT T;refine zos ?_;intro b26;refine zcp ?_;refine zk fun T hT=>?_;refine zsA ?_;rintro _ _ ⟨rfl,rfl⟩;refine zi ?_;clear hT T;refine znY ?_;refine zrF ?_;refine zbp ?_;exact zH
 ·(refine jP.e rfl (Eff.buildS jdh rfl rfl rfl rfl rfl jdk) ?_;rintro _ _ ⟨b26,rfl,rfl⟩;refine⟨ja,?_⟩)
  refine zk fun T hT=>?_;refine(CallV.fn (hwd _)).mono ?_;rintro _ _ ⟨bw,rfl,rfl⟩;refine zi ?_;clear hT T;refine zk fun T hT=>?_;refine zsA ?_;rintro _ _ ⟨rfl,rfl⟩;refine zi ?_;clear hT T;refine znY ?_;refine zrF ?_;refine zbp ?_;exact zH
end Go.Proofs.YtebiafomiemgbaaGreatDoor.Sw
