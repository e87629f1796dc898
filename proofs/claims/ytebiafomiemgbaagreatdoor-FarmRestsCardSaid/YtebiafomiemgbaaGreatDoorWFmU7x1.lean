/-What the law needs of its own,part 1. -/
import Derived.Test.YtebiafomiemgbaaGreatDoorWFmU7d
import Derived.Test.YtebiafomiemgbaaGreatDoorJ39
set_option linter.unusedVariables false set_option linter.unusedSimpArgs false set_option linter.unusedVariables false
set_option linter.unusedSimpArgs false
namespace Go.Proofs.YtebiafomiemgbaaGreatDoor
set_option maxHeartbeats 8000000
open Go.RowKit
section
variable {P : Program} {w0 : World} {m : jk} {H F : jb} {ty : TypeId} {v : Value}
theorem Val.neqA {t u:TypeId} {x y:Operand} {xs ys:List Value} {r:Bool} (hx:evO m x=some (.agg xs.toArray)) (hy:evO m y=some (.agg ys.toArray)) (hg:P.eqGuardType P.depth t=false) (h:EqV P (9999+1) t (.agg xs.toArray) (.agg ys.toArray) r):Val P w0 H m ty (.binOp .neq t x y u) (.bool (!r)):=
 ⟨by grind[jm,cov],fun w d pos af g _=>by
  have e1:=run_eqGuard_agg (P:=P) w .neq t x y xs.toArray ys.toArray hg
  have e2:=jdg _ h w
  simp[execOp,evS,hx,hy,e1,binOp,jan,e2]⟩
theorem Val.neqAE {t u:TypeId} {x y:Operand} {xs ys:List Value} {r:Bool} (hx:evO m x=some (.agg xs.toArray)) (hy:evO m y=some (.agg ys.toArray)) (hg:P.eqGuardType P.depth t=false) (h:EqV P (9999+1) t (.agg xs.toArray) (.agg ys.toArray) r) (hr:r=true):Val P w0 H m ty (.binOp .neq t x y u) (.bool false):=
 Val.isB (Val.neqA hx hy hg h) (by grind)
theorem Val.neqAN {t u:TypeId} {x y:Operand} {xs ys:List Value} {r:Bool} (hx:evO m x=some (.agg xs.toArray)) (hy:evO m y=some (.agg ys.toArray)) (hg:P.eqGuardType P.depth t=false) (h:EqV P (9999+1) t (.agg xs.toArray) (.agg ys.toArray) r) (hr:r=false):Val P w0 H m ty (.binOp .neq t x y u) (.bool true):=
 Val.isB (Val.neqA hx hy hg h) (by grind)
end
open Go.RowKit Go.ChangeShapes Go.WideShapes
set_option autoImplicit false
theorem byBlk {G G':Prop} (k:G') (h:G'→G:=by intro k;((repeat (refine KE.next ?_));(first|refine K.block ?_|refine K.seq (K.block ?_)));exact k):G:=h k
open Go.RowKit Go.ChangeShapes Go.WideShapes Go.ChangeAt Go.Deep Go.Joins
set_option maxRecDepth 100000
def u8ok (z:Int):Prop:=0≤z∧z≤255
theorem jfG {z:Int} (h:(Lit.int .u8 z).wf=true):u8ok z:=by simpa [Lit.wf,IntKind.min,IntKind.max,IntKind.signed,IntKind.bits,u8ok] using h
end Go.Proofs.YtebiafomiemgbaaGreatDoor
namespace Go.Proofs.YtebiafomiemgbaaGreatDoor.Sw
open Go.Proofs.YtebiafomiemgbaaGreatDoor renaming lo → qL, hi → qH
open Go.RowKit
set_option maxRecDepth 10000
section
variable {T T' : List jl} {w tn : Nat} {t gn : Int}
theorem jaW:jC T (jH T t):=fun i e h=>by
 grind[jH,JM,g1,g2,jC.refl,jbg,jv,jct]
theorem jcu {k:Int}:jC T (Jk T k):=fun i e h=>by
 grind[Jk]
theorem jcq:jC T (j5 gn T):=fun i e h=>by
 grind[jah,j5]
end
section
variable {C : HpC} {wr : Bool} {h h' : HpP}
theorem jcB (hC:HpCk C) (hI:HeI C h) (m:HpMv C wr h h'):jC h.s.W.T h'.s.W.T:=by
 have ok:=hC.g
 cases m with
 |free h1 h2=>exact .refl
 |help h1=>rw [show _=h.s.W.T from(jda hI.ok ok h1).2.1];exact .refl
 |step h1=>rw [show _=h.s.W.T from jeh ok hI.ok h1];exact .refl
 |begin h0=>exact .refl
 |publish h3=>exact jcq
 | @acts a h2 _=>
  grind[jC,doesC,does_TN,h2,jcu]
 |word _ _ _=>exact .refl
 |read _ _ _=>show jC _ (jH (shdC _ _ h.s _).W.T _);grind[shdC_W,jaW]
 |make _ _ _ _=>exact jaW
theorem mvs_tb (hC:HpCk C) (hI:HeI C h) (m:Jh C wr h h'):jC h.s.W.T h'.s.W.T:=
 (m.ind (I:=fun q=>HeI C q∧jC h.s.W.T q.s.W.T) (fun a b m i=>⟨i.1.mv hC m,i.2.trans (jcB hC i.1 m)⟩) ⟨hI, .refl⟩).2
theorem alloc_new (hC:HpCk C) (hI:HeI C h) {a b:Int} (h0:(Jn C h a b).1.h≠0):JZ C h (Jn C h a b).2 (Jn C h a b).1.h:=by
 unfold Jn at h0⊢
 split at h0
 ·exact zD
 ·rename_i h1
  rw[if_neg h1]
  split at h0
  ·exact zD
  ·rename_i hk
   rw[if_neg hk]
   have m1:=jc7 (wr:=true) hC hI (k:=classI C.g (a+b+1))
   have hI1:=hI.mvs hC m1
   split at h0
   ·exact zD
   ·rename_i h2
    rw[if_neg h2]
    split at h0
    ·exact zD
    ·rename_i h3
     rw[if_neg h3]
     have m2:HpMv C true _ _:=jdn hC hI1 (not_false' h1) hk (not_false' h2) (not_false' h3)
     have hI2:=hI1.mv hC m2
     exact zjd
theorem read_new (hC:HpCk C) (hI:HeI C h) {sl a k:Int} (hs:slotT h.s.W.T k=some sl) (h0:(Jj C h sl a).1.h≠0):JZ C h (Jj C h sl a).2 (Jj C h sl a).1.h:=by
 unfold Jj at h0⊢
 split at h0
 ·exact zD
 ·rename_i h1
  rw[if_neg h1]
  split at h0
  ·exact zD
  ·rename_i h2
   rw[if_neg h2]
   split at h0
   ·exact zD
   ·rename_i h3
    rw[if_neg h3]
    have m1:=jcR (wr:=true) hC hI (is:=Jt)
    have hI1:=hI.mvs hC m1
    split at h0
    ·exact zD
    ·rename_i h4
     refine zkl ?_
     show jC _ (jH (shdC _ _ _ _).W.T _)
     exact ziA
theorem does_new (hC:HpCk C) (hI:HeI C h) {op:OpP} (h0:(jD C h op).1.h≠0):JZ C h (jD C h op).2 (jD C h op).1.h:=by
 unfold jD at h0⊢
 split at h0
 ·exact zD
 ·rename_i h1
  rw[if_neg h1]
  split at h0
  ·rename_i h2
   exact zj9
  ·rename_i h2
   rw[if_neg h2]
   cases hs:hpSlot C.tn h.s.W.T op.h with
   |none=>rw [hs] at h0;exact absurd rfl h0
   |some sl=>
    rw[hs] at h0;dsimp only at h0⊢;unfold hpOp at h0⊢
    split at h0
    ·rename_i h3
     exact zkj
    ·exfalso
     apply h0
     split
     ·unfold jaO
      split
      ·rfl
      ·split
       ·rfl
       ·split<;>rfl
     ·split
      ·rfl
      ·split
       ·unfold jbo;split<;>rfl
       ·split<;>rfl
theorem do_new (hC:HpCk C) (hI:HeI C h) {op:OpP} (h0:(jS C h op).1.h≠0):JZ C h (jS C h op).2 (jS C h op).1.h:=by
 rw[do_h] at h0⊢
 split at h0
 ·rename_i h1
  rw[if_pos h1]
  have hI0:HeI C {h with wk:=0}:=hI.mv hC (wr:=true) (.free rfl fun h=>h)
  exact zje
 omega
end
open Go.RowKit
set_option maxRecDepth 10000
section
variable {w0 : World} {f : FmM} {F : jb} {nf t : Nat} {q : TnM}
theorem jaU (ok:FmOk f nf):Call Tryz.prog w0 31 [.pointer (some ⟨f.b,0,none⟩)] (fmH f++F) (fun r H'=>r= .int .i64 (f.c.tn.length:Nat)∧H'=fmH f++F):=by
 have hl:=jej ok
 have ho:=ok.o
 refine zgY ?_;refine zeb ?_;rw[←hl];refine zhG ?_;refine zdL ?_;exact zdw
end
set_option maxRecDepth 10000
def acL (x:jM):List Value:=[.int .i64 x.t, .int .u8 (x.o.c:Nat), .int .u64 (x.o.h:Nat), .int .i64 x.o.a, .int .i64 x.o.b, .int .u64 (x.o.v:Nat), .int .i64 x.H, .int .i64 x.V, .bool x.work, .int .i64 x.k, .int .i64 x.pt, .int .u8 (x.u:Nat)]
structure FActOk (x:jM):Prop where
 o:JJ x.o
 u:x.u<256
def opA (x:jM) (T:List Int):OpP:={x.o with h:=pickT T x.H x.o.h,v:=pickT T x.V x.o.v}
theorem JK {T:List Int} {i:Int} (hT:JN T) (h1:0≤i) (h2:0<T.length) (d:Nat): ∃ (k:Nat) (e:Nat),i%((T.length:Nat):Int)=((k:Nat):Int)∧k<T.length∧T[k]?=some ((e:Nat):Int)∧pickT T i d=e:=by
 have h3:=Int.emod_nonneg i (b:=((T.length:Nat):Int)) (by omega)
 have h4:=Int.emod_lt_of_pos i (b:=((T.length:Nat):Int)) (by omega)
 obtain⟨k,hk⟩: ∃ k:Nat,i%((T.length:Nat):Int)=k:=⟨(i%((T.length:Nat):Int)).toNat,by omega⟩
 have hkl:k<T.length:=by omega
 obtain⟨e,he⟩:=jh hkl
 have heb:=hT e (List.mem_of_getElem? he)
 grind[pickT]
theorem jaV {T:List Int} {i:Int} {d:Nat} (hT:JN T) (hd:d<18446744073709551616):pickT T i d<18446744073709551616:=by
 by_cases h:0≤i∧0<T.length
 ·obtain⟨k,e,_,_,h3,h4⟩:=JK hT h.1 h.2 d
  have:=hT _ (List.mem_of_getElem? h3)
  omega
 grind[pickT]
theorem pick_no {T:List Int} {i:Int} {d:Nat} (h: ¬(0≤i∧0<T.length)):pickT T i d=d:=if_neg h
theorem jbX {x:jM} {T:List Int} (hx:FActOk x) (hT:JN T):JJ (opA x T):=⟨hx.o.c,jaV hT hx.o.h,jaV hT hx.o.v⟩
section
variable {w0 : World} {F : jb} {x : jM} {T : List Int} {v : Value}
set_option maxHeartbeats 1000000 in
theorem jcf (hx:FActOk x) (hS:Sli w0 F uE v T) (hT:JN T):Call Tryz.prog w0 20 [.agg (acL x).toArray,v] F (fun r H'=>r=opV (opA x T)∧H'=F):=by
 obtain⟨t,⟨c,h,a,b,vv⟩,H,V,wk,k,pt,u⟩:=x
 unfold acL opV opA;dsimp only
 by_cases hl:0<T.length
 ·have hl0:((T.length:Nat):Int)>0:=by omega
  have hl1: ¬((T.length:Nat):Int)=0:=by omega
  by_cases hH:0≤H
  ·have hH':H≥0:=hH
   obtain⟨i,e,i1,i2,i3,i4⟩:=JK hT hH hl h
   have i3':T[((i:Nat):Int).toNat]?=some ((e:Nat):Int):=i3
   rw[i4]
   by_cases hV:0≤V
   ·have hV':V≥0:=hV
    obtain⟨j,f,j1,j2,j3,j4⟩:=JK hT hV hl vv
    have j3':T[((j:Nat):Int).toNat]?=some ((f:Nat):Int):=j3
    rw[j4];refine zfR ?_;intro b2 b4 b5;refine zdP ?_;exact zdO
   ·have hV': ¬V≥0:=hV
    refine zdz ?_;intro b2 b4 b5;refine zdP ?_;exact zaP
  ·have hH': ¬H≥0:=hH
   rw[pick_no (i:=H) (fun q=>hH q.1)]
   by_cases hV:0≤V
   ·have hV':V≥0:=hV
    obtain⟨j,f,j1,j2,j3,j4⟩:=JK hT hV hl vv
    have j3':T[((j:Nat):Int).toNat]?=some ((f:Nat):Int):=j3
    rw[j4];refine zbz ?_;intro b2 b4 b5;exact zdO
   ·have hV': ¬V≥0:=hV
    refine zdz ?_;intro b2 b4 b5;refine zia ?_;exact zaP
 ·have hl0: ¬((T.length:Nat):Int)>0:=by omega
  rw[pick_no (i:=H) (fun q=>hl q.2),pick_no (i:=V) (fun q=>hl q.2)]
  by_cases hH:0≤H
  ·have hH':H≥0:=hH
   by_cases hV:0≤V
   ·have hV':V≥0:=hV
    refine zdI ?_;intro b2 b4 b5;exact zdF
   ·have hV': ¬V≥0:=hV
    refine zdI ?_;intro b2 b4 b5;exact zaP
  ·have hH': ¬H≥0:=hH
   by_cases hV:0≤V
   ·have hV':V≥0:=hV
    refine zbz ?_;intro b2 b4 b5;exact zdF
   ·have hV': ¬V≥0:=hV
    refine zbz ?_;intro b2 b4 b5;exact zaP
end
def faE:Enc jM:=⟨acL,12,fun _=>rfl,by intro x v hv;simp[acL] at hv;rcases hv with rfl|rfl|rfl|rfl|rfl|rfl|rfl|rfl|rfl|rfl|rfl|rfl<;>rfl⟩
section
variable {w0 : World} {F : jb} {v : Value}
def alsoF (rows:List (List Int)) (t:Int) (w:Nat):List (List Int):=if w=0∨t<0∨(rows.length:Nat)≤t then rows else rows.set t.toNat (ofF rows t++ [((w:Nat):Int)])
theorem of_K {A:jb} {rows:List (List Int)} {t:Int} (hR:ToldR w0 F v rows) (hp:Part A F):Call Tryz.prog w0 21 [v, .int .i64 t] A (fun r H'=> ∃ v',Sli w0 F uE v' (ofF rows t)∧r=v'∧H'=A):=by
 obtain⟨hl,ho,ls,h1,h2,h3⟩:=hR
 replace h1:=h1.part hp
 clear hp
 have hN:Sli w0 F uE (.slice none 0 0) []:=fun w hw=>SlW.nil w uE
 unfold ofF
 by_cases ht:t<0
 ·refine zkd ?_;refine zI ?_;refine zc7 ?_;exact zdG
 ·by_cases ht2:((rows.length:Nat):Int)≤t
  ·rw[if_pos (.inr ht2)]
   have ht3:t≥((ls.length:Nat):Int):=by omega
   refine zir ?_;refine zcE ?_;exact zdG
  ·rw[if_neg (by omega)]
   obtain⟨k,rfl⟩: ∃ k:Nat,t=k:=⟨t.toNat,by omega⟩
   obtain⟨⟨la,ln,lc⟩,hlk⟩:=jh (l:=ls) (k:=k) (by omega)
   obtain⟨r,hr⟩:=jh (l:=rows) (k:=k) (by omega)
   have hS:=h3 k _ r hlk hr
   have hlk':ls[((k:Nat):Int).toNat]?=some ⟨la,ln,lc⟩:=hlk
   have ht3: ¬((k:Nat):Int)≥((ls.length:Nat):Int):=by omega
   refine zkc ?_;refine zhm ?_;refine zcU ?_;refine zm ?_;exact zjf
theorem jaN (o:Own) (n:Nat):(oV o n).cells=[oV o n].toArray:=by cases o<;>rfl
theorem jb6 (o:Own) (n:Nat): ∃ x:SlV,oV o n= .slice x.a x.n x.c:=by
 cases o with
 |none=>exact⟨⟨none,0,0⟩,rfl⟩
 |some o=>exact⟨⟨some ⟨o.b,0,none⟩,n,o.c⟩,rfl⟩
set_option maxHeartbeats 1000000 in
theorem jbt {G:jb} {rows:List (List Int)} {t:Int} {w:Nat} (hR:ToldR w0 F v rows) (hb: ∀ r∈rows,r.length≤1000):Call Tryz.prog w0 22 [v, .int .i64 t, .int .u64 (w:Nat)] (F++G) (fun r H'=> ∃ v' D,ToldR w0 (D++F) v' (alsoF rows t w)∧r=v'∧H'=D++(F++G)):=by
 have hR0:=hR
 obtain⟨hl,ho,ls,h1,h2,h3⟩:=hR
 unfold alsoF ofF
 by_cases hw:w=0
 ·rw[if_pos (.inl hw)];subst hw;refine zic ?_;refine zO ?_;refine zcH ?_;exact zdH
 ·have hw': ¬((w:Nat):Int)=0:=by omega
  by_cases ht:t<0
  ·refine zka ?_;refine zgq ?_;exact zdH
  ·by_cases ht2:((rows.length:Nat):Int)≤t
   ·rw[if_pos (.inr (.inr ht2))]
    have ht3:t≥((ls.length:Nat):Int):=by omega
    refine ziq ?_;refine zcE ?_;exact zif
   ·rw[if_neg (by omega),if_neg (by omega)]
    obtain⟨k,rfl⟩: ∃ k:Nat,t=k:=⟨t.toNat,by omega⟩
    obtain⟨⟨la,ln,lc⟩,hlk⟩:=jh (l:=ls) (k:=k) (by omega)
    obtain⟨r,hr⟩:=jh (l:=rows) (k:=k) (by omega)
    have hS:=h3 k _ r hlk hr
    have hlk':ls[((k:Nat):Int).toNat]?=some ⟨la,ln,lc⟩:=hlk
    have ht3: ¬((k:Nat):Int)≥((ls.length:Nat):Int):=by omega
    have hrl:=hb r (List.mem_of_getElem? hr)
    have hll:ls.length≤4294967296:=by omega
    have hrl2:r.length≤4294967296:=by omega
    have hrl3:(r++ [((w:Nat):Int)]).length≤4294967296:=by rw[List.length_append];simp only[List.length_cons,List.length_nil];omega
    refine zkb ?_;refine zcS ?_;refine zfj ?_;refine zfp ?_;intro b21;refine KL.e rfl (Eff.appLit (E:=toldE) (ys:=ls) rfl rfl rfl rfl rfl rfl rfl ju (by first|exact Sli.blk ju rfl (by first|decide|simp) (by first|decide|(unfold maxLen;omega)) rfl|exact Sli.old (by assumption)|exact Sli.own jj (by assumption) jF|assumption|exact Sli.part (by assumption) ja) (by first|assumption|omega|(simp<;>fail)|(simp;omega)) rfl) ?_;rintro _ _ ⟨oa,oka,rfl,rfl⟩;refine zay ?_;refine zar ?_;intro b26;refine zcU ?_;refine KL.e rfl (Eff.appLit (E:=uE) (ys:=r) rfl rfl rfl rfl rfl rfl rfl ju (by first|exact Sli.blk ju rfl (by first|decide|simp) (by first|decide|(unfold maxLen;omega)) rfl|exact Sli.old (by assumption)|exact Sli.own jj (by assumption) jF|assumption|exact Sli.part (by assumption) ja) (by first|assumption|omega|(simp<;>fail)|(simp;omega)) rfl) ?_;rintro _ _ ⟨ob,okb,rfl,rfl⟩;refine zj ?_;refine zar ?_;intro b33;refine KL.e rfl (Eff.appZ (ys:=[_]) rfl rfl rfl rfl rfl rfl jj (by assumption) (by first|exact Sli.blk ju rfl (by first|decide|simp) (by first|decide|(unfold maxLen;omega)) rfl|exact Sli.old (by assumption)|exact Sli.own jj (by assumption) jF|assumption|exact Sli.part (by assumption) ja) rfl (by first|assumption|omega|(simp<;>fail)|(simp;omega)) rfl) ?_;rintro _ _ ⟨o34,ok34,rfl,rfl⟩;refine zcK ?_
    obtain⟨x1,hx1⟩:=jb6 o34 (r++ [((w:Nat):Int)]).length
    refine zjg ?_;refine zeJ ?_
    have hoa:oOk toldE (ls.set k x1) oa:=by
     revert oka
     cases oa with
     |none=>intro e;rw [show ls=[] from e];rfl
     |some o=>
      rintro⟨q1,q2,q3⟩;exact zh1
    have hD:ToldR w0 (oH uE 34 (r++ [((w:Nat):Int)]) o34++(oH toldE 47 (ls.set k x1) oa++F)) (oV oa ls.length) (rows.set k (r++ [((w:Nat):Int)])):=by
     refine⟨by rw[List.length_set];exact hl,jaN _ _,ls.set k x1,Sli.own (by exact jj) hoa (by rw[List.length_set]),by rw[List.length_set,List.length_set];exact h2,fun i l q a b=>?_⟩
     by_cases hi:k=i
     ·subst hi;rw[List.getElem?_set_self (by omega)] at a b
      cases a;cases b
      exact zkm
     ·rw[List.getElem?_set_ne hi] at a b;exact zjh
    exact zji
end
open Go.RowKit
set_option maxRecDepth 10000
def micL:List Nat:=[3,2,1,4,5]
def oneM (C:HpC) (h:HpP) (w:Nat):List Nat→Option HpP
 | []=>none
 |u::l=>if (hpStep C h (w:Nat) (u:Nat)).1=true then some (hpStep C h (w:Nat) (u:Nat)).2 else oneM C h w l
def oneW (C:HpC) (h:HpP):Nat→Nat→Option HpP
 |0,_=>none
 |r+1,w=>match oneM C h w micL with
  |some h'=>some h'
  |none=>oneW C h r (w+1)
def oneT (c:Cfg):List HpP→Nat→Option (Nat × HpP)
 | [],_=>none
 |h::l,t=>match oneW (hC1 c t) h c.workers.toNat 0 with
  |some h'=>some (t,h')
  |none=>oneT c l (t+1)
def faRest (c:Cfg):Nat→List HpP→Nat × List HpP
 |0,hs=>(0,hs)
 |m+1,hs=>match oneT c hs 0 with
  |some (t,h')=>((faRest c m (hs.set t h')).1+1,(faRest c m (hs.set t h')).2)
  |none=>(0,hs)
section
variable {C : HpC} {c : Cfg} {h h' : HpP} {hs : List HpP} {k u : Int} {m t : Nat}
theorem jcm (hf:(hpStep C h k u).1=false):(hpStep C h k u).2=h:=by
 grind[hpStep,stepC]
theorem jbm (h:oneT c hs 0=none):faRest c m hs=(0,hs):=by
 cases m with
 |zero=>rfl
 |succ m=>grind[faRest]
theorem jbB (h:oneT c hs 0=some (t,h')):faRest c (m+1) hs=((faRest c m (hs.set t h')).1+1,(faRest c m (hs.set t h')).2):=by
 grind[oneT,faRest]
end
end Go.Proofs.YtebiafomiemgbaaGreatDoor.Sw
namespace Go.Proofs.YtebiafomiemgbaaGreatDoor
open Go.RowKit
section
variable {P : Program} {w0 : World} {ro : Option Nat} {n : Nat} {Q : Exit → Act → World → Prop} {ds : List Deferred} {m : jk} {H : jb}
theorem Je {b:Frame} {a:Act} {k:List Item} {cs:List Frame} {w:World} {c:Code}:step P (lone (b.atR a (.code (.scope c)::k)) cs w)= .next (lone (b.atR a (.code c:: .inScope c::k)) cs w):=
 step_lone_go (by rfl)
theorem jch {b:Frame} {a:Act} {k:List Item} {cs:List Frame} {w:World} {c:Code}:step P (lone (b.atR a (.inScope c::k)) cs w)= .next (lone (b.atR a k) cs w):=
 step_lone_go (by rfl)
theorem jci {F:Fence} {n:Nat} {a:Act} {w:World} {c:Code} (h:c.wpIn F n P (Exit.noGoto Q) a w):(Code.scope c).wpIn F n P Q a w:=by
 intro b k cs hro hb hr
 have h0:(lone (b.atR a (.code (.scope c)::k)) cs w).fenced P F:=fenced_calm hb hr rfl
 obtain⟨e,a₁,w₁,hq,harr⟩:=h b (.inScope c::k) cs hro hb hr
 cases e with
 |normal=>exact⟨.normal,a₁,w₁,hq, .head h0 Je (StepsIn.trans harr (.one (fenced_calm hb hr rfl) jch))⟩
 |exit id=>
  have hx:exitTo id (.inScope c::k)=exitTo id k:=by rfl
  exact⟨.exit id,a₁,w₁,hq,fun k' hk=> .head h0 Je (harr.1 k' (by grind)),
   fun hr' hk=>let ⟨k₁,h1,h2⟩:=harr.2 hr' (by grind);⟨k₁,h1, .head h0 Je h2⟩⟩
 |goto l=>exact hq.elim
 |ret=>exact⟨_,a₁,w₁,hq, .of_steps (.one h0 Je) harr⟩
 |panic ch=>exact⟨_,a₁,w₁,hq, .of_steps (.one h0 Je) harr⟩
 |outgrown=>exact⟨_,a₁,w₁,hq, .of_steps (.one h0 Je) harr⟩
theorem K.scope {c:Code} (h:K P w0 ro n c (Exit.noGoto Q) ds m H):K P w0 ro n (.scope c) Q ds m H:=⟨fun a w ha hw=>jci (h.out a w ha hw)⟩
theorem K.label {l:Nat} (h:KE w0 n .normal Q ds m H):K P w0 ro n (.label l) Q ds m H:=⟨fun a w ha hw=>wpIn_label (h.out a w ha hw)⟩
theorem KE.scR (h:KE w0 n .ret Q ds m H):KE w0 n .ret (Exit.noGoto Q) ds m H:=⟨fun a w ha hw=>h.out a w ha hw⟩
end
end Go.Proofs.YtebiafomiemgbaaGreatDoor
namespace Go.Proofs.YtebiafomiemgbaaGreatDoor.Sw
open Go.Proofs.YtebiafomiemgbaaGreatDoor renaming lo → qL, hi → qH
open Go.RowKit
set_option maxRecDepth 10000
structure FaO where
 n:Nat
 f:FmM
section
variable {w0 : World} {f : FmM} {F : jb} {nf t : Nat} {q : TnM}
theorem setsame {α:Type} {l:List α} {i:Nat} {x:α} (h:l[i]?=some x):l.set i x=l:=by
 obtain⟨hl,e⟩:=List.getElem?_eq_some_iff.1 h
 rw[←e];simp
theorem fmRest_K {many:Int} (hG:ji w0) (ok:FmOk f nf) (hf:nf≤900000) (hm:many≤1000000):Call Tryz.prog w0 23 [.pointer (some ⟨f.b,0,none⟩), .int .i64 many] (fmH f++F)
  (fun r H'=>r= .int .i64 ((faRest f.c many.toNat f.hs).1:Nat)∧ ∃ f',FmOk f' nf∧FmTo f f'∧f'.hs=(faRest f.c many.toNat f.hs).2∧H'=fmH f'++F):=by
 have hcw:=(Jf ok.cfg).workers
 have hct:=(Jf ok.cfg).tn
 refine zhH ?_;refine zjj ?_;rintro⟨n,f1⟩ ⟨ok1,to1,hn,he⟩;dsimp only at ok1 to1 hn he⊢
 have hten:=fun A=>jaU (w0:=w0) (F:=A) ok1
 simp only[to1.b,to1.c] at hten
 have hl1:=jcv ok1
 rw[to1.c] at hl1
 by_cases hlt:((n:Nat):Int)<many
 ·obtain⟨d,hd⟩: ∃ d,many.toNat-n=d+1:=⟨many.toNat-n-1,by omega⟩
  have hd1:many.toNat-(n+1)=d:=by omega
  rw[hd] at he;refine zhz ?_;refine zn ?_;refine zjk ?_;refine zbj ?_;refine zjl ?_;rintro⟨t,f2⟩ ⟨ok2,to2,hs2,ht,hT⟩;dsimp only at ok2 to2 hs2 ht hT⊢
  by_cases htl:((t:Nat):Int)<((f.c.tn.length:Nat):Int)
  ·obtain⟨q,hq,hk⟩:=ok2.at_ (t:=t) (by rw[to2.c];omega)
   have hdr:f1.hs.drop t=q.h::f1.hs.drop (t+1):=by
    have hh:=ok2.hs_at hq
    rw[hs2] at hh
    obtain⟨hl,e⟩:=List.getElem?_eq_some_iff.1 hh
    rw[List.drop_eq_getElem_cons hl,e]
   obtain⟨h0,hh0⟩: ∃ h0,q.h=h0:=⟨_,rfl⟩
   rw[hh0] at hdr
   have hat:f1.hs[t]?=some h0:=by rw[←hs2,ok2.hs_at hq,hh0]
   clear hk hq hh0 q;refine zj6 ?_;refine zeM ?_;refine zby ?_;refine zbj ?_;refine zjm ?_;rintro⟨w,f3⟩ ⟨ok3,to3,hs3,hw,hW⟩;dsimp only at ok3 to3 hs3 hw hW⊢
   by_cases hwl:((w:Nat):Int)<f.c.workers
   ·obtain⟨r,hr⟩: ∃ r,f.c.workers.toNat-w=r+1:=⟨f.c.workers.toNat-w-1,by omega⟩
    rw[hr] at hW;refine zeB ?_;refine ziH ?_;refine zjn ?_;rintro⟨j,f4⟩ ⟨ok4,to4,hs4,hj,hM⟩;dsimp only at ok4 to4 hs4 hj hM⊢
    by_cases hjl:((j:Nat):Int)<5
    ·obtain⟨u,hu,hu2,hML⟩: ∃ u:Nat,([.int .u8 3, .int .u8 2, .int .u8 1, .int .u8 4, .int .u8 5]:List Value)[((j:Nat):Int).toNat]?=some (.int .u8 (u:Nat))∧u<256∧micL.drop j=u::micL.drop (j+1):=by
      have h5:j=0∨j=1∨j=2∨j=3∨j=4:=by omega
      rcases h5 with rfl|rfl|rfl|rfl|rfl
      ·exact zjo
      ·exact zjp
      ·exact zjq
      ·exact zjr
      ·exact zjs
     obtain⟨q,hq,hk⟩:=ok4.at_ (t:=t) (by rw[to4.c];omega)
     have hst:=fun A=>jd7 (w0:=w0) (F:=A) (k:=(w:Nat)) (u:=u) hG ok4 hq hf hu2
     have hqh:q.h=h0:=by
      have h:=ok4.hs_at hq
      grind
     rw[ok4.C1 hq,to4.c,hqh,to4.b] at hst;simp only[pkV] at hst
     have hcons:oneM (hC1 f.c t) h0 w micL=if (hpStep (hC1 f.c t) h0 (w:Nat) (u:Nat)).1=true then some (hpStep (hC1 f.c t) h0 (w:Nat) (u:Nat)).2 else oneM (hC1 f.c t) h0 w (micL.drop (j+1)):=by rw[hM,hML];rfl
     cases hb:(hpStep (hC1 f.c t) h0 (w:Nat) (u:Nat)).1 with
     |true=>
      rw[hb] at hst hcons;rw[if_pos rfl] at hcons
      have hW2:oneW (hC1 f.c t) h0 f.c.workers.toNat 0=some (hpStep (hC1 f.c t) h0 (w:Nat) (u:Nat)).2:=by
       rw[hW]
       show(match oneM (hC1 f.c t) h0 w micL with|some h'=>some h'|none=>_)=_
       grind
      have hT2:oneT f.c f1.hs 0=some (t,(hpStep (hC1 f.c t) h0 (w:Nat) (u:Nat)).2):=by
       rw[hT,hdr]
       show(match oneW (hC1 f.c t) h0 f.c.workers.toNat 0 with|some h'=>some (t,h')|none=>_)=_
       grind
      refine zdE ?_;rintro _ _ ⟨rfl,f5,h5,rfl⟩;refine zko ?_
      have he5:faRest f.c many.toNat f.hs=((faRest f.c d f5.hs).1+(n+1),(faRest f.c d f5.hs).2):=by
       rw[he,h5.hs,hs4]
       grind[jbB]
      exact zjt
     |false=>
      rw[hb] at hst hcons;rw[jcm hb] at hst;rw[if_neg (by decide)] at hcons;refine zdE ?_;rintro _ _ ⟨rfl,f5,h5,rfl⟩;exact zkn
    ·have hMn:oneM (hC1 f.c t) h0 w micL=none:=by rw[hM,List.drop_eq_nil_of_le (by show 5≤j;omega)];rfl
     have hW2:oneW (hC1 f.c t) h0 f.c.workers.toNat 0=oneW (hC1 f.c t) h0 (f.c.workers.toNat-(w+1)) (w+1):=by
      rw[hW,show f.c.workers.toNat-(w+1)=r by omega]
      show(match oneM (hC1 f.c t) h0 w micL with|some h'=>some h'|none=>_)=_
      grind
     exact zkr
   ·have hWn:oneW (hC1 f.c t) h0 f.c.workers.toNat 0=none:=by rw[hW,show f.c.workers.toNat-w=0 by omega];rfl
    have hT2:oneT f.c f1.hs 0=oneT f.c (f1.hs.drop (t+1)) (t+1):=by
     rw[hT,hdr]
     show(match oneW (hC1 f.c t) h0 f.c.workers.toNat 0 with|some h'=>some (t,h')|none=>_)=_
     grind
    refine zip ?_;exact zju
  ·have hnone:oneT f.c f1.hs 0=none:=by rw[hT,List.drop_eq_nil_of_le (by omega)];rfl
   have he':faRest f.c many.toNat f.hs=(n,f1.hs):=by grind[jbm]
   refine zhp ?_;exact zjv
 ·have hd:many.toNat-n=0:=by omega
  rw[hd] at he
  have he':faRest f.c many.toNat f.hs=(n,f1.hs):=by rw[he];show(0+n,f1.hs)=_;grind
  refine zgy ?_;refine zij ?_;exact zjw
end
set_option maxRecDepth 10000
section
variable {c o : Cfg} {t j : Nat} {hs hs' : List HpP} {i k : Int} {u : Nat} {op : OpP} {h : HpP}
theorem TnE.stepR (e:TnE c o t hs hs'):TnE c o t hs (faStep o hs' k i u).2:=e.symm.stepL.symm
end
open Go.RowKit
set_option maxRecDepth 10000
section
variable {w0 : World} {f : FmM} {F : jb} {nf t : Nat} {q : TnM} {i : Int}
theorem fmRest_A {many:Int} (hG:ji w0) (ok:FmOk f nf) (hf:nf≤900000) (hm:many≤1000000):Call Tryz.prog w0 23 [.pointer (some ⟨f.b,0,none⟩), .int .i64 many] (fmH f++F)
  (fun r H'=>r= .int .i64 ((faRest f.c many.toNat f.hs).1:Nat)∧ ∃ f',FmA f nf (faRest f.c many.toNat f.hs).2 f'∧H'=fmH f'++F):=by
 refine zjx ?_;rintro _ _ ⟨rfl,f',h1,h2,h3,rfl⟩;exact zjy
end
set_option maxRecDepth 100000
def fx0:List HpP:=newHs fxC
def fx1:List HpP:=(faDo fxC fx0 0 ⟨1,0,0,1,0⟩).2
def fx2:List HpP:=(faDo fxC fx1 1 ⟨1,0,0,1,0⟩).2
def fx3:List HpP:=(faDo fxC fx2 2 ⟨1,0,0,1,0⟩).2
def fx4:List HpP:=(faStep fxC fx3 0 1 1).2
def fx5:List HpP:=(faStep fxC fx4 1 1 1).2
def fx6:List HpP:=(faStep fxC fx5 0 0 1).2
def fx7:List HpP:=(faStep fxC fx6 0 2 1).2
def fx8:List HpP:=(faRest fxC 1000 fx7).2
def fx9:List HpP:=(faRest fxC 1000 fx8).2
theorem fx_a:(faDo fxC fx0 0 ⟨1,0,0,1,0⟩).1=(⟨0,1,0,0,2,2,0,false⟩,0):=by rfl
theorem fx_b:(faDo fxC fx1 1 ⟨1,0,0,1,0⟩).1=(⟨0,72057594037927937,0,0,2,0,0,true⟩,0):=by rfl
theorem fx_g:(faDo fxC fx2 2 ⟨1,0,0,1,0⟩).1=(told 0,2):=by rfl
theorem fx_h:(faStep fxC fx3 0 1 1).1=true:=by rfl
theorem fx_i:(faStep fxC fx4 1 1 1).1=false:=by rfl
theorem fx_j:(faStep fxC fx5 0 0 1).1=false:=by rfl
theorem fx_k:(faStep fxC fx6 0 2 1).1=false:=by rfl
theorem fx_n:(faRest fxC 1000 fx7).1=8:=by rfl
theorem fx_m:(faRest fxC 1000 fx8).1=0:=by rfl
theorem fx_l:(faDo fxC fx9 1 ⟨6,72057594037927937,0,0,0⟩).1=(⟨0,0,0,0,2,0,0,true⟩,0):=by rfl
section
variable {w0 : World} {F : jb} {b nf : Nat} {c : Cfg} {hs hs' : List HpP} {f : FmM} {i : Int}
theorem zRest {many:Int} {n:Nat} (hG:ji w0) (z:FmZ b c hs nf f) (hf:nf≤900000) (hm:many≤1000000) (h1:(faRest c many.toNat hs).1=n) (h2:(faRest c many.toNat hs).2=hs'):Call Tryz.prog w0 23 [.pointer (some ⟨b,0,none⟩), .int .i64 many] (fmH f++F)
  (fun r H'=>r= .int .i64 (n:Nat)∧ ∃ f',FmZ b c hs' nf f'∧H'=fmH f'++F):=by
 obtain⟨ok,rfl,rfl,rfl⟩:=z
 subst h1 h2;refine zjz ?_;rintro _ _ ⟨rfl,f',a,rfl⟩;exact zgX
theorem zTenants (z:FmZ b c hs nf f):Call Tryz.prog w0 31 [.pointer (some ⟨b,0,none⟩)] (fmH f++F) (fun r H'=>r= .int .i64 (c.tn.length:Nat)∧H'=fmH f++F):=by
 obtain⟨ok,rfl,rfl,rfl⟩:=z
 exact jaU ok
theorem jcC (hG:ji w0) (b1 b2:Nat):Call Tryz.prog w0 17 [jr fxC (.slice (some ⟨b1,0,none⟩) 2 2) (.slice (some ⟨b2,0,none⟩) 2 2)] ((b2,cells (jx tnE fxC.tn) 55)::(b1,cells [.int .i64 2, .int .i64 4] 3)::F) (fun r H'=> ∃ b f,FmZ b fxC fx0 1 f∧r= .tuple [.pointer (some ⟨b,0,none⟩), .int .i64 0].toArray∧H'=fmH f++((b2,cells (jx tnE fxC.tn) 55)::(b1,cells [.int .i64 2, .int .i64 4] 3)::F)):=by
 have hC:Sli w0 [(b1,cells [.int .i64 2, .int .i64 4] 3)] iE (.slice (some ⟨b1,0,none⟩) 2 2) fxC.cl:=Sli.blk jI.head rfl (by decide) (by decide) rfl
 have hT:Sli w0 [(b2,cells (jx tnE fxC.tn) 55)] tnE (.slice (some ⟨b2,0,none⟩) 2 2) fxC.tn:=Sli.blk jI.head rfl (by decide) (by decide) rfl
 exact zjA
set_option maxHeartbeats 4000000 in
theorem jcp (hG:ji w0):Call Tryz.prog w0 16 [] F (fun r H'=>r= .bool true∧H'=F):=by
 have hn:=fun A b1 b2=>jcC (w0:=w0) (F:=A) hG b1 b2
 have ho: ∀ (c h:Nat) (a b:Int) (v:Nat),c<256→h<18446744073709551616→v<18446744073709551616→JJ ⟨c,h,a,b,v⟩:=fun c h a b v h1 h2 h3=>⟨h1,h2,h3⟩
 unfold jr jG at hn;refine zjB ?_;refine zeT ?_;intro b18 b21;rintro _ _ ⟨b,f0,z0,rfl,rfl⟩;refine zeR ?_;refine zd1 ?_;refine zdU ?_;refine zjC ?_;rintro _ _ ⟨rfl,f1,z1,rfl⟩;refine zbt ?_;intro b3;refine zjD ?_;rintro _ _ ⟨rfl,f2,z2,rfl⟩;refine zbt ?_;intro b5;refine zjE ?_;rintro _ _ ⟨rfl,f3,z3,rfl⟩;refine zbt ?_;intro b7;refine zjF ?_;rintro _ _ ⟨rfl,f4,z4,rfl⟩;refine zaN ?_;refine zjG ?_;rintro _ _ ⟨rfl,f5,z5,rfl⟩;refine zaN ?_;refine zjH ?_;rintro _ _ ⟨rfl,f6,z6,rfl⟩;refine zaN ?_;refine zjI ?_;rintro _ _ ⟨rfl,f7,z7,rfl⟩;refine zch ?_;refine zjJ ?_;rintro _ _ ⟨rfl,f8,z8,rfl⟩;refine zn ?_;refine zjK ?_;rintro _ _ ⟨rfl,f9,z9,rfl⟩;refine zt ?_;refine zaN ?_;refine zjL ?_;rintro _ _ ⟨rfl,f10,z10,rfl⟩;refine zey ?_;intro b15;refine zjM ?_;refine zgT ?_;refine zd4 ?_;refine zik ?_;refine zdM ?_;refine zbB ?_;refine zie ?_;refine za1 ?_;refine za1 ?_;refine za1 ?_;refine zbB ?_;refine zbB ?_;refine zdM ?_;exact zbO
end
open Go.RowKit
set_option maxRecDepth 10000
section
variable {C : HpC} {h h' : HpP} {op : OpP}
theorem jcw (hC:HpCk C) (hI:HeI C h):(jS C h op).1.h<18446744073709551616:=by
 by_cases h0:(jS C h op).1.h=0
 ·omega
 ·exact zjO
end
section
variable {w0 : World} {F : jb} {rows : List (List Int)} {i w b nf : Nat} {t j : Int} {c : Cfg} {hs : List HpP} {f : FmM} {op : OpP} {x : jM}
theorem Jb.also (h:Jb rows i) (hw:w<18446744073709551616):Jb (alsoF rows t w) (i+1):=by
 unfold alsoF
 split
 ·exact h.mono (by omega)
 ·refine⟨fun r hr=>?_⟩
  rcases List.mem_or_eq_of_mem_set hr with hr|rfl
  ·exact zjP
  ·refine⟨fun x hx=>?_,?_⟩
   ·rcases List.mem_append.1 hx with hx|hx
    ·exact h.of x hx
    grind
   ·have:(ofF rows t).length≤i:=by
     unfold ofF
     split
     ·omega
     ·cases hr:rows[t.toNat]? with
      |none=>grind
      |some r=>exact(h.r r (List.mem_of_getElem? hr)).2
    grind
theorem FmZ.hlt (z:FmZ b c hs nf f):(faDo c hs j op).1.1.h<18446744073709551616:=by
 rcases fa_cases hs j with⟨t,h,rfl,h1⟩|h1
 ·rw[JO h1]
  obtain⟨a,b⟩:=z.I h1
  exact jcw a b
 ·rw[jao h1];show(0:Nat)<_;decide
theorem jb2 {o:Own} {n:Nat} (ok:oOk toldE (List.replicate n ⟨none,0,0⟩) o) (hn:n≤8):ToldR w0 (oH toldE 47 (List.replicate n ⟨none,0,0⟩) o++F) (oV o n) (List.replicate n []):=by
 refine⟨by grind,jaN _ _,List.replicate n ⟨none,0,0⟩,Sli.own (by exact jj) ok (by grind),by grind,fun i l r a b=>?_⟩
 obtain rfl:=List.eq_of_mem_replicate (List.mem_of_getElem? a)
 obtain rfl:=List.eq_of_mem_replicate (List.mem_of_getElem? b)
 exact zjQ
theorem Jv.stepR {o:Cfg} {hs':List HpP} {k i:Int} {u:Nat} (e:Jv c o hs hs'):Jv c o hs (faStep o hs' k i u).2:=⟨e.len,jev.trans e.len',fun t ht=>(e.t t ht).stepR⟩
end
open Go.RowKit
set_option maxRecDepth 10000
structure FsC where
 b:Nat
open Go.RowKit Go.ChangeShapes Go.WideShapes Go.ChangeAt Go.Deep Go.Joins
set_option maxRecDepth 100000
section
variable {H : Type} {enc : TypeId × Value → H} {W : World}
theorem jiN {fuel:Nat} {cs:List Value} {x:DataW H × List MemPlace} (hx:DataW.trod enc Tryz.prog W 0 (fun _=>true) true fuel 38 cs=some x) (hlen:cs.length=3): ∃ y:PkP,cs=[.int .i64 y.k, .int .i64 y.t, .int .u8 (y.u:Nat)]∧y.u<256:=by
 obtain⟨c0,c1,c2,rfl⟩: ∃ c0 c1 c2,cs=[c0,c1,c2]:=by
  match cs,hlen with
  | [c0,c1,c2],_=>grind
 obtain⟨xs,n,_,rfl,hl,hxl,hf⟩:=DataW.trod_struct Tryz.underlying38 hx
 have k8:(Tryz.prog).cellsOf 5=1:=by rfl
 have ki:(Tryz.prog).cellsOf 3=1:=by rfl
 match xs,hxl with
 | [y0,y1,y2],_=>
  have h0:=hf 0 _ rfl
  have h1:=hf 1 _ rfl
  have h2:=hf 2 _ rfl
  obtain⟨a0,e0,-,w0⟩:=DataW.trod_int Tryz.underlying3 (by simpa [k8,ki] using h0)
  obtain⟨a1,e1,-,w1⟩:=DataW.trod_int Tryz.underlying3 (by simpa [k8,ki] using h1)
  obtain⟨a2,e2,-,w2⟩:=DataW.trod_int Tryz.underlying5 (by simpa [k8,ki] using h2)
  simp at e0 e1 e2
  have hu:=jfG w2
  unfold u8ok at hu
  obtain⟨n2,rfl⟩: ∃ n2:Nat,a2=n2:=⟨a2.toNat,by omega⟩
  subst e0 e1 e2;exact⟨⟨a0,a1,n2⟩,rfl,(by show n2<256;omega)⟩
end
set_option maxRecDepth 10000
open Go.RowKit
set_option maxRecDepth 10000
def sumF (f:Nat→Nat):Nat→Nat
 |0=>0
 |n+1=>sumF f n+f n
section
variable {P : HpC → HpP → Prop} {c : Cfg} {hs : List HpP} {h h' : HpP} {t j w r : Nat} {k i : Int} {u : Nat} {op : OpP} {C : HpC}
theorem jkp: ∀ {l:List Nat},oneM C h w l=some h'→ ∃ u,u∈l∧(hpStep C h (w:Nat) (u:Nat)).1=true∧(hpStep C h (w:Nat) (u:Nat)).2=h'
 | [],e=>by cases e
 |u::l,e=>by
  unfold oneM at e
  split at e
  ·grind
  ·obtain⟨v,a,b⟩:=jkp e
   grind
theorem jkq: ∀ {l:List Nat},oneM C h w l=none→ ∀ u,u∈l→(hpStep C h (w:Nat) (u:Nat)).1=false
 | [],_,u,hu=>by grind
 |v::l,e,u,hu=>by
  unfold oneM at e
  split at e
  ·grind
  ·rename_i h1
   rcases List.mem_cons.1 hu with rfl|hu
   ·grind
   ·exact jkq e u hu
theorem jkl: ∀ {r w:Nat},oneW C h r w=some h'→ ∃ k u,(hpStep C h ((k:Nat):Int) ((u:Nat):Int)).1=true∧(hpStep C h ((k:Nat):Int) ((u:Nat):Int)).2=h'
 |0,_,e=>by cases e
 |r+1,w,e=>by
  unfold oneW at e
  cases hm:oneM C h w micL with
  |some x=>
   grind[jkp]
  |none=>rw [hm] at e;exact jkl e
theorem jkm: ∀ {r w:Nat},oneW C h r w=none→ ∀ k u:Nat,w≤k→k<w+r→u∈micL→(hpStep C h (k:Nat) (u:Nat)).1=false
 |0,w,_,k,u,h1,h2,_=>by omega
 |r+1,w,e,k,u,h1,h2,hu=>by
  unfold oneW at e
  cases hm:oneM C h w micL with
  |some x=>grind
  |none=>
   rw[hm] at e
   by_cases hk:k=w
   ·grind[jkq]
   ·exact jkm (r:=r) (w:=w+1) e k u (by omega) (by omega) hu
theorem jkn: ∀ {hs:List HpP} {t0:Nat},oneT c hs t0=some (t,h')→ ∃ (j:Nat) (x:HpP) (k u:Nat),t=t0+j∧hs[j]?=some x∧(hpStep (hC1 c t) x (k:Nat) (u:Nat)).1=true∧(hpStep (hC1 c t) x (k:Nat) (u:Nat)).2=h'
 | [],_,e=>by cases e
 |x::l,t0,e=>by
  unfold oneT at e
  cases hw:oneW (hC1 c t0) x c.workers.toNat 0 with
  |some y=>
   rw[hw] at e
   cases e
   grind[jkl]
  |none=>
   rw[hw] at e
   obtain⟨j,y,k,u,a,b,d⟩:=jkn e
   exact⟨j+1,y,k,u,by omega,by grind,d⟩
theorem jko: ∀ {hs:List HpP} {t0:Nat},oneT c hs t0=none→ ∀ (j:Nat) (x:HpP),hs[j]?=some x→ ∀ k u:Nat,k<c.workers.toNat→u∈micL→(hpStep (hC1 c (t0+j)) x (k:Nat) (u:Nat)).1=false
 | [],_,_,j,x,hx,_,_,_,_=>by grind
 |y::l,t0,e,j,x,hx,k,u,hk,hu=>by
  unfold oneT at e
  cases hw:oneW (hC1 c t0) y c.workers.toNat 0 with
  |some z=>grind
  |none=>
   rw[hw] at e
   cases j with
   |zero=>grind[jkm]
   |succ j=>
    rw[List.getElem?_cons_succ] at hx
    have:=jko e j x hx k u hk hu
    grind
theorem jiD (e:oneT c hs 0=some (t,h')): ∃ (x:HpP) (k u:Nat),hs[t]?=some x∧(hpStep (hC1 c t) x (k:Nat) (u:Nat)).1=true∧(hpStep (hC1 c t) x (k:Nat) (u:Nat)).2=h'∧hs.set t h'=(faStep c hs (k:Nat) (t:Nat) u).2:=by
 grind[jkn,jdc]
theorem jhS {I:List HpP→Prop} (step: ∀ (hs:List HpP) (k t:Int) (u:Nat),I hs→I (faStep c hs k t u).2): ∀ (m:Nat) (hs:List HpP),I hs→I (faRest c m hs).2
 |0,_,h=>h
 |m+1,hs,h=>by
  cases ho:oneT c hs 0 with
  |none=>grind[jbm]
  |some p=>
   obtain⟨t,h'⟩:=p
   rw[jbB ho]
   obtain⟨x,k,u,_,_,_,e⟩:=jiD ho
   rw[e];exact jhS step m _ (step _ _ _ _ h)
theorem jjI {f g:Nat→Nat}: ∀ {n:Nat},(∀ t,t<n→f t=g t)→sumF f n=sumF g n
 |0,_=>rfl
 |n+1,h=>by
  show sumF f n+f n=sumF g n+g n
  rw[jjI fun t ht=>h t (by omega),h n (by omega)]
theorem sumF_lt {f g:Nat→Nat} {j:Nat}: ∀ {n:Nat},j<n→f j<g j→(∀ t,t≠j→f t=g t)→sumF f n<sumF g n
 |0,hj,_,_=>by omega
 |n+1,hj,h1,h2=>by
  show sumF f n+f n<sumF g n+g n
  by_cases e:j=n
  ·grind[jjI,h2]
  ·have:=sumF_lt (n:=n) (by omega) h1 h2
   grind
theorem sumF_le {f g:Nat→Nat} {a b:Nat}: ∀ {n:Nat},(∀ t,t<n→f t≤a*g t+b)→sumF f n≤a*sumF g n+b*n
 |0,_=>Nat.zero_le _
 |n+1,h=>by
  have h1:=sumF_le (n:=n) fun t ht=>h t (by omega)
  have h2:=h n (by omega)
  show sumF f n+f n≤a*(sumF g n+g n)+b*(n+1)
  grind
theorem jj4 {g:Nat→Nat} {G:Nat→Int}: ∀ {n:Nat},(∀ t,t<n→((g t:Nat):Int)=G t)→((sumF g n:Nat):Int)=Jq G n
 |0,_=>rfl
 |n+1,h=>by
  have h1:=jj4 (n:=n) fun t ht=>h t (by omega)
  grind[sumF,Jq]
def mesAt (c:Cfg) (hs:List HpP) (t:Nat):Nat:=match hs[t]? with
 |some h=>Jo (hC1 c t).g h.s
 |none=>0
def mesS (c:Cfg) (hs:List HpP):Nat:=sumF (mesAt c hs) hs.length
theorem mesS_step (a:jaF WkI c hs) (e:oneT c hs 0=some (t,h')):mesS c (hs.set t h')<mesS c hs:=by
 obtain⟨x,k,u,b,d1,d2,_⟩:=jiD e
 obtain⟨ck,hI,_⟩:=a.t t x b
 have hlt:Jo (hC1 c t).g h'.s<Jo (hC1 c t).g x.s:=by
  unfold hpStep at d1 d2
  split at d1
  ·rename_i hk
   rw[if_pos hk] at d2
   cases hs':stepC (hC1 c t).g (hC1 c t).long (hC1 c t).nw x.s (k:Nat) (u:Nat) with
   |none=>grind
   |some s'=>
    rw[hs'] at d2;rw[←d2];exact jk0 ck.g hI.ok hs'
  grind
 have hl:=jv b
 unfold mesS;rw[List.length_set]
 refine sumF_lt (j:=t) hl ?_ fun q hq=>?_
 ·grind[mesAt]
 grind[mesAt]
theorem WkI.newK {C:HpC}:WkI C (jbe C):=⟨fun q=>absurd rfl q⟩
theorem jk7: ∀ (m:Nat) (hs:List HpP),jaF WkI c hs→mesS c hs<m→oneT c (faRest c m hs).2 0=none
 |0,hs,_,h=>by omega
 |m+1,hs,a,h=>by
  cases ho:oneT c hs 0 with
  |none=>grind[jbm]
  |some p=>
   obtain⟨t,h'⟩:=p
   rw[jbB ho]
   have h1:=mesS_step a ho
   obtain⟨x,k,u,_,_,_,e⟩:=jiD ho
   exact jk7 m _ (by rw[e];exact a.step jcb.wk) (by omega)
theorem okF_all (h:okF c=true):(totalP c).1≤2000∧ ∀ x,x∈c.tn→x.caps≤60:=by
 grind[okF,je3]
theorem wordsP_at (hc:jz c=true) (ht:t<c.tn.length):(((hC1 c t).g.words:Nat):Int)=wordsP c ((t:Nat):Int):=by
 have hcfg:=Jf hc
 have hth:JB c t 0=true:=jcH (i:=t) (j:=0) hc ht (by have:=hcfg.cl;omega)
 have h1:=(g_at hth).region
 have h3:ja4 c ((t:Nat):Int)=(wordsP c ((t:Nat):Int),0):=by grind[ja4]
 rw[h3] at h1;exact(Prod.mk.inj h1).1.symm
theorem mesS_le (hok:okF c=true) (a:jaF WkI c hs):mesS c hs<200000:=by
 have hc:=okF_cfg hok
 obtain⟨h1,h2⟩:=okF_all hok
 have hcfg:=Jf hc
 have ht8:=hcfg.tn
 have hW:=jj4 (g:=fun t=>(hC1 c t).g.words) (G:=fun t=>wordsP c ((t:Nat):Int)) (n:=c.tn.length) fun t ht=>wordsP_at hc ht
 have htot:(totalP c).1=Jq (fun t=>wordsP c ((t:Nat):Int)) c.tn.length:=by grind[totalP]
 rw[←hW] at htot
 have hm:mesS c hs≤19*sumF (fun t=>(hC1 c t).g.words) c.tn.length+61*c.tn.length:=by
  unfold mesS;rw[a.len]
  refine sumF_le fun t ht=>?_
  obtain⟨x,hx⟩:=jh (l:=hs) (k:=t) (by rw[a.len];omega)
  obtain⟨ck,hI,hw⟩:=a.t t x hx
  unfold mesAt;rw[hx];dsimp only
  have hsw:=jjw ck.g
  obtain⟨y,hy⟩:=jh (l:=c.tn) (k:=t) ht
  have hy60:=h2 y (List.mem_of_getElem? hy)
  have hcaps:(hC1 c t).caps≤60:=by
   unfold hC1;rw[hy]
   show y.caps.toNat≤60
   omega
  by_cases h0:x.s.ph=0
  ·grind[jiF]
  ·have:=hw.c h0
   grind[costK]
 omega
theorem rest_step (hl:hs.length=c.tn.length) (e:oneT c hs 0=none):(faStep c hs k i u).1=false:=by
 rcases fa_cases hs i with⟨j,h,rfl,h1⟩|h1
 ·rw[jdc h1];dsimp only
  have h2:=jko e j h h1
  rw[Nat.zero_add] at h2
  by_cases hu:u∈micL
  ·by_cases hk:0≤k∧k<((hC1 c j).nw:Nat)
   ·obtain⟨n,rfl⟩: ∃ n:Nat,k=n:=⟨k.toNat,by omega⟩
    exact h2 n u (by have e2:(hC1 c j).nw=c.workers.toNat:=rfl;omega) hu
   grind[hpStep]
  grind[micL,hpStep,stepC,hC1,j0,jay]
 ·rw[jds h1]
theorem UsI.newK {C:HpC}:UsI C (jbe C):=by
 unfold UsI
 show usedL _ (List.replicate _ false)≤_
 grind[jgB]
end
open Go.RowKit
set_option maxRecDepth 10000
section
variable {w0 : World} {H : jb}
theorem jhb:Call Tryz.prog w0 53 [.pointer none] H (fun r H'=>r= .bool true∧H'=H):=by
 refine zqU ?_;refine zpE ?_;refine zcD ?_;exact zbO
theorem nDo_K {i:Int} {op:OpP}:Call Tryz.prog w0 19 [.pointer none, .int .i64 i,opV op] H (fun r H'=>r= .tuple [snV (told 0), .int .i64 1].toArray∧H'=H):=by
 unfold opV snV told;dsimp only;refine zoZ ?_;refine zbc ?_;intro b5 b6;refine ze2 ?_;refine jp jhb ?_;refine zao ?_;refine zcQ ?_;exact zaL
theorem jjP:Call Tryz.prog w0 31 [.pointer none] H (fun r H'=>r= .int .i64 0∧H'=H):=by
 refine zgY ?_;refine zaf ?_;refine jp jhb ?_;exact zhF
theorem nHeap_K {i:Int}:Call Tryz.prog w0 27 [.pointer none, .int .i64 i] H (fun r H'=>r= .pointer none∧H'=H):=by
 refine zoY ?_;refine zaf ?_;refine jp jhb ?_;exact zhF
def zfH (b:Nat):jb:=[(b,cells [.slice none 0 0, .int .i64 0, .slice none 0 0, .int .i64 0, .int .i64 0, .int .i64 0, .pointer none, .slice none 0 0] 71)]
variable {b : Nat}
theorem jg4:Call Tryz.prog w0 53 [.pointer (some ⟨b,0,none⟩)] (zfH b++H) (fun r H'=>r= .bool true∧H'=zfH b++H):=by
 unfold zfH;refine zqU ?_;refine zeA ?_;refine zhB ?_;refine zcq ?_;refine zx ?_;exact zq
theorem zfDo_K {i:Int} {op:OpP}:Call Tryz.prog w0 19 [.pointer (some ⟨b,0,none⟩), .int .i64 i,opV op] (zfH b++H) (fun r H'=>r= .tuple [snV (told 0), .int .i64 1].toArray∧H'=zfH b++H):=by
 unfold opV snV told;dsimp only;refine zoZ ?_;refine zbc ?_;intro b5 b6;refine ze2 ?_;refine jn jg4 ja ?_;refine zao ?_;refine zcQ ?_;exact zaL
theorem jjv:Call Tryz.prog w0 31 [.pointer (some ⟨b,0,none⟩)] (zfH b++H) (fun r H'=>r= .int .i64 0∧H'=zfH b++H):=by
 refine zgY ?_;refine zaf ?_;refine jn jg4 ja ?_;exact zhF
theorem zfHeap_K {i:Int}:Call Tryz.prog w0 27 [.pointer (some ⟨b,0,none⟩), .int .i64 i] (zfH b++H) (fun r H'=>r= .pointer none∧H'=zfH b++H):=by
 refine zoY ?_;refine zaf ?_;refine jn jg4 ja ?_;exact zhF
theorem nStep_K {p:PkP}:Call Tryz.prog w0 18 [.pointer none,pkV p] H (fun r H'=>r= .bool false∧H'=H):=by
 obtain⟨k,i,u⟩:=p
 unfold pkV;dsimp only;refine zo0 ?_;refine zes ?_;intro b3;refine zi2 ?_;refine zqX ?_;refine zo ?_;refine zdA ?_;refine zcX ?_;refine zft fun T hT=>?_;refine(CallV.fn nHeap_K).mono ?_;rintro _ _ ⟨rfl,rfl⟩;refine zi ?_;clear hT T;refine zk fun T hT=>?_;refine(CallV.fn jhR).mono ?_;rintro _ _ ⟨rfl,rfl⟩;refine zi ?_;clear hT T;refine zbp ?_;exact zH
theorem nRest_K {many:Int} (hm:0<many):Call Tryz.prog w0 23 [.pointer none, .int .i64 many] H (fun r H'=>r= .int .i64 0∧H'=H):=by
 have hlt:((0:Nat):Int)<many:=by omega
 have hlt0:(0:Int)<many:=hm
 have h00: ¬((0:Nat):Int)<0:=by omega
 refine zhH ?_;refine K.loopT (σ:=Nat) [(0,_),(1,_)] (fun s kp_=>(5, .int .i64 0)::kp_) (fun s=>H) (fun s=>True) (fun s=>0) (0) jc ja (trivial) ?_;rintro _ _;refine zhz ?_;refine zz fun T hT=>?_;refine(CallV.fn jjP).mono ?_;rintro _ H ⟨rfl,rfl⟩;refine ze ?_;clear hT T;refine zbj ?_;refine K.loopT (σ:=Nat) [(0,_),(1,_),(14,_)] (fun s kp_=>(5, .int .i64 0)::(15, .int .i64 (s:Nat))::kp_) (fun s=>H) (fun s=>s=0) (fun s=>0) (0) jc ja (rfl) ?_;rintro k rfl;refine zhp ?_;exact zH
theorem nConfig_K:Call Tryz.prog w0 32 [.pointer none] H (fun r H'=>r= .agg [.slice none 0 0, .int .i64 0, .slice none 0 0, .int .i64 0, .int .i64 0, .int .i64 0].toArray∧H'=H):=by
 refine Call.enter1 (n:=11) (by rfl) Tryz.func32 rfl rfl rfl ?_;refine zbx ?_;intro b2;refine zbu ?_;refine zn ?_;refine jp jhb ?_;refine zao ?_;refine zfr ?_;refine zaS ?_;exact zH
theorem zfStep_K {p:PkP}:Call Tryz.prog w0 18 [.pointer (some ⟨b,0,none⟩),pkV p] (zfH b++H) (fun r H'=>r= .bool false∧H'=zfH b++H):=by
 obtain⟨k,i,u⟩:=p
 unfold pkV;dsimp only;refine zo0 ?_;refine zes ?_;intro b3;refine zi2 ?_;refine zqX ?_;refine zo ?_;refine zdA ?_;refine zcX ?_;refine zft fun T hT=>?_;refine(CallV.part (CallV.fn zfHeap_K) ja).mono ?_;rintro _ _ ⟨rfl,rfl⟩;refine zi ?_;clear hT T;refine zk fun T hT=>?_;refine(CallV.fn jhR).mono ?_;rintro _ _ ⟨rfl,rfl⟩;refine zi ?_;clear hT T;refine zbp ?_;exact zH
theorem zfRest_K {many:Int} (hm:0<many):Call Tryz.prog w0 23 [.pointer (some ⟨b,0,none⟩), .int .i64 many] (zfH b++H) (fun r H'=>r= .int .i64 0∧H'=zfH b++H):=by
 have hlt:((0:Nat):Int)<many:=by omega
 have hlt0:(0:Int)<many:=hm
 have h00: ¬((0:Nat):Int)<0:=by omega
 refine zhH ?_;refine K.loopT (σ:=Nat) [(0,_),(1,_)] (fun s kp_=>(5, .int .i64 0)::kp_) (fun s=>zfH b++H) (fun s=>True) (fun s=>0) (0) jc ja (trivial) ?_;rintro _ _;refine zhz ?_;refine zn ?_;refine jn jjv ja ?_;refine zbj ?_;refine K.loopT (σ:=Nat) [(0,_),(1,_),(14,_)] (fun s kp_=>(5, .int .i64 0)::(15, .int .i64 (s:Nat))::kp_) (fun s=>zfH b++H) (fun s=>s=0) (fun s=>0) (0) jc ja (rfl) ?_;rintro k rfl;refine zhp ?_;exact zH
theorem zfMem_K:Call Tryz.prog w0 24 [.pointer (some ⟨b,0,none⟩)] (zfH b++H) (fun r H'=>r= .pointer none∧H'=zfH b++H):=by
 refine zmj ?_;refine zaf ?_;refine jn jg4 ja ?_;exact zhF
end
end Go.Proofs.YtebiafomiemgbaaGreatDoor.Sw
