/-What the law needs of its own,part 1. -/
import Derived.Test.YtebiafomiemgbaaGreatDoorWFmU3d
import Derived.Test.YtebiafomiemgbaaGreatDoorJ39
set_option linter.unusedVariables false set_option linter.unusedSimpArgs false set_option linter.unusedVariables false
set_option linter.unusedSimpArgs false
namespace Go.Proofs.YtebiafomiemgbaaGreatDoor
set_option maxHeartbeats 8000000
open Go.RowKit
section
variable {P : Program} {w0 : World} {m : jk} {H F : jb} {ty : TypeId} {v : Value}
theorem Val.neqA {t u:TypeId} {x y:Operand} {xs ys:List Value} {r:Bool} (hx:evO m x=some (.agg xs.toArray)) (hy:evO m y=some (.agg ys.toArray)) (hg:P.eqGuardType P.depth t=false) (h:EqV P (9999+1) t (.agg xs.toArray) (.agg ys.toArray) r):Val P w0 H m ty (.binOp .neq t x y u) (.bool (!r)):=
 ⟨by grind[jm,cov],fun w d pos af g _=>by
  have e1:=run_eqGuard_agg (P:=P) w .neq t x y xs.toArray ys.toArray hg
  have e2:=jdg _ h w
  simp[execOp,evS,hx,hy,e1,binOp,jan,e2]⟩
theorem Val.neqAE {t u:TypeId} {x y:Operand} {xs ys:List Value} {r:Bool} (hx:evO m x=some (.agg xs.toArray)) (hy:evO m y=some (.agg ys.toArray)) (hg:P.eqGuardType P.depth t=false) (h:EqV P (9999+1) t (.agg xs.toArray) (.agg ys.toArray) r) (hr:r=true):Val P w0 H m ty (.binOp .neq t x y u) (.bool false):=
 Val.isB (Val.neqA hx hy hg h) (by grind)
theorem Val.neqAN {t u:TypeId} {x y:Operand} {xs ys:List Value} {r:Bool} (hx:evO m x=some (.agg xs.toArray)) (hy:evO m y=some (.agg ys.toArray)) (hg:P.eqGuardType P.depth t=false) (h:EqV P (9999+1) t (.agg xs.toArray) (.agg ys.toArray) r) (hr:r=false):Val P w0 H m ty (.binOp .neq t x y u) (.bool true):=
 Val.isB (Val.neqA hx hy hg h) (by grind)
end
open Go.RowKit Go.ChangeShapes Go.WideShapes
set_option autoImplicit false
theorem byBlk {G G':Prop} (k:G') (h:G'→G:=by intro k;((repeat (refine KE.next ?_));(first|refine K.block ?_|refine K.seq (K.block ?_)));exact k):G:=h k
end Go.Proofs.YtebiafomiemgbaaGreatDoor
namespace Go.Proofs.YtebiafomiemgbaaGreatDoor.Sw
open Go.Proofs.YtebiafomiemgbaaGreatDoor renaming lo → qL, hi → qH
open Go.RowKit
set_option maxRecDepth 10000
section
variable {T T' : List jl} {w tn : Nat} {t gn : Int}
theorem jaW:jC T (jH T t):=fun i e h=>by
 grind[jH,JM,g1,g2,jC.refl,jbg,jv,jct]
theorem jcu {k:Int}:jC T (Jk T k):=fun i e h=>by
 grind[Jk]
theorem jcq:jC T (j5 gn T):=fun i e h=>by
 grind[jah,j5]
end
section
variable {C : HpC} {wr : Bool} {h h' : HpP}
theorem jcB (hC:HpCk C) (hI:HeI C h) (m:HpMv C wr h h'):jC h.s.W.T h'.s.W.T:=by
 have ok:=hC.g
 cases m with
 |free h1 h2=>exact .refl
 |help h1=>rw [show _=h.s.W.T from(jda hI.ok ok h1).2.1];exact .refl
 |step h1=>rw [show _=h.s.W.T from jeh ok hI.ok h1];exact .refl
 |begin h0=>exact .refl
 |publish h3=>exact jcq
 | @acts a h2 _=>
  grind[jC,doesC,does_TN,h2,jcu]
 |word _ _ _=>exact .refl
 |read _ _ _=>show jC _ (jH (shdC _ _ h.s _).W.T _);grind[shdC_W,jaW]
 |make _ _ _ _=>exact jaW
theorem mvs_tb (hC:HpCk C) (hI:HeI C h) (m:Jh C wr h h'):jC h.s.W.T h'.s.W.T:=
 (m.ind (I:=fun q=>HeI C q∧jC h.s.W.T q.s.W.T) (fun a b m i=>⟨i.1.mv hC m,i.2.trans (jcB hC i.1 m)⟩) ⟨hI, .refl⟩).2
theorem alloc_new (hC:HpCk C) (hI:HeI C h) {a b:Int} (h0:(Jn C h a b).1.h≠0):JZ C h (Jn C h a b).2 (Jn C h a b).1.h:=by
 unfold Jn at h0⊢
 split at h0
 ·exact zD
 ·rename_i h1
  rw[if_neg h1]
  split at h0
  ·exact zD
  ·rename_i hk
   rw[if_neg hk]
   have m1:=jc7 (wr:=true) hC hI (k:=classI C.g (a+b+1))
   have hI1:=hI.mvs hC m1
   split at h0
   ·exact zD
   ·rename_i h2
    rw[if_neg h2]
    split at h0
    ·exact zD
    ·rename_i h3
     rw[if_neg h3]
     have m2:HpMv C true _ _:=jdn hC hI1 (not_false' h1) hk (not_false' h2) (not_false' h3)
     have hI2:=hI1.mv hC m2
     exact zjd
theorem read_new (hC:HpCk C) (hI:HeI C h) {sl a k:Int} (hs:slotT h.s.W.T k=some sl) (h0:(Jj C h sl a).1.h≠0):JZ C h (Jj C h sl a).2 (Jj C h sl a).1.h:=by
 unfold Jj at h0⊢
 split at h0
 ·exact zD
 ·rename_i h1
  rw[if_neg h1]
  split at h0
  ·exact zD
  ·rename_i h2
   rw[if_neg h2]
   split at h0
   ·exact zD
   ·rename_i h3
    rw[if_neg h3]
    have m1:=jcR (wr:=true) hC hI (is:=Jt)
    have hI1:=hI.mvs hC m1
    split at h0
    ·exact zD
    ·rename_i h4
     refine zkl ?_
     show jC _ (jH (shdC _ _ _ _).W.T _)
     exact ziA
theorem does_new (hC:HpCk C) (hI:HeI C h) {op:OpP} (h0:(jD C h op).1.h≠0):JZ C h (jD C h op).2 (jD C h op).1.h:=by
 unfold jD at h0⊢
 split at h0
 ·exact zD
 ·rename_i h1
  rw[if_neg h1]
  split at h0
  ·rename_i h2
   exact zj9
  ·rename_i h2
   rw[if_neg h2]
   cases hs:hpSlot C.tn h.s.W.T op.h with
   |none=>rw [hs] at h0;exact absurd rfl h0
   |some sl=>
    rw[hs] at h0;dsimp only at h0⊢;unfold hpOp at h0⊢
    split at h0
    ·rename_i h3
     exact zkj
    ·exfalso
     apply h0
     split
     ·unfold jaO
      split
      ·rfl
      ·split
       ·rfl
       ·split<;>rfl
     ·split
      ·rfl
      ·split
       ·unfold jbo;split<;>rfl
       ·split<;>rfl
theorem do_new (hC:HpCk C) (hI:HeI C h) {op:OpP} (h0:(jS C h op).1.h≠0):JZ C h (jS C h op).2 (jS C h op).1.h:=by
 rw[do_h] at h0⊢
 split at h0
 ·rename_i h1
  rw[if_pos h1]
  have hI0:HeI C {h with wk:=0}:=hI.mv hC (wr:=true) (.free rfl fun h=>h)
  exact zje
 omega
end
open Go.RowKit
set_option maxRecDepth 10000
section
variable {w0 : World} {f : FmM} {F : jb} {nf t : Nat} {q : TnM}
theorem jaU (ok:FmOk f nf):Call Tryz.prog w0 31 [.pointer (some ⟨f.b,0,none⟩)] (fmH f++F) (fun r H'=>r= .int .i64 (f.c.tn.length:Nat)∧H'=fmH f++F):=by
 have hl:=jej ok
 have ho:=ok.o
 refine zgY ?_;refine zeb ?_;rw[←hl];refine zhG ?_;refine zdL ?_;exact zdw
end
set_option maxRecDepth 10000
def acL (x:jM):List Value:=[.int .i64 x.t, .int .u8 (x.o.c:Nat), .int .u64 (x.o.h:Nat), .int .i64 x.o.a, .int .i64 x.o.b, .int .u64 (x.o.v:Nat), .int .i64 x.H, .int .i64 x.V, .bool x.work, .int .i64 x.k, .int .i64 x.pt, .int .u8 (x.u:Nat)]
structure FActOk (x:jM):Prop where
 o:JJ x.o
 u:x.u<256
def opA (x:jM) (T:List Int):OpP:={x.o with h:=pickT T x.H x.o.h,v:=pickT T x.V x.o.v}
theorem JK {T:List Int} {i:Int} (hT:JN T) (h1:0≤i) (h2:0<T.length) (d:Nat): ∃ (k:Nat) (e:Nat),i%((T.length:Nat):Int)=((k:Nat):Int)∧k<T.length∧T[k]?=some ((e:Nat):Int)∧pickT T i d=e:=by
 have h3:=Int.emod_nonneg i (b:=((T.length:Nat):Int)) (by omega)
 have h4:=Int.emod_lt_of_pos i (b:=((T.length:Nat):Int)) (by omega)
 obtain⟨k,hk⟩: ∃ k:Nat,i%((T.length:Nat):Int)=k:=⟨(i%((T.length:Nat):Int)).toNat,by omega⟩
 have hkl:k<T.length:=by omega
 obtain⟨e,he⟩:=jh hkl
 have heb:=hT e (List.mem_of_getElem? he)
 grind[pickT]
theorem jaV {T:List Int} {i:Int} {d:Nat} (hT:JN T) (hd:d<18446744073709551616):pickT T i d<18446744073709551616:=by
 by_cases h:0≤i∧0<T.length
 ·obtain⟨k,e,_,_,h3,h4⟩:=JK hT h.1 h.2 d
  have:=hT _ (List.mem_of_getElem? h3)
  omega
 grind[pickT]
theorem pick_no {T:List Int} {i:Int} {d:Nat} (h: ¬(0≤i∧0<T.length)):pickT T i d=d:=if_neg h
theorem jbX {x:jM} {T:List Int} (hx:FActOk x) (hT:JN T):JJ (opA x T):=⟨hx.o.c,jaV hT hx.o.h,jaV hT hx.o.v⟩
section
variable {w0 : World} {F : jb} {x : jM} {T : List Int} {v : Value}
set_option maxHeartbeats 1000000 in
theorem jcf (hx:FActOk x) (hS:Sli w0 F uE v T) (hT:JN T):Call Tryz.prog w0 20 [.agg (acL x).toArray,v] F (fun r H'=>r=opV (opA x T)∧H'=F):=by
 obtain⟨t,⟨c,h,a,b,vv⟩,H,V,wk,k,pt,u⟩:=x
 unfold acL opV opA;dsimp only
 by_cases hl:0<T.length
 ·have hl0:((T.length:Nat):Int)>0:=by omega
  have hl1: ¬((T.length:Nat):Int)=0:=by omega
  by_cases hH:0≤H
  ·have hH':H≥0:=hH
   obtain⟨i,e,i1,i2,i3,i4⟩:=JK hT hH hl h
   have i3':T[((i:Nat):Int).toNat]?=some ((e:Nat):Int):=i3
   rw[i4]
   by_cases hV:0≤V
   ·have hV':V≥0:=hV
    obtain⟨j,f,j1,j2,j3,j4⟩:=JK hT hV hl vv
    have j3':T[((j:Nat):Int).toNat]?=some ((f:Nat):Int):=j3
    rw[j4];refine zfR ?_;intro b2 b4 b5;refine zdP ?_;exact zdO
   ·have hV': ¬V≥0:=hV
    refine zdz ?_;intro b2 b4 b5;refine zdP ?_;exact zaP
  ·have hH': ¬H≥0:=hH
   rw[pick_no (i:=H) (fun q=>hH q.1)]
   by_cases hV:0≤V
   ·have hV':V≥0:=hV
    obtain⟨j,f,j1,j2,j3,j4⟩:=JK hT hV hl vv
    have j3':T[((j:Nat):Int).toNat]?=some ((f:Nat):Int):=j3
    rw[j4];refine zbz ?_;intro b2 b4 b5;exact zdO
   ·have hV': ¬V≥0:=hV
    refine zdz ?_;intro b2 b4 b5;refine zia ?_;exact zaP
 ·have hl0: ¬((T.length:Nat):Int)>0:=by omega
  rw[pick_no (i:=H) (fun q=>hl q.2),pick_no (i:=V) (fun q=>hl q.2)]
  by_cases hH:0≤H
  ·have hH':H≥0:=hH
   by_cases hV:0≤V
   ·have hV':V≥0:=hV
    refine zdI ?_;intro b2 b4 b5;exact zdF
   ·have hV': ¬V≥0:=hV
    refine zdI ?_;intro b2 b4 b5;exact zaP
  ·have hH': ¬H≥0:=hH
   by_cases hV:0≤V
   ·have hV':V≥0:=hV
    refine zbz ?_;intro b2 b4 b5;exact zdF
   ·have hV': ¬V≥0:=hV
    refine zbz ?_;intro b2 b4 b5;exact zaP
end
def faE:Enc jM:=⟨acL,12,fun _=>rfl,by intro x v hv;simp[acL] at hv;rcases hv with rfl|rfl|rfl|rfl|rfl|rfl|rfl|rfl|rfl|rfl|rfl|rfl<;>rfl⟩
section
variable {w0 : World} {F : jb} {v : Value}
def alsoF (rows:List (List Int)) (t:Int) (w:Nat):List (List Int):=if w=0∨t<0∨(rows.length:Nat)≤t then rows else rows.set t.toNat (ofF rows t++ [((w:Nat):Int)])
theorem of_K {A:jb} {rows:List (List Int)} {t:Int} (hR:ToldR w0 F v rows) (hp:Part A F):Call Tryz.prog w0 21 [v, .int .i64 t] A (fun r H'=> ∃ v',Sli w0 F uE v' (ofF rows t)∧r=v'∧H'=A):=by
 obtain⟨hl,ho,ls,h1,h2,h3⟩:=hR
 replace h1:=h1.part hp
 clear hp
 have hN:Sli w0 F uE (.slice none 0 0) []:=fun w hw=>SlW.nil w uE
 unfold ofF
 by_cases ht:t<0
 ·refine zkd ?_;refine zI ?_;refine zc7 ?_;exact zdG
 ·by_cases ht2:((rows.length:Nat):Int)≤t
  ·rw[if_pos (.inr ht2)]
   have ht3:t≥((ls.length:Nat):Int):=by omega
   refine zir ?_;refine zcE ?_;exact zdG
  ·rw[if_neg (by omega)]
   obtain⟨k,rfl⟩: ∃ k:Nat,t=k:=⟨t.toNat,by omega⟩
   obtain⟨⟨la,ln,lc⟩,hlk⟩:=jh (l:=ls) (k:=k) (by omega)
   obtain⟨r,hr⟩:=jh (l:=rows) (k:=k) (by omega)
   have hS:=h3 k _ r hlk hr
   have hlk':ls[((k:Nat):Int).toNat]?=some ⟨la,ln,lc⟩:=hlk
   have ht3: ¬((k:Nat):Int)≥((ls.length:Nat):Int):=by omega
   refine zkc ?_;refine zhm ?_;refine zcU ?_;refine zm ?_;exact zjf
theorem jaN (o:Own) (n:Nat):(oV o n).cells=[oV o n].toArray:=by cases o<;>rfl
theorem jb6 (o:Own) (n:Nat): ∃ x:SlV,oV o n= .slice x.a x.n x.c:=by
 cases o with
 |none=>exact⟨⟨none,0,0⟩,rfl⟩
 |some o=>exact⟨⟨some ⟨o.b,0,none⟩,n,o.c⟩,rfl⟩
set_option maxHeartbeats 1000000 in
theorem jbt {G:jb} {rows:List (List Int)} {t:Int} {w:Nat} (hR:ToldR w0 F v rows) (hb: ∀ r∈rows,r.length≤1000):Call Tryz.prog w0 22 [v, .int .i64 t, .int .u64 (w:Nat)] (F++G) (fun r H'=> ∃ v' D,ToldR w0 (D++F) v' (alsoF rows t w)∧r=v'∧H'=D++(F++G)):=by
 have hR0:=hR
 obtain⟨hl,ho,ls,h1,h2,h3⟩:=hR
 unfold alsoF ofF
 by_cases hw:w=0
 ·rw[if_pos (.inl hw)];subst hw;refine zic ?_;refine zO ?_;refine zcH ?_;exact zdH
 ·have hw': ¬((w:Nat):Int)=0:=by omega
  by_cases ht:t<0
  ·refine zka ?_;refine zgq ?_;exact zdH
  ·by_cases ht2:((rows.length:Nat):Int)≤t
   ·rw[if_pos (.inr (.inr ht2))]
    have ht3:t≥((ls.length:Nat):Int):=by omega
    refine ziq ?_;refine zcE ?_;exact zif
   ·rw[if_neg (by omega),if_neg (by omega)]
    obtain⟨k,rfl⟩: ∃ k:Nat,t=k:=⟨t.toNat,by omega⟩
    obtain⟨⟨la,ln,lc⟩,hlk⟩:=jh (l:=ls) (k:=k) (by omega)
    obtain⟨r,hr⟩:=jh (l:=rows) (k:=k) (by omega)
    have hS:=h3 k _ r hlk hr
    have hlk':ls[((k:Nat):Int).toNat]?=some ⟨la,ln,lc⟩:=hlk
    have ht3: ¬((k:Nat):Int)≥((ls.length:Nat):Int):=by omega
    have hrl:=hb r (List.mem_of_getElem? hr)
    have hll:ls.length≤4294967296:=by omega
    have hrl2:r.length≤4294967296:=by omega
    have hrl3:(r++ [((w:Nat):Int)]).length≤4294967296:=by rw[List.length_append];simp only[List.length_cons,List.length_nil];omega
    refine zkb ?_;refine zcS ?_;refine zfj ?_;refine zfp ?_;intro b21;refine KL.e rfl (Eff.appLit (E:=toldE) (ys:=ls) rfl rfl rfl rfl rfl rfl rfl ju (by first|exact Sli.blk ju rfl (by first|decide|simp) (by first|decide|(unfold maxLen;omega)) rfl|exact Sli.old (by assumption)|exact Sli.own jj (by assumption) jF|assumption|exact Sli.part (by assumption) ja) (by first|assumption|omega|(simp<;>fail)|(simp;omega)) rfl) ?_;rintro _ _ ⟨oa,oka,rfl,rfl⟩;refine zay ?_;refine zar ?_;intro b26;refine zcU ?_;refine KL.e rfl (Eff.appLit (E:=uE) (ys:=r) rfl rfl rfl rfl rfl rfl rfl ju (by first|exact Sli.blk ju rfl (by first|decide|simp) (by first|decide|(unfold maxLen;omega)) rfl|exact Sli.old (by assumption)|exact Sli.own jj (by assumption) jF|assumption|exact Sli.part (by assumption) ja) (by first|assumption|omega|(simp<;>fail)|(simp;omega)) rfl) ?_;rintro _ _ ⟨ob,okb,rfl,rfl⟩;refine zj ?_;refine zar ?_;intro b33;refine KL.e rfl (Eff.appZ (ys:=[_]) rfl rfl rfl rfl rfl rfl jj (by assumption) (by first|exact Sli.blk ju rfl (by first|decide|simp) (by first|decide|(unfold maxLen;omega)) rfl|exact Sli.old (by assumption)|exact Sli.own jj (by assumption) jF|assumption|exact Sli.part (by assumption) ja) rfl (by first|assumption|omega|(simp<;>fail)|(simp;omega)) rfl) ?_;rintro _ _ ⟨o34,ok34,rfl,rfl⟩;refine zcK ?_
    obtain⟨x1,hx1⟩:=jb6 o34 (r++ [((w:Nat):Int)]).length
    refine zjg ?_;refine zeJ ?_
    have hoa:oOk toldE (ls.set k x1) oa:=by
     revert oka
     cases oa with
     |none=>intro e;rw [show ls=[] from e];rfl
     |some o=>
      rintro⟨q1,q2,q3⟩;exact zh1
    have hD:ToldR w0 (oH uE 34 (r++ [((w:Nat):Int)]) o34++(oH toldE 47 (ls.set k x1) oa++F)) (oV oa ls.length) (rows.set k (r++ [((w:Nat):Int)])):=by
     refine⟨by rw[List.length_set];exact hl,jaN _ _,ls.set k x1,Sli.own (by exact jj) hoa (by rw[List.length_set]),by rw[List.length_set,List.length_set];exact h2,fun i l q a b=>?_⟩
     by_cases hi:k=i
     ·subst hi;rw[List.getElem?_set_self (by omega)] at a b
      cases a;cases b
      exact zkm
     ·rw[List.getElem?_set_ne hi] at a b;exact zjh
    exact zji
end
open Go.RowKit
set_option maxRecDepth 10000
def micL:List Nat:=[3,2,1,4,5]
def oneM (C:HpC) (h:HpP) (w:Nat):List Nat→Option HpP
 | []=>none
 |u::l=>if (hpStep C h (w:Nat) (u:Nat)).1=true then some (hpStep C h (w:Nat) (u:Nat)).2 else oneM C h w l
def oneW (C:HpC) (h:HpP):Nat→Nat→Option HpP
 |0,_=>none
 |r+1,w=>match oneM C h w micL with
  |some h'=>some h'
  |none=>oneW C h r (w+1)
def oneT (c:Cfg):List HpP→Nat→Option (Nat × HpP)
 | [],_=>none
 |h::l,t=>match oneW (hC1 c t) h c.workers.toNat 0 with
  |some h'=>some (t,h')
  |none=>oneT c l (t+1)
def faRest (c:Cfg):Nat→List HpP→Nat × List HpP
 |0,hs=>(0,hs)
 |m+1,hs=>match oneT c hs 0 with
  |some (t,h')=>((faRest c m (hs.set t h')).1+1,(faRest c m (hs.set t h')).2)
  |none=>(0,hs)
section
variable {C : HpC} {c : Cfg} {h h' : HpP} {hs : List HpP} {k u : Int} {m t : Nat}
theorem jcm (hf:(hpStep C h k u).1=false):(hpStep C h k u).2=h:=by
 grind[hpStep,stepC]
theorem jbm (h:oneT c hs 0=none):faRest c m hs=(0,hs):=by
 cases m with
 |zero=>rfl
 |succ m=>grind[faRest]
theorem jbB (h:oneT c hs 0=some (t,h')):faRest c (m+1) hs=((faRest c m (hs.set t h')).1+1,(faRest c m (hs.set t h')).2):=by
 grind[oneT,faRest]
end
end Go.Proofs.YtebiafomiemgbaaGreatDoor.Sw
namespace Go.Proofs.YtebiafomiemgbaaGreatDoor
open Go.RowKit
section
variable {P : Program} {w0 : World} {ro : Option Nat} {n : Nat} {Q : Exit → Act → World → Prop} {ds : List Deferred} {m : jk} {H : jb}
theorem Je {b:Frame} {a:Act} {k:List Item} {cs:List Frame} {w:World} {c:Code}:step P (lone (b.atR a (.code (.scope c)::k)) cs w)= .next (lone (b.atR a (.code c:: .inScope c::k)) cs w):=
 step_lone_go (by rfl)
theorem jch {b:Frame} {a:Act} {k:List Item} {cs:List Frame} {w:World} {c:Code}:step P (lone (b.atR a (.inScope c::k)) cs w)= .next (lone (b.atR a k) cs w):=
 step_lone_go (by rfl)
theorem jci {F:Fence} {n:Nat} {a:Act} {w:World} {c:Code} (h:c.wpIn F n P (Exit.noGoto Q) a w):(Code.scope c).wpIn F n P Q a w:=by
 intro b k cs hro hb hr
 have h0:(lone (b.atR a (.code (.scope c)::k)) cs w).fenced P F:=fenced_calm hb hr rfl
 obtain⟨e,a₁,w₁,hq,harr⟩:=h b (.inScope c::k) cs hro hb hr
 cases e with
 |normal=>exact⟨.normal,a₁,w₁,hq, .head h0 Je (StepsIn.trans harr (.one (fenced_calm hb hr rfl) jch))⟩
 |exit id=>
  have hx:exitTo id (.inScope c::k)=exitTo id k:=by rfl
  exact⟨.exit id,a₁,w₁,hq,fun k' hk=> .head h0 Je (harr.1 k' (by grind)),
   fun hr' hk=>let ⟨k₁,h1,h2⟩:=harr.2 hr' (by grind);⟨k₁,h1, .head h0 Je h2⟩⟩
 |goto l=>exact hq.elim
 |ret=>exact⟨_,a₁,w₁,hq, .of_steps (.one h0 Je) harr⟩
 |panic ch=>exact⟨_,a₁,w₁,hq, .of_steps (.one h0 Je) harr⟩
 |outgrown=>exact⟨_,a₁,w₁,hq, .of_steps (.one h0 Je) harr⟩
theorem K.scope {c:Code} (h:K P w0 ro n c (Exit.noGoto Q) ds m H):K P w0 ro n (.scope c) Q ds m H:=⟨fun a w ha hw=>jci (h.out a w ha hw)⟩
theorem K.label {l:Nat} (h:KE w0 n .normal Q ds m H):K P w0 ro n (.label l) Q ds m H:=⟨fun a w ha hw=>wpIn_label (h.out a w ha hw)⟩
theorem KE.scR (h:KE w0 n .ret Q ds m H):KE w0 n .ret (Exit.noGoto Q) ds m H:=⟨fun a w ha hw=>h.out a w ha hw⟩
end
end Go.Proofs.YtebiafomiemgbaaGreatDoor
namespace Go.Proofs.YtebiafomiemgbaaGreatDoor.Sw
open Go.Proofs.YtebiafomiemgbaaGreatDoor renaming lo → qL, hi → qH
open Go.RowKit
set_option maxRecDepth 10000
structure FaO where
 n:Nat
 f:FmM
section
variable {w0 : World} {f : FmM} {F : jb} {nf t : Nat} {q : TnM}
theorem setsame {α:Type} {l:List α} {i:Nat} {x:α} (h:l[i]?=some x):l.set i x=l:=by
 obtain⟨hl,e⟩:=List.getElem?_eq_some_iff.1 h
 rw[←e];simp
theorem fmRest_K {many:Int} (hG:ji w0) (ok:FmOk f nf) (hf:nf≤900000) (hm:many≤1000000):Call Tryz.prog w0 23 [.pointer (some ⟨f.b,0,none⟩), .int .i64 many] (fmH f++F)
  (fun r H'=>r= .int .i64 ((faRest f.c many.toNat f.hs).1:Nat)∧ ∃ f',FmOk f' nf∧FmTo f f'∧f'.hs=(faRest f.c many.toNat f.hs).2∧H'=fmH f'++F):=by
 have hcw:=(Jf ok.cfg).workers
 have hct:=(Jf ok.cfg).tn
 refine zhH ?_;refine zjj ?_;rintro⟨n,f1⟩ ⟨ok1,to1,hn,he⟩;dsimp only at ok1 to1 hn he⊢
 have hten:=fun A=>jaU (w0:=w0) (F:=A) ok1
 simp only[to1.b,to1.c] at hten
 have hl1:=jcv ok1
 rw[to1.c] at hl1
 by_cases hlt:((n:Nat):Int)<many
 ·obtain⟨d,hd⟩: ∃ d,many.toNat-n=d+1:=⟨many.toNat-n-1,by omega⟩
  have hd1:many.toNat-(n+1)=d:=by omega
  rw[hd] at he;refine zhz ?_;refine zn ?_;refine zjk ?_;refine zbj ?_;refine zjl ?_;rintro⟨t,f2⟩ ⟨ok2,to2,hs2,ht,hT⟩;dsimp only at ok2 to2 hs2 ht hT⊢
  by_cases htl:((t:Nat):Int)<((f.c.tn.length:Nat):Int)
  ·obtain⟨q,hq,hk⟩:=ok2.at_ (t:=t) (by rw[to2.c];omega)
   have hdr:f1.hs.drop t=q.h::f1.hs.drop (t+1):=by
    have hh:=ok2.hs_at hq
    rw[hs2] at hh
    obtain⟨hl,e⟩:=List.getElem?_eq_some_iff.1 hh
    rw[List.drop_eq_getElem_cons hl,e]
   obtain⟨h0,hh0⟩: ∃ h0,q.h=h0:=⟨_,rfl⟩
   rw[hh0] at hdr
   have hat:f1.hs[t]?=some h0:=by rw[←hs2,ok2.hs_at hq,hh0]
   clear hk hq hh0 q;refine zj6 ?_;refine zeM ?_;refine zby ?_;refine zbj ?_;refine zjm ?_;rintro⟨w,f3⟩ ⟨ok3,to3,hs3,hw,hW⟩;dsimp only at ok3 to3 hs3 hw hW⊢
   by_cases hwl:((w:Nat):Int)<f.c.workers
   ·obtain⟨r,hr⟩: ∃ r,f.c.workers.toNat-w=r+1:=⟨f.c.workers.toNat-w-1,by omega⟩
    rw[hr] at hW;refine zeB ?_;refine ziH ?_;refine zjn ?_;rintro⟨j,f4⟩ ⟨ok4,to4,hs4,hj,hM⟩;dsimp only at ok4 to4 hs4 hj hM⊢
    by_cases hjl:((j:Nat):Int)<5
    ·obtain⟨u,hu,hu2,hML⟩: ∃ u:Nat,([.int .u8 3, .int .u8 2, .int .u8 1, .int .u8 4, .int .u8 5]:List Value)[((j:Nat):Int).toNat]?=some (.int .u8 (u:Nat))∧u<256∧micL.drop j=u::micL.drop (j+1):=by
      have h5:j=0∨j=1∨j=2∨j=3∨j=4:=by omega
      rcases h5 with rfl|rfl|rfl|rfl|rfl
      ·exact zjo
      ·exact zjp
      ·exact zjq
      ·exact zjr
      ·exact zjs
     obtain⟨q,hq,hk⟩:=ok4.at_ (t:=t) (by rw[to4.c];omega)
     have hst:=fun A=>jd7 (w0:=w0) (F:=A) (k:=(w:Nat)) (u:=u) hG ok4 hq hf hu2
     have hqh:q.h=h0:=by
      have h:=ok4.hs_at hq
      grind
     rw[ok4.C1 hq,to4.c,hqh,to4.b] at hst;simp only[pkV] at hst
     have hcons:oneM (hC1 f.c t) h0 w micL=if (hpStep (hC1 f.c t) h0 (w:Nat) (u:Nat)).1=true then some (hpStep (hC1 f.c t) h0 (w:Nat) (u:Nat)).2 else oneM (hC1 f.c t) h0 w (micL.drop (j+1)):=by rw[hM,hML];rfl
     cases hb:(hpStep (hC1 f.c t) h0 (w:Nat) (u:Nat)).1 with
     |true=>
      rw[hb] at hst hcons;rw[if_pos rfl] at hcons
      have hW2:oneW (hC1 f.c t) h0 f.c.workers.toNat 0=some (hpStep (hC1 f.c t) h0 (w:Nat) (u:Nat)).2:=by
       rw[hW]
       show(match oneM (hC1 f.c t) h0 w micL with|some h'=>some h'|none=>_)=_
       grind
      have hT2:oneT f.c f1.hs 0=some (t,(hpStep (hC1 f.c t) h0 (w:Nat) (u:Nat)).2):=by
       rw[hT,hdr]
       show(match oneW (hC1 f.c t) h0 f.c.workers.toNat 0 with|some h'=>some (t,h')|none=>_)=_
       grind
      refine zdE ?_;rintro _ _ ⟨rfl,f5,h5,rfl⟩;refine zko ?_
      have he5:faRest f.c many.toNat f.hs=((faRest f.c d f5.hs).1+(n+1),(faRest f.c d f5.hs).2):=by
       rw[he,h5.hs,hs4]
       grind[jbB]
      exact zjt
     |false=>
      rw[hb] at hst hcons;rw[jcm hb] at hst;rw[if_neg (by decide)] at hcons;refine zdE ?_;rintro _ _ ⟨rfl,f5,h5,rfl⟩;exact zkn
    ·have hMn:oneM (hC1 f.c t) h0 w micL=none:=by rw[hM,List.drop_eq_nil_of_le (by show 5≤j;omega)];rfl
     have hW2:oneW (hC1 f.c t) h0 f.c.workers.toNat 0=oneW (hC1 f.c t) h0 (f.c.workers.toNat-(w+1)) (w+1):=by
      rw[hW,show f.c.workers.toNat-(w+1)=r by omega]
      show(match oneM (hC1 f.c t) h0 w micL with|some h'=>some h'|none=>_)=_
      grind
     exact zkr
   ·have hWn:oneW (hC1 f.c t) h0 f.c.workers.toNat 0=none:=by rw[hW,show f.c.workers.toNat-w=0 by omega];rfl
    have hT2:oneT f.c f1.hs 0=oneT f.c (f1.hs.drop (t+1)) (t+1):=by
     rw[hT,hdr]
     show(match oneW (hC1 f.c t) h0 f.c.workers.toNat 0 with|some h'=>some (t,h')|none=>_)=_
     grind
    refine zip ?_;exact zju
  ·have hnone:oneT f.c f1.hs 0=none:=by rw[hT,List.drop_eq_nil_of_le (by omega)];rfl
   have he':faRest f.c many.toNat f.hs=(n,f1.hs):=by grind[jbm]
   refine zhp ?_;exact zjv
 ·have hd:many.toNat-n=0:=by omega
  rw[hd] at he
  have he':faRest f.c many.toNat f.hs=(n,f1.hs):=by rw[he];show(0+n,f1.hs)=_;grind
  refine zgy ?_;refine zij ?_;exact zjw
end
set_option maxRecDepth 10000
section
variable {c o : Cfg} {t j : Nat} {hs hs' : List HpP} {i k : Int} {u : Nat} {op : OpP} {h : HpP}
theorem TnE.stepR (e:TnE c o t hs hs'):TnE c o t hs (faStep o hs' k i u).2:=e.symm.stepL.symm
end
open Go.RowKit
set_option maxRecDepth 10000
section
variable {w0 : World} {f : FmM} {F : jb} {nf t : Nat} {q : TnM} {i : Int}
theorem fmRest_A {many:Int} (hG:ji w0) (ok:FmOk f nf) (hf:nf≤900000) (hm:many≤1000000):Call Tryz.prog w0 23 [.pointer (some ⟨f.b,0,none⟩), .int .i64 many] (fmH f++F)
  (fun r H'=>r= .int .i64 ((faRest f.c many.toNat f.hs).1:Nat)∧ ∃ f',FmA f nf (faRest f.c many.toNat f.hs).2 f'∧H'=fmH f'++F):=by
 refine zjx ?_;rintro _ _ ⟨rfl,f',h1,h2,h3,rfl⟩;exact zjy
end
set_option maxRecDepth 100000
def fx0:List HpP:=newHs fxC
def fx1:List HpP:=(faDo fxC fx0 0 ⟨1,0,0,1,0⟩).2
def fx2:List HpP:=(faDo fxC fx1 1 ⟨1,0,0,1,0⟩).2
def fx3:List HpP:=(faDo fxC fx2 2 ⟨1,0,0,1,0⟩).2
def fx4:List HpP:=(faStep fxC fx3 0 1 1).2
def fx5:List HpP:=(faStep fxC fx4 1 1 1).2
def fx6:List HpP:=(faStep fxC fx5 0 0 1).2
def fx7:List HpP:=(faStep fxC fx6 0 2 1).2
def fx8:List HpP:=(faRest fxC 1000 fx7).2
def fx9:List HpP:=(faRest fxC 1000 fx8).2
theorem fx_a:(faDo fxC fx0 0 ⟨1,0,0,1,0⟩).1=(⟨0,1,0,0,2,2,0,false⟩,0):=by rfl
theorem fx_b:(faDo fxC fx1 1 ⟨1,0,0,1,0⟩).1=(⟨0,72057594037927937,0,0,2,0,0,true⟩,0):=by rfl
theorem fx_g:(faDo fxC fx2 2 ⟨1,0,0,1,0⟩).1=(told 0,2):=by rfl
theorem fx_h:(faStep fxC fx3 0 1 1).1=true:=by rfl
theorem fx_i:(faStep fxC fx4 1 1 1).1=false:=by rfl
theorem fx_j:(faStep fxC fx5 0 0 1).1=false:=by rfl
theorem fx_k:(faStep fxC fx6 0 2 1).1=false:=by rfl
theorem fx_n:(faRest fxC 1000 fx7).1=8:=by rfl
theorem fx_m:(faRest fxC 1000 fx8).1=0:=by rfl
theorem fx_l:(faDo fxC fx9 1 ⟨6,72057594037927937,0,0,0⟩).1=(⟨0,0,0,0,2,0,0,true⟩,0):=by rfl
section
variable {w0 : World} {F : jb} {b nf : Nat} {c : Cfg} {hs hs' : List HpP} {f : FmM} {i : Int}
theorem zRest {many:Int} {n:Nat} (hG:ji w0) (z:FmZ b c hs nf f) (hf:nf≤900000) (hm:many≤1000000) (h1:(faRest c many.toNat hs).1=n) (h2:(faRest c many.toNat hs).2=hs'):Call Tryz.prog w0 23 [.pointer (some ⟨b,0,none⟩), .int .i64 many] (fmH f++F)
  (fun r H'=>r= .int .i64 (n:Nat)∧ ∃ f',FmZ b c hs' nf f'∧H'=fmH f'++F):=by
 obtain⟨ok,rfl,rfl,rfl⟩:=z
 subst h1 h2;refine zjz ?_;rintro _ _ ⟨rfl,f',a,rfl⟩;exact zgX
theorem zTenants (z:FmZ b c hs nf f):Call Tryz.prog w0 31 [.pointer (some ⟨b,0,none⟩)] (fmH f++F) (fun r H'=>r= .int .i64 (c.tn.length:Nat)∧H'=fmH f++F):=by
 obtain⟨ok,rfl,rfl,rfl⟩:=z
 exact jaU ok
theorem jcC (hG:ji w0) (b1 b2:Nat):Call Tryz.prog w0 17 [jr fxC (.slice (some ⟨b1,0,none⟩) 2 2) (.slice (some ⟨b2,0,none⟩) 2 2)] ((b2,cells (jx tnE fxC.tn) 55)::(b1,cells [.int .i64 2, .int .i64 4] 3)::F) (fun r H'=> ∃ b f,FmZ b fxC fx0 1 f∧r= .tuple [.pointer (some ⟨b,0,none⟩), .int .i64 0].toArray∧H'=fmH f++((b2,cells (jx tnE fxC.tn) 55)::(b1,cells [.int .i64 2, .int .i64 4] 3)::F)):=by
 have hC:Sli w0 [(b1,cells [.int .i64 2, .int .i64 4] 3)] iE (.slice (some ⟨b1,0,none⟩) 2 2) fxC.cl:=Sli.blk jI.head rfl (by decide) (by decide) rfl
 have hT:Sli w0 [(b2,cells (jx tnE fxC.tn) 55)] tnE (.slice (some ⟨b2,0,none⟩) 2 2) fxC.tn:=Sli.blk jI.head rfl (by decide) (by decide) rfl
 exact zjA
set_option maxHeartbeats 4000000 in
theorem jcp (hG:ji w0):Call Tryz.prog w0 16 [] F (fun r H'=>r= .bool true∧H'=F):=by
 have hn:=fun A b1 b2=>jcC (w0:=w0) (F:=A) hG b1 b2
 have ho: ∀ (c h:Nat) (a b:Int) (v:Nat),c<256→h<18446744073709551616→v<18446744073709551616→JJ ⟨c,h,a,b,v⟩:=fun c h a b v h1 h2 h3=>⟨h1,h2,h3⟩
 unfold jr jG at hn;refine zjB ?_;refine zeT ?_;intro b18 b21;rintro _ _ ⟨b,f0,z0,rfl,rfl⟩;refine zeR ?_;refine zd1 ?_;refine zdU ?_;refine zjC ?_;rintro _ _ ⟨rfl,f1,z1,rfl⟩;refine zbt ?_;intro b3;refine zjD ?_;rintro _ _ ⟨rfl,f2,z2,rfl⟩;refine zbt ?_;intro b5;refine zjE ?_;rintro _ _ ⟨rfl,f3,z3,rfl⟩;refine zbt ?_;intro b7;refine zjF ?_;rintro _ _ ⟨rfl,f4,z4,rfl⟩;refine zaN ?_;refine zjG ?_;rintro _ _ ⟨rfl,f5,z5,rfl⟩;refine zaN ?_;refine zjH ?_;rintro _ _ ⟨rfl,f6,z6,rfl⟩;refine zaN ?_;refine zjI ?_;rintro _ _ ⟨rfl,f7,z7,rfl⟩;refine zch ?_;refine zjJ ?_;rintro _ _ ⟨rfl,f8,z8,rfl⟩;refine zn ?_;refine zjK ?_;rintro _ _ ⟨rfl,f9,z9,rfl⟩;refine zt ?_;refine zaN ?_;refine zjL ?_;rintro _ _ ⟨rfl,f10,z10,rfl⟩;refine zey ?_;intro b15;refine zjM ?_;refine zgT ?_;refine zd4 ?_;refine zik ?_;refine zdM ?_;refine zbB ?_;refine zie ?_;refine za1 ?_;refine za1 ?_;refine za1 ?_;refine zbB ?_;refine zbB ?_;refine zdM ?_;exact zbO
end
open Go.RowKit
set_option maxRecDepth 10000
section
variable {C : HpC} {h h' : HpP} {op : OpP}
theorem jcw (hC:HpCk C) (hI:HeI C h):(jS C h op).1.h<18446744073709551616:=by
 by_cases h0:(jS C h op).1.h=0
 ·omega
 ·exact zjO
end
section
variable {w0 : World} {F : jb} {rows : List (List Int)} {i w b nf : Nat} {t j : Int} {c : Cfg} {hs : List HpP} {f : FmM} {op : OpP} {x : jM}
theorem Jb.also (h:Jb rows i) (hw:w<18446744073709551616):Jb (alsoF rows t w) (i+1):=by
 unfold alsoF
 split
 ·exact h.mono (by omega)
 ·refine⟨fun r hr=>?_⟩
  rcases List.mem_or_eq_of_mem_set hr with hr|rfl
  ·exact zjP
  ·refine⟨fun x hx=>?_,?_⟩
   ·rcases List.mem_append.1 hx with hx|hx
    ·exact h.of x hx
    grind
   ·have:(ofF rows t).length≤i:=by
     unfold ofF
     split
     ·omega
     ·cases hr:rows[t.toNat]? with
      |none=>grind
      |some r=>exact(h.r r (List.mem_of_getElem? hr)).2
    grind
theorem FmZ.hlt (z:FmZ b c hs nf f):(faDo c hs j op).1.1.h<18446744073709551616:=by
 rcases fa_cases hs j with⟨t,h,rfl,h1⟩|h1
 ·rw[JO h1]
  obtain⟨a,b⟩:=z.I h1
  exact jcw a b
 ·rw[jao h1];show(0:Nat)<_;decide
theorem jb2 {o:Own} {n:Nat} (ok:oOk toldE (List.replicate n ⟨none,0,0⟩) o) (hn:n≤8):ToldR w0 (oH toldE 47 (List.replicate n ⟨none,0,0⟩) o++F) (oV o n) (List.replicate n []):=by
 refine⟨by grind,jaN _ _,List.replicate n ⟨none,0,0⟩,Sli.own (by exact jj) ok (by grind),by grind,fun i l r a b=>?_⟩
 obtain rfl:=List.eq_of_mem_replicate (List.mem_of_getElem? a)
 obtain rfl:=List.eq_of_mem_replicate (List.mem_of_getElem? b)
 exact zjQ
theorem Jv.stepR {o:Cfg} {hs':List HpP} {k i:Int} {u:Nat} (e:Jv c o hs hs'):Jv c o hs (faStep o hs' k i u).2:=⟨e.len,jev.trans e.len',fun t ht=>(e.t t ht).stepR⟩
end
open Go.RowKit
set_option maxRecDepth 10000
structure FsS where
 i:Nat
 n:Nat
 f:FmM
 hf:List HpP
 m:Nat
 g:FmM
 hg:List HpP
 rows:List (List Int)
 D:jb
 tv:Value
structure FsC where
 b:Nat
set_option maxRecDepth 10000
structure FsN where
 b:Nat
 o:Own
structure FsA where
 k:Nat
 L:List Tn
def assC (c:Cfg) (L:List Tn):Cfg:=⟨c.cl,c.page,L,c.workers,c.grey,c.gens⟩
section
variable {w0 : World} {F : jb} {c : Cfg} {vc vt v : Value} {l : List jM} {L : List Tn} {a : Int} {k : Nat}
theorem assC_ok (h:jz c=true) (hI:AssI c a c.tn.length L) (ha:0≤a∧a≤1024):jz (assC c L)=true:=by
 simp only[jz,jcM,jag,Bool.and_eq_true,decide_eq_true_eq,and_true] at h;simp only[jz,jcM,assC,jag,Bool.and_eq_true,and_true]
 obtain⟨h1,⟨a1,a2,a3,a4,a5,a6,a7,a8,a9,a0⟩,h3⟩:=h
 have hl:=hI.n
 refine⟨h1,⟨decide_eq_true a1,decide_eq_true a2,decide_eq_true (by omega),decide_eq_true (by omega),decide_eq_true a5,decide_eq_true a6,decide_eq_true a7,decide_eq_true a8,decide_eq_true a9,decide_eq_true a0⟩,?_⟩;rw[List.all_eq_true] at h3⊢;intro x hx
 obtain⟨i,hi⟩:=List.getElem?_of_mem hx
 have hil:=jv hi
 obtain⟨y,hy⟩:=jh (l:=c.tn) (k:=i) (by omega)
 have hxy:=hI.t i y hy
 rw[hi,if_pos (by omega)] at hxy
 cases hxy
 have h4:=h3 y (List.mem_of_getElem? hy)
 grind[jcc,jag]
theorem ass_same {t:Nat} (hI:AssI c a c.tn.length L) (ht:t<c.tn.length):jc2 c (assC c L) t:=by
 obtain⟨x,hx⟩:=jh ht
 have h:=hI.t t x hx
 rw[if_pos ht] at h;exact⟨rfl,rfl,rfl,x,_,hx,h,rfl,rfl,rfl⟩
set_option maxHeartbeats 8000000 in
theorem farmAssists_K {aa:Nat} (hG:ji w0) (hR:Jc w0 F c vc vt) (q1:vc.oneCell'=true) (q2:vt.oneCell'=true) (hl:Sli w0 F faE v l) (hlo: ∀ x∈l,FActOk x) (has:aa<65536):Call Tryz.prog w0 6 [jr c vc vt,v, .int .u16 (aa:Nat)] F (fun r H'=>r= .bool true∧H'=F):=by
 have haw:=fun A=>jcp (w0:=w0) (F:=A) hG
 have hsm:=fun A (hp:Part A F)=>jcI (hR.part hp)
 have hn1:=fun A (hp:Part A F) (hok:jz c=true)=>zNew hG (hR.part hp) hok
 have hn2:=fun(G:jb) (L:List Tn) (o:Own) (hp:Part G F) (ho:oOk tnE L o) (hn:L.length=c.tn.length) (hn8:c.tn.length≤8) (hok:jz (assC c L)=true)=>zNew (w0:=w0) (c:=assC c L) (F:=oH tnE 55 L o++G) (vc:=vc) (vt:=oV o c.tn.length) hG ⟨(hR.cl.part hp).part ja,by rw[←hn];exact Sli.own (by exact jj) ho rfl,hR.one1,jaN _ _,hR.len1,by show L.length≤_;omega⟩ hok
 obtain⟨hS,hT',o1,o2,l1,l2⟩:=hR
 obtain⟨ok,hok⟩: ∃ ok,okF c=ok:=⟨_,rfl⟩
 simp only[hok] at hsm;simp only[jr,jG,assC] at hsm hn1 hn2⊢
 cases ok with
 |false=>
  refine Call.enter3 (n:=131) (by kernel_rfl) Tryz.func6 rfl rfl rfl ?_;refine zeu ?_;intro b3;refine zaQ ?_;exact zdC
 |true=>
  have hc:=okF_cfg hok
  have ht8:=(Jf hc).tn
  have ht4:c.tn.length≤4294967296:=by omega
  refine Call.enter3 (n:=131) (by kernel_rfl) Tryz.func6 rfl rfl rfl ?_;refine zj4 ?_;intro b3;refine zax ?_;refine K.cutT (σ:=FsN) [(1,_),(2,_),(3,_)] jc (fun s kp_=>(7, .pointer (some ⟨s.b,0,none⟩))::kp_) (fun s=>(s.b,cells [vc, .int .i64 c.page,oV s.o c.tn.length, .int .i64 c.workers, .int .i64 c.grey, .int .i64 c.gens] 25)::(oH tnE 55 c.tn s.o++((b3,cells [vc, .int .i64 c.page,vt, .int .i64 c.workers, .int .i64 c.grey, .int .i64 c.gens] 25)::F))) (fun s=>oOk tnE c.tn s.o) ?_ ?_
  ·skip
   refine zJ ?_;refine K.drawn ((b3,cells [vc, .int .i64 c.page,vt, .int .i64 c.workers, .int .i64 c.grey, .int .i64 c.gens] 25)::F) [(0,1),(1,1),(2,1),(3,1),(5,1),(6,1),(8,1),(9,1),(10,1),(11,1),(12,1),(13,1),(4,3),(7,3),(14,1),(15,2),(16,2)] (by kernel_rfl) (by kernel_rfl) (by kernel_rfl) (by kernel_rfl) (by kernel_rfl) (by kernel_rfl) ja ?_;refine zcP ?_;refine zrI ?_;refine zcb ?_
   (first|refine KD.v1 rfl rfl (Val.fieldSl (k:=3) rfl rfl) ?_|refine KD.v1 rfl rfl (Val.fieldAddr0 (k:=3) rfl rfl) ?_|refine KD.v1 rfl rfl (Val.fieldAddrZ rfl rfl) ?_|refine KD.v1 rfl rfl (Val.fieldAddr (k:=3) rfl rfl) ?_)
   refine zcb ?_;refine zsN ?_;refine zcb ?_;refine zqT ?_;refine zcb ?_;refine KD.fork2 (x:=4) (y:=15) (o1:=[(7,3),(14,1),(15,2),(16,2)]) (o2:=[(4,2),(7,2),(14,0),(16,2)]) (by kernel_rfl) rfl rfl (by kernel_rfl) (by kernel_rfl) ?_ ?_
   ·(refine jP.e rfl (Eff.buildS jdh rfl rfl rfl rfl rfl jdk) ?_; rintro _ _ ⟨b29, rfl, rfl⟩; refine ⟨ja, ?_⟩)
    refine KD.fork2 (x:=7) (y:=15) (o1:=[(14,1),(15,2),(16,2)]) (o2:=[(7,2),(14,0),(16,2)]) (by kernel_rfl) rfl rfl (by kernel_rfl) (by kernel_rfl) ?_ ?_
    ·(refine jP.e rfl (Eff.appLit (E:=tnE) (ys:=c.tn) rfl rfl rfl rfl rfl rfl rfl ju (by first|exact Sli.blk ju rfl (by first|decide|simp) (by first|decide|(unfold maxLen;omega)) rfl|exact Sli.old (by assumption)|exact Sli.own jj (by assumption) jF|assumption|exact Sli.part (by assumption) ja) (by first|assumption|omega|(simp<;>fail)|(simp;omega)) rfl) ?_;rintro _ _ ⟨oa,oka,rfl,rfl⟩;refine⟨ja,?_⟩)
     refine KD.v1 rfl rfl (Val.build jdh rfl rfl jdk) ?_;refine zdd ?_;intro b7;exact KE.meet ⟨b7,oa⟩ jc ja oka
    ·(refine jP.e rfl (Eff.alloc rfl) ?_;rintro _ _ ⟨b7,rfl,rfl⟩;refine⟨ja,?_⟩)
     refine KD.e rfl rfl (Eff.appLit (E:=tnE) (ys:=c.tn) rfl rfl rfl rfl rfl rfl rfl ju (by first|exact Sli.blk ju rfl (by first|decide|simp) (by first|decide|(unfold maxLen;omega)) rfl|exact Sli.old (by assumption)|exact Sli.own jj (by assumption) jF|assumption|exact Sli.part (by assumption) ja) (by first|assumption|omega|(simp<;>fail)|(simp;omega)) rfl) ?_;rintro _ _ ⟨oa,oka,rfl,rfl⟩;refine⟨ja,?_⟩;refine zbT ?_;refine zbJ ?_;exact KE.meet ⟨b7,oa⟩ jc ja oka
   ·(refine jP.e rfl (Eff.alloc rfl) ?_;rintro _ _ ⟨b7,rfl,rfl⟩;refine⟨ja,?_⟩)
    refine zos ?_;intro b29;refine zcp ?_;refine KD.e rfl rfl (Eff.appLit (E:=tnE) (ys:=c.tn) rfl rfl rfl rfl rfl rfl rfl ju (by first|exact Sli.blk ju rfl (by first|decide|simp) (by first|decide|(unfold maxLen;omega)) rfl|exact Sli.old (by assumption)|exact Sli.own jj (by assumption) jF|assumption|exact Sli.part (by assumption) ja) (by first|assumption|omega|(simp<;>fail)|(simp;omega)) rfl) ?_;rintro _ _ ⟨oa,oka,rfl,rfl⟩;refine⟨ja,?_⟩;refine zbT ?_;refine zbJ ?_;exact KE.meet ⟨b7,oa⟩ jc ja oka
  ·rintro⟨b7,oa⟩ oka;dsimp only at oka⊢;refine zdo ?_;refine zh8 ?_;refine K.loopT (σ:=FsA) [(1,_),(2,_),(3,_),(7,_)] (fun s kp_=>(8, .int .i64 (s.k:Nat))::kp_) (fun s=>(b7,cells [vc, .int .i64 c.page,oV oa c.tn.length, .int .i64 c.workers, .int .i64 c.grey, .int .i64 c.gens] 25)::(oH tnE 55 s.L oa++((b3,cells [vc, .int .i64 c.page,vt, .int .i64 c.workers, .int .i64 c.grey, .int .i64 c.gens] 25)::F))) (fun s=>s.k≤c.tn.length∧oOk tnE s.L oa∧AssI c (((aa:Nat):Int)%1025) s.k s.L) (fun s=>c.tn.length-s.k) (⟨0,c.tn⟩) jc ja (⟨Nat.zero_le _,oka,AssI.new⟩) ?_;clear oka;rintro⟨k,L⟩ ⟨hk,oka,hI⟩;dsimp only at hk oka hI⊢
   have hLn:=hI.n
   by_cases hkl:k<c.tn.length
   ·have hkl':((k:Nat):Int)<((c.tn.length:Nat):Int):=by omega
    obtain⟨x,hx⟩:=jh hkl
    have hLx:=hI.t k x hx
    rw[if_neg (by omega)] at hLx
    have hkL:k<L.length:=by omega
    refine znu ?_;refine zct ?_;refine zI ?_;refine zkB ?_;refine zaa ?_;refine zB ?_;refine KL.v rfl (Val.remN rfl rfl (by omega)) ?_;refine zdr ?_;refine zcK ?_;refine KL.v rfl (Val.fieldSl (k:=3) rfl rfl) ?_;refine KL.eN (Eff.stSl (j:=3) (x1:=(⟨x.quota,x.trigger,x.caps,((aa:Nat):Int)%1025⟩:Tn)) rfl rfl rfl rfl jj oka hLx rfl rfl) ?_;rintro _ _ rfl;refine ziv ?_
    have hok2:oOk tnE (L.set k ⟨x.quota,x.trigger,x.caps,((aa:Nat):Int)%1025⟩) oa:=by
     revert oka
     cases oa with
     |none=>intro e;rw [show L=[] from e];rfl
     |some o=>
      rintro⟨q1,q2,q3⟩;exact zh1
    exact KE.again ⟨k+1,L.set k _⟩ jc ja ⟨by show k+1≤_;omega,hok2,hI.next hx⟩ (by show c.tn.length-(k+1)<c.tn.length-k;omega)
   ·have hkl': ¬((k:Nat):Int)<((c.tn.length:Nat):Int):=by omega
    obtain rfl:k=c.tn.length:=by omega
    have hc2:=assC_ok hc hI (by omega)
    refine znu ?_;refine zct ?_;refine zin ?_;refine zV ?_;refine zb3 ?_;rintro _ _ ⟨bf,f0,zf,rfl,rfl⟩;refine zcC ?_;refine zcf ?_;refine jB (hn2 (fmH f0++((b3,cells [vc, .int .i64 c.page,vt, .int .i64 c.workers, .int .i64 c.grey, .int .i64 c.gens] 25)::F)) L oa ja oka hLn ht8.2 hc2) ja ?_;rintro _ _ ⟨bg,g0,zg,rfl,rfl⟩;refine zhg ?_;refine zaX ?_;refine zd6 ?_;refine KL.e rfl (Eff.makeR (E:=toldE) (x0:=⟨none,0,0⟩) rfl rfl rfl rfl rfl rfl (by omega)) ?_;rintro _ _ ⟨o74,ok74,rfl,rfl⟩
    have hE0:Jv c (assC c L) (newHs c) (newHs (assC c L)):= .new hc hc2 hLn fun t ht=>ass_same hI ht
    have ht0:=jb2 (w0:=w0) (F:=F) ok74 ht8.2
    obtain⟨co,hco⟩: ∃ co,co=assC c L:=⟨_,rfl⟩
    change FmZ bg (assC c L) (newHs (assC c L)) 1 g0 at zg
    rw[←hco] at hE0 zg;refine zbs ?_;refine K.loopT (σ:=FsS) [(1,_),(9,_),(11,_)] (fun s kp_=>(14, .int .i64 (s.i:Nat))::(13,s.tv)::kp_) (fun s=>fmH s.f++(fmH s.g++(s.D++F))) (fun s=>s.i≤l.length∧s.i≤80∧FmZ bf c s.hf s.n s.f∧FmZ bg co s.hg s.m s.g∧s.n≤1+s.i*2∧s.m≤1+s.i*2∧Jv c co s.hf s.hg∧ToldR w0 (s.D++F) s.tv s.rows∧Jb s.rows s.i) (fun s=>l.length-s.i) (⟨0,1,f0,newHs c,1,g0,newHs co,List.replicate c.tn.length [],oH toldE 47 (List.replicate c.tn.length ⟨none,0,0⟩) o74,_⟩) jc ja (⟨Nat.zero_le _,Nat.zero_le _,zf,zg,by show 1≤1+0*2;omega,by show 1≤1+0*2;omega,hE0,ht0,Jb.rep _⟩) ?_;clear hE0 ht0 zf zg ok74 hI oka hn2;rintro⟨i,n,f,hf,m,g,hg,rows,D,tv⟩ ⟨hi,hi8,zf,zg,hn,hm,hE,hTo,hRo⟩;dsimp only at hi hi8 zf zg hn hm hE hTo hRo⊢
    by_cases hc1:i<l.length
    ·have hc1':((i:Nat):Int)<((l.length:Nat):Int):=by omega
     by_cases hcc:i<80
     ·have hc2':((i:Nat):Int)<80:=by omega
      obtain⟨x,hx⟩:=jh hc1
      have hxo:=hlo x (List.mem_of_getElem? hx)
      have hu:=hRo.of (t:=x.t)
      have hop:=fun A v (hS:Sli w0 A uE v (ofF rows x.t))=>jcf (w0:=w0) (F:=A) hxo hS hu
      have hzo:=jbX hxo hu
      obtain⟨z,hz⟩: ∃ z,opA x (ofF rows x.t)=z:=⟨_,rfl⟩
      rw[hz] at hop hzo;clear hz
      obtain⟨xt,xo,xH,xV,wk,xk,xp,xu⟩:=x
      have hxu:xu<256:=hxo.u
      dsimp only at hop
      cases wk with
      |true=>
       have hs1:=fun A=>zStep (w0:=w0) (F:=A) (p:=⟨xk,xp,xu⟩) hG zf (by omega) hxu rfl rfl
       have hs2:=fun A=>zStep (w0:=w0) (F:=A) (p:=⟨xk,xp,xu⟩) hG zg (by omega) hxu rfl rfl
       simp only[pkV] at hs1 hs2;refine zhe ?_;intro b15;refine zbP ?_;refine ziy ?_;rintro _ _ ⟨rfl,f1,zf1,rfl⟩;refine zcg ?_;refine zpN ?_;refine jB (hs2 _) ja ?_;rintro _ _ ⟨rfl,g1,zg1,rfl⟩;refine za3 ?_;refine zix ?_;exact KE.again ⟨i+1,n,f1,_,m,g1,_,rows,D,tv⟩ jc ja ⟨hc1,hcc,zf1,zg1,by show n≤1+(i+1)*2;omega,by show m≤1+(i+1)*2;omega,hE.stepL.stepR,hTo,hRo.mono (by show i≤i+1;omega)⟩ (by show l.length-(i+1)<l.length-i;omega)
      |false=>
       obtain⟨hd1,hd2⟩:=hE.do_ (op:=z) (i:=xt) hzo.v
       have hlt:=zf.hlt (op:=z) (j:=xt)
       have hdo1:=fun A=>zDo (w0:=w0) (F:=A) (i:=xt) hG zf (by omega) hzo rfl rfl
       have hdo2:=fun A=>zDo (w0:=w0) (F:=A) (i:=xt) hG zg (by omega) hzo hd1 rfl
       obtain⟨⟨⟨e,hh,w,addr,us,si,cy,ac⟩,er⟩,hs9,hv⟩: ∃ (q:SnP × Int) (h9:List HpP),faDo c hf xt z=(q,h9):=⟨_,_,rfl⟩
       rw[hv] at hd1 hd2 hlt;simp only[hv] at hdo1 hdo2;dsimp only at hlt
       have hal:=fun A=>jbt (w0:=w0) (G:=A) (t:=xt) (w:=hh) hTo (hRo.le (by omega))
       obtain⟨zc,zh,za,zb,zv⟩:=z
       unfold opV snV at hdo1 hdo2;unfold opV at hop;dsimp only at hdo1 hdo2 hop;clear hv;refine zhe ?_;intro b15;refine zax ?_;refine K.cutT (σ:=FsC) [(1,_),(9,_),(11,_),(13,_),(14,_),(15,_)] jc (fun s kp_=>(16, .pointer (some ⟨s.b,0,none⟩))::kp_) (fun s=>(s.b,cells [.int .u8 (zc:Nat), .int .u64 (zh:Nat), .int .i64 za, .int .i64 zb, .int .u64 (zv:Nat)] 36)::((b15,cells [.int .i64 xt, .int .u8 (xo.c:Nat), .int .u64 (xo.h:Nat), .int .i64 xo.a, .int .i64 xo.b, .int .u64 (xo.v:Nat), .int .i64 xH, .int .i64 xV, .bool false, .int .i64 xk, .int .i64 xp, .int .u8 (xu:Nat)] 40)::(fmH f++(fmH g++(D++F))))) (fun s=>True) ?_ ?_
       ·skip
        refine zJ ?_;refine K.drawn ((b15,cells [.int .i64 xt, .int .u8 (xo.c:Nat), .int .u64 (xo.h:Nat), .int .i64 xo.a, .int .i64 xo.b, .int .u64 (xo.v:Nat), .int .i64 xH, .int .i64 xV, .bool false, .int .i64 xk, .int .i64 xp, .int .u8 (xu:Nat)] 40)::(fmH f++(fmH g++(D++F)))) [(0,1),(1,1),(2,1),(3,1),(4,3),(5,3),(6,2),(7,2)] (by kernel_rfl) (by kernel_rfl) (by kernel_rfl) (by kernel_rfl) (by kernel_rfl) (by kernel_rfl) ja ?_;refine zf4 ?_;refine KD.fork2 (x:=4) (y:=6) (o1:=[(5,3),(6,2),(7,2)]) (o2:=[(4,2),(5,2),(7,2)]) (by kernel_rfl) rfl rfl (by kernel_rfl) (by kernel_rfl) ?_ ?_
        ·refine zT fun T hT=>?_;refine zcd ?_;rintro _ _ ⟨tv1,htv,rfl,rfl⟩;refine zi ?_;clear hT T;refine KD.fork2 (x:=5) (y:=6) (o1:=[(6,2),(7,2)]) (o2:=[(5,2),(7,2)]) (by kernel_rfl) rfl rfl (by kernel_rfl) (by kernel_rfl) ?_ ?_
         ·refine zT fun T hT=>?_;refine zaU ?_;rintro _ _ ⟨rfl,rfl⟩;refine zi ?_;clear hT T;refine zdd ?_;intro b16;exact KE.meet ⟨b16⟩ jc ja trivial
         ·(refine jP.e rfl (Eff.alloc rfl) ?_;rintro _ _ ⟨b16,rfl,rfl⟩;refine⟨ja,?_⟩)
          refine zk fun T hT=>?_;refine zaU ?_;rintro _ _ ⟨rfl,rfl⟩;refine zi ?_;clear hT T;refine zbJ ?_;exact KE.meet ⟨b16⟩ jc ja trivial
        ·(refine jP.e rfl (Eff.alloc rfl) ?_;rintro _ _ ⟨b16,rfl,rfl⟩;refine⟨ja,?_⟩)
         refine zk fun T hT=>?_;refine zcd ?_;rintro _ _ ⟨tv1,htv,rfl,rfl⟩;refine zi ?_;clear hT T;refine zk fun T hT=>?_;refine zaU ?_;rintro _ _ ⟨rfl,rfl⟩;refine zi ?_;clear hT T;refine zbJ ?_;exact KE.meet ⟨b16⟩ jc ja trivial
       ·rintro⟨b16⟩ _;refine zkp ?_;rintro _ _ ⟨rfl,f1,zf1,rfl⟩;refine zaO ?_;intro b17;refine zpQ ?_;refine jB (hdo2 _) ja ?_;rintro _ _ ⟨rfl,g1,zg1,rfl⟩;refine ziC ?_;intro b19;refine zR ?_;simp only[eq_self,decide_true,beq_self_eq_true,Bool.and_self,Bool.not_true];refine KE.next (K.condF rfl (K.skip (KE.next (K.region ?_))));refine ziz fun T hT=>?_;refine zfM ?_;rintro tv2 _ ⟨_,D2,hTo2,rfl,rfl⟩;refine ze ?_;clear hT T;refine zf6 ?_;exact KE.again ⟨i+1,n+2,f1,hs9,m+2,g1,_,alsoF rows xt hh,D2++D,tv2⟩ jc (by simp only[List.append_assoc];exact ja) ⟨hc1,hcc,zf1,zg1,by show n+2≤1+(i+1)*2;omega,by show m+2≤1+(i+1)*2;omega,hd2,by simp only[List.append_assoc];exact hTo2,hRo.also hlt⟩ (by show l.length-(i+1)<l.length-i;omega)
     ·have hc2': ¬((i:Nat):Int)<80:=by omega
      refine zdV ?_;refine zh7 ?_;refine zA ?_;exact zgg
    ·have hc1': ¬((i:Nat):Int)<((l.length:Nat):Int):=by omega
     refine zce ?_;refine zcy ?_;refine zb1 ?_;exact zgg
end
end Go.Proofs.YtebiafomiemgbaaGreatDoor.Sw
