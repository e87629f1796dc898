/-What the law needs of its own,part 1. -/
import Derived.Test.YtpcgafhgfjlkmaaGreatDoorD1
import Derived.WalkKit
import Derived.ProofKit
import Derived.RangeFuncNested
import Derived.RangeFuncBound
import Derived.RangeFuncCalls
import Derived.RangeFuncLeaves
import Derived.Lib.Hide
import Derived.Sort.BigQuietIn
import Derived.Deep.Quiet
import Derived.StillTailTactics
import Derived.Deep.LoopGhost
import Derived.Laws.Cells
import Derived.OrdersIn
import Derived.Deep.OwnRows
import Derived.Laws.CopyOwn
import Derived.IntWalk
import Derived.ArgAppend
import Derived.Deep.Slices
import Derived.Deep.Fields
import Derived.Laws.IdiomStrings
import Derived.Laws.StructEq
import Derived.Maps.RangeRun
import Derived.Laws.Externs
import Derived.Laws.FloatArith
import Derived.Laws.NewFold
import Derived.RecoverIn
import Derived.Shelf.Strconv.Itoa0
import Derived.Shelf.Bits.Mul64
import Derived.Shelf.Slices.Turned
import Derived.Test.YtpcgafhgfjlkmaaGreatDoorProg
import Derived.SizedLaws
import Derived.Lib.SmallJoins
import Derived.ChangeMaps5
import Derived.Lib.TrailingZeros
import Derived.Lib.BitFns
import Derived.Shelf.Spec.TrailingZeros
import Derived.Test.YtpcgafhgfjlkmaaGreatDoorRows
import Derived.OpenShut
import Derived.LaidMore
import Derived.Lay
import Derived.LaidHandle
import Derived.Test.YtpcgafhgfjlkmaaGreatDoorJ39
set_option linter.unusedVariables false set_option linter.unusedSimpArgs false namespace Go.Proofs.YtpcgafhgfjlkmaaGreatDoor
set_option maxHeartbeats 8000000
open Go.RowKit Go.ChangeShapes Go.WideShapes
set_option linter.unusedVariables false
set_option autoImplicit false
theorem byBlk {G G':Prop} (k:G') (h:G'→G:=by intro k;((repeat (refine KE.next ?_));(first|refine K.block ?_|refine K.seq (K.block ?_)));exact k):G:=h k
open Go.RowKit Go.ChangeShapes Go.WideShapes Go.ChangeAt Go.Deep
variable {P : Program}
theorem slice_sl {α:Type} {E:Enc α} {H:Type} {enc:TypeId × Value→H} {W:World} {base:Nat} {t e:TypeId} (ht:P.underlying t=some (.slice e)) (hk:P.cellsOf e=E.sz) (hk0:0<E.sz) {v:Value} {d:DataW H} {p:List MemPlace}
  (ho:Value.okWide P W .any base t v) (h:DataW.Trod enc P W 0 (fun _=>true) true t v d p) (Ok:α→Prop)
  (hR: ∀ fuel cs x,DataW.trod enc P W 0 (fun _=>true) true fuel e cs=some x→cs.length=E.sz→ ∃ y,cs=E.enc y∧Ok y):
  ∃ ys:List α,SlW W E v ys∧ ∀ y∈ys,Ok y:=by
 obtain⟨a,len,cap,rfl⟩:=okWide_slice ht ho
 obtain⟨fuel,hf⟩:=h
 rcases open_slice ht hf with⟨hcs,_⟩|⟨a',len',cap',m,n,D,Pl,hcs,_,hl,hm,hmm,_,hx⟩
 ·simp[Value.cells] at hcs
  obtain⟨rfl,rfl,rfl⟩:=hcs
  exact⟨[],SlW.nil W E,fun y hy=>by cases hy⟩
 ·simp[Value.cells] at hcs
  obtain⟨rfl,rfl,rfl⟩:=hcs
  simp only[if_true] at hmm;subst hmm
  have key: ∀ i,i<len→ ∃ y,Ok y∧ ∀ j,j<E.sz→W.cell? (a'.add (i*E.sz+j))=(E.enc y)[j]? :=by
   intro i hi
   obtain⟨cs',h1,h2⟩:=hx i (by omega)
   rw[hk] at h1
   obtain⟨_,hlen,hat⟩:=World.cells?_some h1
   obtain⟨y,rfl,hy⟩:=hR _ _ _ h2 hlen
   exact zkP
  obtain⟨ys,hys,hall⟩:=jgC len (fun i y=>Ok y∧ ∀ j,j<E.sz→W.cell? (a'.add (i*E.sz+j))=(E.enc y)[j]?) key
  subst hys
  have hspot:0<ys.length→ ∃ b off,a'=⟨b,off,none⟩:=by
   intro hpos
   obtain⟨b,off,spot⟩:=a'
   obtain⟨y0,_,hc0⟩:=key 0 hpos
   have h1:=hc0 0 hk0
   rw[List.getElem?_eq_getElem (by rw[E.len];exact hk0)] at h1
   have hsp:spot=none:=by simpa [Addr.add] using World.cell?_spot h1
   subst hsp;exact⟨b,off,rfl⟩
  refine⟨ys,⟨⟨some a',m,rfl,hl,hm,fun hne=>?_⟩,?_⟩,?_⟩
  ·obtain⟨b,off,rfl⟩:=hspot (List.length_pos_iff.2 hne)
   exact⟨b,off,rfl⟩
  ·intro i y hy j u hu
   have hi:=(List.getElem?_eq_some_iff.1 hy).1
   obtain⟨b,off,rfl⟩:=hspot (by omega)
   have hj:j<E.sz:=by have:=(List.getElem?_eq_some_iff.1 hu).1;rwa[E.len] at this
   have:=(hall i y hy).2 j hj
   rw[jbb,hu] at this
   simpa [adr] using this
  ·intro y hy
   obtain⟨i,hi⟩:=List.getElem?_of_mem hy
   exact(hall i y hi).1
open Go.RowKit Go.ChangeShapes Go.WideShapes Go.ChangeAt Go.Deep Go.Joins
set_option maxRecDepth 100000
def jaJ (z:Int):Prop:=0≤z∧z≤18446744073709551615
def u8ok (z:Int):Prop:=0≤z∧z≤255
theorem jbF {z:Int} (h:(Lit.int .u64 z).wf=true):jaJ z:=by simpa [Lit.wf,IntKind.min,IntKind.max,IntKind.signed,IntKind.bits,jaJ] using h
theorem wf_u8 {z:Int} (h:(Lit.int .u8 z).wf=true):u8ok z:=by simpa [Lit.wf,IntKind.min,IntKind.max,IntKind.signed,IntKind.bits,u8ok] using h
end Go.Proofs.YtpcgafhgfjlkmaaGreatDoor
set_option linter.unusedSimpArgs false
namespace Go.Proofs.YtpcgafhgfjlkmaaGreatDoor.Sw
open Go.Proofs.YtpcgafhgfjlkmaaGreatDoor renaming lo → qL, hi → qH
open Go.RowKit
set_option maxRecDepth 10000
section
variable {C : HpC} {wr : Bool} {h h' : HpP} {s s' : CyP} {n : Nat}
theorem jaQ {op:OpP}:(hpDo C h op).1.e=(jt C {h with wk:=0} op).1.e:=by
 unfold hpDo ja1
 split<;>rfl
end
set_option maxRecDepth 10000
section
variable {C : HpC} {wr : Bool} {h h' : HpP} {s s' : CyP} {n : Nat}
theorem mint_slot {T:List jh} {tn t:Nat} (htn:tn<256) (hT:T.length≤1024) (he: ∀ e∈T,1≤e.gen∧e.gen≤2147483648) (hf:(Ju T).isSome=true):hpSlot tn (jK T (t:Nat)) (JG tn T)=some ((t:Nat):Int):=by
 obtain⟨j,hj⟩:=Option.isSome_iff_exists.1 hf
 obtain⟨⟨e0,g1,g2⟩,_⟩:=ja7 hj
 have hl:=jx g1
 have hb:=he e0 (List.mem_of_getElem? g1)
 unfold JG jar jK hpSlot;rw[hj];dsimp only;simp only[jcd g1,Int.toNat_natCast,jem (t:=tn) (i:=j) (n:=e0.gen.toNat) (by omega) (by omega),jen (t:=tn) (i:=j) (n:=e0.gen.toNat) (by omega),jgr (t:=tn) (i:=j) (n:=e0.gen.toNat) (by omega) (by omega)];rw[if_pos ⟨by omega,trivial⟩];unfold namedT;rw[if_pos (by omega),Int.toNat_natCast,List.getElem?_set_self hl];dsimp only;rw[if_pos ⟨rfl,by omega⟩]
 rfl
theorem jdX (hC:jk C) (hI:HeI C h) {a b:Int} (h0:(jE C h a b).1.e=0):NewO C (jE C h a b).2 (jE C h a b).1.h a b:=by
 have ok:=hC.g
 unfold jE at h0⊢
 split at h0
 ·cases h0
 ·rename_i hm
  rw[if_neg hm]
  split at h0
  ·cases h0
  ·rename_i hk
   rw[if_neg hk];dsimp only at h0⊢
   have m1:=jb3 (wr:=true) hC hI (k:=classI C.g (a+b+1))
   have hI1:=hI.mvs hC m1
   revert h0 hI1
   generalize allocR C h (classI C.g (a+b+1))=h1
   intro h0 hI1
   split at h0
   ·cases h0
   ·rename_i h2
    rw[if_neg h2]
    split at h0
    ·cases h0
    ·rename_i h3
     rw[if_neg h3]
     obtain⟨j,y,ht,g3,hy,hcl,hsz,hmay2,hlies⟩:=jcy hC hI1 (not_false' hm) hk (not_false' h2)
     have m2:HpMv C true h1 _:=jbV hC hI1 (not_false' hm) hk (not_false' h2) (not_false' h3)
     have hI2:=hI1.mv hC m2
     have hw:=jcU (n:=C.g.y (classI C.g (a+b+1))) hC hI2
     obtain⟨q1,q2,q3⟩:=jeN ok hI1.ok.w.x hy (hI1.zr g3) hlies
     have hs2:(mkC C.g h1.s (classI C.g (a+b+1):Nat) ⟨(classI C.g (a+b+1):Nat),a,b⟩).W={h1.s.W with T:=jK h1.s.W.T (j:Nat),x:=(makeP h1.s.W.x y ⟨(classI C.g (a+b+1):Nat),a,b⟩).2}:=by
      unfold mkC;rw [ht];dsimp only;rw [jC hy]
     have hsl:hpSlot C.tn (mkC C.g h1.s (classI C.g (a+b+1):Nat) ⟨(classI C.g (a+b+1):Nat),a,b⟩).W.T (JG C.tn h1.s.W.T)=some ((j:Nat):Int):=by
      rw[hs2];exact zk2
     have hr:RchM C.g (mkC C.g h1.s (classI C.g (a+b+1):Nat) ⟨(classI C.g (a+b+1):Nat),a,b⟩).W j:=jax.slot (jai hsl)
     have hS:=hw.w j hr
     refine⟨j,y,classI C.g (a+b+1),?_,hy,?_,hmay2,fun i i1 i2=>?_⟩
     ·show hpSlot C.tn (jaS C _ {h1 with s:=mkC C.g h1.s _ _}).s.W.T _=_
      unfold hpSlot at hsl⊢;rw[hw.nm];exact hsl
     ·rw[jcN ok hS hy]
      show headP (mkC C.g h1.s _ _).W.x y=_
      rw[hs2];exact q2
     ·rw[hS y hy i i2]
      show wAt (mkC C.g h1.s _ _).W.x _=_
      rw[hs2];exact q3 i i1 i2
end
open Go.RowKit
set_option maxRecDepth 10000
section
variable {w0 : World} {F : jb} {y : CyM} {s : CyP} {g : PlG} {long : Nat}
theorem jfb {t:Nat} (h:CpR g long y s):Call Tryz.prog w0 24 [.pointer (some ⟨y.a.b,0,none⟩), .int .i64 (t:Nat)] (cycH y++F) (fun r H'=>r= .bool ((s.A[t]?).getD false)∧H'=cycH y++F):=by
 have hc:=Call.ro (w0:=w0) (A:=jW y.a y.B.p) (H:=cycH y++F) (fun F=>Has_K (F:=F) (i:=(t:Nat)) h.oka) (by rw[cycH_app];exact ja)
 rw[jdC,h.A] at hc;exact hc
end
set_option maxRecDepth 10000
section
variable {w0 : World} {D : HpD} {nf nk n : Nat} {y y' : CyM} {h : HpP} {s s' : CyP} {F G : jb} {op : OpP} {z : jg}
theorem jbC:Call Tryz.prog w0 17 [.pointer (some ⟨D.b,0,none⟩)] (hpH D y h++F) (fun r H'=>r= .pointer (some ⟨D.yb,0,none⟩)∧H'=hpH D y h++F):=by
 have hnone:=fun A=>jb5 (w0:=w0) (D:=D) (y:=y) (h:=h) (F:=A)
 refine zfX ?_;refine zfN ?_;refine za2 ?_;exact zfM
end
set_option maxRecDepth 10000
theorem jdy {T:List Int} {i:Int} {d:Nat} (h: ¬(0≤i∧0<T.length)):pickT T i d=d:=if_neg h
section
variable {w0 : World} {F : jb} {x : jU} {T : List Int} {v : Value}
set_option maxHeartbeats 1000000 in
theorem op_K (hx:J7 x) (hS:Sli w0 F uE v T) (hT:u64s T):Call Tryz.prog w0 15 [.agg (acL x).toArray,v] F (fun r H'=>r=opV (opA x T)∧H'=F):=by
 obtain⟨⟨c,h,a,b,vv⟩,H,V,wk,k,u⟩:=x
 unfold acL opV opA;dsimp only
 by_cases hl:0<T.length
 ·have hl0:((T.length:Nat):Int)>0:=by omega
  have hl1: ¬((T.length:Nat):Int)=0:=by omega
  by_cases hH:0≤H
  ·have hH':H≥0:=hH
   obtain⟨i,e,i1,i2,i3,i4⟩:=pick_at hT hH hl h
   have i3':T[((i:Nat):Int).toNat]?=some ((e:Nat):Int):=i3
   rw[i4]
   by_cases hV:0≤V
   ·have hV':V≥0:=hV
    obtain⟨j,f,j1q,j2,j3q,j4q⟩:=pick_at hT hV hl vv
    have j3':T[((j:Nat):Int).toNat]?=some ((f:Nat):Int):=j3q
    rw[j4q];refine Call.enter2 (n:=43) (by kernel_rfl) Tryz.func15 rfl rfl rfl ?_;refine zit ?_;intro b2 b4;refine zaZ ?_;refine z3 ?_;refine zfd ?_;intro b5;refine zdH ?_;refine zca ?_;refine zp ?_;refine zaz ?_;refine zA ?_;refine zcx ?_;refine zbs ?_;refine zw ?_;refine zcI ?_;refine zdC ?_
    (first|(refine KL.v rfl (Val.fieldSl (k:=5) rfl rfl) ?_)|(refine KL.v rfl (Val.fieldAddr0 (k:=5) rfl rfl) ?_)|(refine KL.v rfl (Val.fieldAddrZ rfl rfl) ?_)|(refine KL.v rfl (Val.fieldAddr (k:=5) rfl rfl) ?_))
    refine zbo ?_;refine ze ?_;refine zjO ?_
    (first|(refine KL.v rfl (Val.remN rfl rfl (by omega)) ?_)|(refine KL.v rfl (Val.rem rfl rfl (by omega)) ?_))
    rw[i1];refine zk1 ?_;refine zbo ?_;refine zc7 ?_;refine zfW ?_;refine zdH ?_;refine zbI ?_;refine zp ?_;refine zaz ?_;refine zA ?_;refine zcx ?_;refine zbs ?_;refine zw ?_;refine zcI ?_;refine zdC ?_
    (first|(refine KL.v rfl (Val.fieldSl (k:=6) rfl rfl) ?_)|(refine KL.v rfl (Val.fieldAddr0 (k:=6) rfl rfl) ?_)|(refine KL.v rfl (Val.fieldAddrZ rfl rfl) ?_)|(refine KL.v rfl (Val.fieldAddr (k:=6) rfl rfl) ?_))
    refine zbo ?_;refine ze ?_;refine zjO ?_
    (first|(refine KL.v rfl (Val.remN rfl rfl (by omega)) ?_)|(refine KL.v rfl (Val.rem rfl rfl (by omega)) ?_))
    rw[j1q];refine zk1 ?_;refine zbo ?_
    (first|(refine KL.v rfl (Val.fieldSl (k:=4) rfl rfl) ?_)|(refine KL.v rfl (Val.fieldAddr0 (k:=4) rfl rfl) ?_)|(refine KL.v rfl (Val.fieldAddrZ rfl rfl) ?_)|(refine KL.v rfl (Val.fieldAddr (k:=4) rfl rfl) ?_))
    refine zfW ?_;refine zW ?_;refine zlh ?_;exact zZ
   ·have hV': ¬V≥0:=hV
    rw[jdy (i:=V) (fun q=>hV q.1)];refine Call.enter2 (n:=43) (by kernel_rfl) Tryz.func15 rfl rfl rfl ?_;refine zit ?_;intro b2 b4;refine zaZ ?_;refine z3 ?_;refine zfd ?_;intro b5;refine zdH ?_;refine zca ?_;refine zp ?_;refine zaz ?_;refine zA ?_;refine zcx ?_;refine zbs ?_;refine zw ?_;refine zcI ?_;refine zdC ?_
    (first|(refine KL.v rfl (Val.fieldSl (k:=5) rfl rfl) ?_)|(refine KL.v rfl (Val.fieldAddr0 (k:=5) rfl rfl) ?_)|(refine KL.v rfl (Val.fieldAddrZ rfl rfl) ?_)|(refine KL.v rfl (Val.fieldAddr (k:=5) rfl rfl) ?_))
    refine zbo ?_;refine ze ?_;refine zjO ?_
    (first|(refine KL.v rfl (Val.remN rfl rfl (by omega)) ?_)|(refine KL.v rfl (Val.rem rfl rfl (by omega)) ?_))
    rw[i1];refine zk1 ?_;refine zbo ?_;refine zc7 ?_;refine zfW ?_;refine zdH ?_;refine zbI ?_;refine zp ?_;refine zbO ?_;refine zax ?_;refine zz ?_;refine zlh ?_;exact zZ
  ·have hH': ¬H≥0:=hH
   rw[jdy (i:=H) (fun q=>hH q.1)]
   by_cases hV:0≤V
   ·have hV':V≥0:=hV
    obtain⟨j,f,j1q,j2,j3q,j4q⟩:=pick_at hT hV hl vv
    have j3':T[((j:Nat):Int).toNat]?=some ((f:Nat):Int):=j3q
    rw[j4q];refine Call.enter2 (n:=43) (by kernel_rfl) Tryz.func15 rfl rfl rfl ?_;refine zit ?_;intro b2 b4;refine zaZ ?_;refine z3 ?_;refine zfd ?_;intro b5;refine zdH ?_;refine zca ?_;refine zp ?_;refine zbO ?_;refine zax ?_;refine z9 ?_;refine zbI ?_;refine zp ?_;refine zaz ?_;refine zA ?_;refine zcx ?_;refine zbs ?_;refine zw ?_;refine zcI ?_;refine zdC ?_
    (first|(refine KL.v rfl (Val.fieldSl (k:=6) rfl rfl) ?_)|(refine KL.v rfl (Val.fieldAddr0 (k:=6) rfl rfl) ?_)|(refine KL.v rfl (Val.fieldAddrZ rfl rfl) ?_)|(refine KL.v rfl (Val.fieldAddr (k:=6) rfl rfl) ?_))
    refine zbo ?_;refine ze ?_;refine zjO ?_
    (first|(refine KL.v rfl (Val.remN rfl rfl (by omega)) ?_)|(refine KL.v rfl (Val.rem rfl rfl (by omega)) ?_))
    rw[j1q];refine zk1 ?_;refine zbo ?_
    (first|(refine KL.v rfl (Val.fieldSl (k:=4) rfl rfl) ?_)|(refine KL.v rfl (Val.fieldAddr0 (k:=4) rfl rfl) ?_)|(refine KL.v rfl (Val.fieldAddrZ rfl rfl) ?_)|(refine KL.v rfl (Val.fieldAddr (k:=4) rfl rfl) ?_))
    refine zfW ?_;refine zW ?_;refine zlh ?_;exact zZ
   ·have hV': ¬V≥0:=hV
    rw[jdy (i:=V) (fun q=>hV q.1)];refine Call.enter2 (n:=43) (by kernel_rfl) Tryz.func15 rfl rfl rfl ?_;refine zit ?_;intro b2 b4;refine zaZ ?_;refine z3 ?_;refine zfd ?_;intro b5;refine zdH ?_;refine zca ?_;refine zp ?_;refine zbO ?_;refine zax ?_;refine z9 ?_;refine zbI ?_;refine zp ?_;refine zbO ?_;refine zax ?_;refine zz ?_;refine zlh ?_;exact zZ
 ·have hl0: ¬((T.length:Nat):Int)>0:=by omega
  rw[jdy (i:=H) (fun q=>hl q.2),jdy (i:=V) (fun q=>hl q.2)]
  by_cases hH:0≤H
  ·have hH':H≥0:=hH
   by_cases hV:0≤V
   ·have hV':V≥0:=hV
    refine Call.enter2 (n:=43) (by kernel_rfl) Tryz.func15 rfl rfl rfl ?_;refine zit ?_;intro b2 b4;refine zaZ ?_;refine z3 ?_;refine zfd ?_;intro b5;refine zdH ?_;refine zca ?_;refine zp ?_;refine zaz ?_;refine zA ?_;refine zcx ?_;refine zcq ?_;refine zw ?_;refine z9 ?_;refine zbI ?_;refine zp ?_;refine zaz ?_;refine zA ?_;refine zcx ?_;refine zcq ?_;refine zw ?_;refine zz ?_;refine zlh ?_;exact zZ
   ·have hV': ¬V≥0:=hV
    refine Call.enter2 (n:=43) (by kernel_rfl) Tryz.func15 rfl rfl rfl ?_;refine zit ?_;intro b2 b4;refine zaZ ?_;refine z3 ?_;refine zfd ?_;intro b5;refine zdH ?_;refine zca ?_;refine zp ?_;refine zaz ?_;refine zA ?_;refine zcx ?_;refine zcq ?_;refine zw ?_;refine z9 ?_;refine zbI ?_;refine zp ?_;refine zbO ?_;refine zax ?_;refine zz ?_;refine zlh ?_;exact zZ
  ·have hH': ¬H≥0:=hH
   by_cases hV:0≤V
   ·have hV':V≥0:=hV
    refine Call.enter2 (n:=43) (by kernel_rfl) Tryz.func15 rfl rfl rfl ?_;refine zit ?_;intro b2 b4;refine zaZ ?_;refine z3 ?_;refine zfd ?_;intro b5;refine zdH ?_;refine zca ?_;refine zp ?_;refine zbO ?_;refine zax ?_;refine z9 ?_;refine zbI ?_;refine zp ?_;refine zaz ?_;refine zA ?_;refine zcx ?_;refine zcq ?_;refine zw ?_;refine zz ?_;refine zlh ?_;exact zZ
   ·have hV': ¬V≥0:=hV
    refine Call.enter2 (n:=43) (by kernel_rfl) Tryz.func15 rfl rfl rfl ?_;refine zit ?_;intro b2 b4;refine zaZ ?_;refine z3 ?_;refine zfd ?_;intro b5;refine zdH ?_;refine zca ?_;refine zp ?_;refine zbO ?_;refine zax ?_;refine z9 ?_;refine zbI ?_;refine zp ?_;refine zbO ?_;refine zax ?_;refine zz ?_;refine zlh ?_;exact zZ
end
open Go.RowKit
set_option maxRecDepth 10000
def haE:Enc jU:=⟨acL,10,fun _=>rfl,by intro x v hv;simp[acL] at hv;rcases hv with rfl|rfl|rfl|rfl|rfl|rfl|rfl|rfl|rfl|rfl<;>rfl⟩
section
variable {C : HpC} {h h' : HpP} {T G : List Int} {op : OpP}
theorem StI.new0 (hC:jk C):StI C (newH C) [] []:=⟨HeI.new hC,fun x hx=>(by cases hx),fun x hx=>(by cases hx)⟩
end
open Go.RowKit Go.ChangeShapes Go.WideShapes Go.ChangeAt Go.Deep Go.Joins
set_option maxRecDepth 100000
section
variable {H : Type} {enc : TypeId × Value → H} {W : World}
theorem jdL {fuel:Nat} {cs:List Value} {x:DataW H × List MemPlace} (hx:DataW.trod enc Tryz.prog W 0 (fun _=>true) true fuel 35 cs=some x) (hlen:cs.length=5): ∃ y:OpP,cs=[.int .u8 (y.c:Nat), .int .u64 (y.h:Nat), .int .i64 y.a, .int .i64 y.b, .int .u64 (y.v:Nat)]∧JN y:=by
 obtain⟨c0,c1,c2,c3,c4,rfl⟩: ∃ c0 c1 c2 c3 c4,cs=[c0,c1,c2,c3,c4]:=by
  match cs,hlen with
  | [c0,c1,c2,c3,c4],_=>exact⟨c0,c1,c2,c3,c4,rfl⟩
 obtain⟨xs,n,_,rfl,hl,hxl,hf⟩:=DataW.trod_struct Tryz.underlying35 hx
 have k8:(Tryz.prog).cellsOf 5=1:=by kernel_rfl
 have ku:(Tryz.prog).cellsOf 33=1:=by kernel_rfl
 have ki:(Tryz.prog).cellsOf 3=1:=by kernel_rfl
 match xs,hxl with
 | [y0,y1,y2,y3,y4],_=>
  have h0:=hf 0 _ rfl
  have h1:=hf 1 _ rfl
  have h2:=hf 2 _ rfl
  have h3:=hf 3 _ rfl
  have h4:=hf 4 _ rfl
  obtain⟨a0,e0,-,w0⟩:=DataW.trod_int Tryz.underlying5 (by simpa [k8,ku,ki] using h0)
  obtain⟨a1,e1,-,w1⟩:=DataW.trod_int Tryz.underlying33 (by simpa [k8,ku,ki] using h1)
  obtain⟨a2,e2,-,w2⟩:=DataW.trod_int Tryz.underlying3 (by simpa [k8,ku,ki] using h2)
  obtain⟨a3,e3,-,w3⟩:=DataW.trod_int Tryz.underlying3 (by simpa [k8,ku,ki] using h3)
  obtain⟨a4,e4,-,w4⟩:=DataW.trod_int Tryz.underlying33 (by simpa [k8,ku,ki] using h4)
  simp at e0 e1 e2 e3 e4
  have hu0:=wf_u8 w0
  have hu1:=jbF w1
  have hu4:=jbF w4
  unfold u8ok at hu0;unfold jaJ at hu1 hu4
  obtain⟨n0,rfl⟩: ∃ n0:Nat,a0=n0:=⟨a0.toNat,by omega⟩
  obtain⟨n1,rfl⟩: ∃ n1:Nat,a1=n1:=⟨a1.toNat,by omega⟩
  obtain⟨n4,rfl⟩: ∃ n4:Nat,a4=n4:=⟨a4.toNat,by omega⟩
  subst e0 e1 e2 e3 e4;exact zjM
theorem hact_in {fuel:Nat} {cs:List Value} {x:DataW H × List MemPlace} (hx:DataW.trod enc Tryz.prog W 0 (fun _=>true) true fuel 37 cs=some x) (hlen:cs.length=10): ∃ y:jU,cs=haE.enc y∧J7 y:=by
 obtain⟨c0,c1,c2,c3,c4,c5,c6,c7,c8,c9,rfl⟩: ∃ c0 c1 c2 c3 c4 c5 c6 c7 c8 c9,cs=[c0,c1,c2,c3,c4,c5,c6,c7,c8,c9]:=by
  match cs,hlen with
  | [c0,c1,c2,c3,c4,c5,c6,c7,c8,c9],_=>exact⟨c0,c1,c2,c3,c4,c5,c6,c7,c8,c9,rfl⟩
 obtain⟨xs,n,hn,rfl,hl,hxl,hf⟩:=DataW.trod_struct Tryz.underlying37 hx
 have k8:(Tryz.prog).cellsOf 5=1:=by kernel_rfl
 have kb:(Tryz.prog).cellsOf 4=1:=by kernel_rfl
 have ki:(Tryz.prog).cellsOf 3=1:=by kernel_rfl
 have ko:(Tryz.prog).cellsOf 35=5:=by kernel_rfl
 match xs,hxl with
 | [y0,y1,y2,y3,y4,y5],_=>
  have h0:=hf 0 _ rfl
  have h1:=hf 1 _ rfl
  have h2:=hf 2 _ rfl
  have h3:=hf 3 _ rfl
  have h4:=hf 4 _ rfl
  have h5:=hf 5 _ rfl
  obtain⟨o,eo,ho⟩:=jdL (cs:=[c0,c1,c2,c3,c4]) (by simpa [k8,kb,ki,ko] using h0) rfl
  obtain⟨a1,e1,-,w1⟩:=DataW.trod_int Tryz.underlying3 (by simpa [k8,kb,ki,ko] using h1)
  obtain⟨a2,e2,-,w2⟩:=DataW.trod_int Tryz.underlying3 (by simpa [k8,kb,ki,ko] using h2)
  obtain⟨a3,e3,-⟩:=DataW.trod_bool Tryz.underlying4 (by simpa [k8,kb,ki,ko] using h3)
  obtain⟨a4,e4,-,w4⟩:=DataW.trod_int Tryz.underlying3 (by simpa [k8,kb,ki,ko] using h4)
  obtain⟨a5,e5,-,w5⟩:=DataW.trod_int Tryz.underlying5 (by simpa [k8,kb,ki,ko] using h5)
  simp at eo e1 e2 e3 e4 e5
  have hu:=wf_u8 w5
  unfold u8ok at hu
  obtain⟨n5,rfl⟩: ∃ n5:Nat,a5=n5:=⟨a5.toNat,by omega⟩
  obtain⟨q0,q1,q2,q3,q4⟩:=eo
  subst q0 q1 q2 q3 q4 e1 e2 e3 e4 e5;exact zkQ
end
set_option maxRecDepth 100000
theorem jdB {H:Type} {enc:TypeId × Value→H} {W:World} {base:Nat} {v:Value} {d:DataW H} {p:List MemPlace} (ho:Value.okWide Tryz.prog W .any base 26 v) (h:DataW.Trod enc Tryz.prog W 0 (fun _=>true) true 26 v d p):
  ∃ l:List jU,SlW W haE v l∧ ∀ x∈l,J7 x:=slice_sl (P:=Tryz.prog) (E:=haE) Tryz.underlying26 (by kernel_rfl) (by decide) ho h J7 (fun fuel cs x hx hl=>hact_in hx hl)
open Go.RowKit
set_option maxRecDepth 10000
section
variable {w0 : World} {F : jb} {c : Cfg} {vc vt v u : Value} {l m : List jU}
theorem jgq {C:HpC} {h:HpP} {op:OpP} (hC:jk C) (hI:HeI C h):(hpDo C h op).1.h<18446744073709551616:=by
 by_cases h0:(hpDo C h op).1.h=0
 ·omega
 ·exact(jel hC hI h0).lt hC
end
set_option maxRecDepth 10000
section
variable {C : HpC} {wr : Bool} {h h' : HpP} {s s' : CyP} {n : Nat}
theorem jfg (hC:jk C) (hI:HeI C h) {a b:Int} (h0:(jE C h a b).1.e=0): ∃ (j:Nat) (y:jg),C.g.L[j]?=some y∧(jE C h a b).1.addr=(y.addr:Nat)∧(jE C h a b).2.s.A[j]?=some true∧y.cls=classI C.g (a+b+1)∧Jd ⟨0,a,b⟩=true∧ ¬classI C.g (a+b+1)=C.g.cl.length∧ ¬RchM C.g h.s.W j∧hpSlot C.tn (jE C h a b).2.s.W.T (jE C h a b).1.h=some ((j:Nat):Int):=by
 have hN:=jdX hC hI h0
 obtain⟨j0,y0,k0,n1,n2,_⟩:=hN.ex
 have hIE:=hI.mvs hC (jhi (wr:=true) hC hI (a:=a) (b:=b))
 have hr0:=hIE.rch (jax.slot (jai n1):RchM C.g _ j0)
 revert n1 hr0
 unfold jE at h0⊢
 split at h0
 ·cases h0
 ·rename_i hm
  rw[if_neg hm]
  split at h0
  ·cases h0
  ·rename_i hk
   rw[if_neg hk];dsimp only at h0⊢
   have m1:=jb3 (wr:=true) hC hI (k:=classI C.g (a+b+1))
   have hI1:=hI.mvs hC m1
   have hW:=jfT hC hI (k:=classI C.g (a+b+1))
   revert h0 hI1 hW
   generalize allocR C h (classI C.g (a+b+1))=h1
   intro h0 hI1 hW
   split at h0
   ·cases h0
   ·rename_i h2
    rw[if_neg h2]
    split at h0
    ·cases h0
    ·rename_i h3
     rw[if_neg h3];intro n1 hr0
     obtain⟨j,y,ht,g3,hy,hcl,hsz,hmay2,hlies⟩:=jcy hC hI1 (not_false' hm) hk (not_false' h2)
     have m2:HpMv C true h1 _:=jbV hC hI1 (not_false' hm) hk (not_false' h2) (not_false' h3)
     have hI2:=hI1.mv hC m2
     have hw:=jcU (n:=C.g.y (classI C.g (a+b+1))) hC hI2
     have hsl:=mint_slot (t:=j) (tn:=C.tn) (by have:=hC.tn;omega) (hI1.T1024 hC) (hI1.gens hC) (freeB_some (not_false' h3))
     have hj0:j0=j:=by
      have e1:hpSlot C.tn (jaS C (C.g.y (classI C.g (a+b+1))) {h1 with s:=mkC C.g h1.s (classI C.g (a+b+1):Nat) ⟨(classI C.g (a+b+1):Nat),a,b⟩}).s.W.T (JG C.tn h1.s.W.T)=some ((j:Nat):Int):=by
       have e2:(mkC C.g h1.s (classI C.g (a+b+1):Nat) ⟨(classI C.g (a+b+1):Nat),a,b⟩).W.T=jK h1.s.W.T (j:Nat):=by
        unfold mkC;rw [ht]
       unfold hpSlot at hsl⊢;rw[hw.nm,e2];exact hsl
      have e3:some ((j0:Nat):Int)=some ((j:Nat):Int):=n1.symm.trans e1
      have:=Option.some.inj e3
      omega
     subst hj0;rw[hy] at n2;cases n2;refine⟨j0,y0,hy,by rw[ht];dsimp only;rw [jC hy],hr0,hcl,not_false' hm,hk,fun hr=>?_,n1⟩
     have:=hI1.rch (hW.r _ hr)
     rw[g3] at this;cases this
theorem jgb {op:OpP} (h0:(hpDo C h op).1.e=0):(hpDo C h op).1.addr=(jt C {h with wk:=0} op).1.addr:=by
 grind[jt,hpDo,ja1,h1,jaQ]
theorem op_A (hC:jk C) (hI:HeI C h) {op:OpP} {sl:Int} (hs:slotT h.s.W.T (capI op.h:Nat)=some sl): ∀ t,RchM C.g h.s.W t→(hpOp C h op sl).2.s.A[t]?=some true:=by
 intro t ht
 have h0:=hI.rch ht
 have hsh: ∀ (z:CyP) (q:Int),(shdC C.g C.long z q).A=z.A:=fun z q=>by unfold shdC;split<;>rfl
 have hso: ∀ (z:CyP) (q:Int),(jM C.g C.long z q).A=z.A:=fun z q=>by
  unfold jM;split
  ·exact hsh z q
  ·rfl
 unfold hpOp
 split
 ·unfold JF
  split
  ·exact h0
  ·split
   ·exact h0
   ·split
    ·exact h0
    ·have hW:=jdH hC hI (is:=j5)
     have hI1:=hI.mvs hC (jcS (wr:=true) hC hI (is:=j5))
     have h1:=hI1.rch (hW.r _ ht)
     split
     ·exact h1
     ·show(shdC C.g C.long _ _).A[t]?=_
      rw[hsh];exact h1
 ·split
  ·unfold JZ
   split
   ·exact h0
   ·split
    ·exact h0
    ·split
     ·exact h0
     ·show(jM C.g C.long (jM C.g C.long h.s _) _).A[t]?=_
      rw[hso,hso];exact h0
  ·split
   ·exact h0
   ·split
    ·unfold jbj
     split
     ·exact h0
     ·show(shdC C.g C.long h.s _).A[t]?=_
      rw[hsh];exact h0
    ·split
     ·show(shdC C.g C.long h.s _).A[t]?=_
      rw[hsh];exact h0
     ·exact h0
theorem jkH (hC:jk C) (hI:HeI C h) {op:OpP} (h0:(hpDo C h op).1.e=0): ∃ (j:Nat) (y:jg),C.g.L[j]?=some y∧(hpDo C h op).1.addr=(y.addr:Nat)∧(hpDo C h op).2.s.A[j]?=some true∧(op.c=1→y.cls=classI C.g (op.a+op.b+1)∧Jd ⟨0,op.a,op.b⟩=true∧ ¬classI C.g (op.a+op.b+1)=C.g.cl.length∧ ¬RchM C.g h.s.W j):=by
 have h1:(jt C {h with wk:=0} op).1.e=0:=by rw[←jaQ];exact h0
 rw[jgb h0]
 show ∃ (j:Nat) (y:jg),_∧_∧(jt C {h with wk:=0} op).2.s.A[j]?=some true∧_
 by_cases hc:op.c=1
 ·have e:jt C {h with wk:=0} op=jE C {h with wk:=0} op.a op.b:=by
   unfold jt;rw [if_neg (by omega),if_pos hc]
  rw[e] at h1⊢
  obtain⟨j,y,a1,a2,a3,a4,a5,a6,a7,_⟩:=jfg hC hI.wk0 h1
  exact⟨j,y,a1,a2,a3,fun _=>⟨a4,a5,a6,a7⟩⟩
 ·unfold jt at h1⊢
  split at h1
  ·cases h1
  ·rename_i h2
   rw[if_neg h2,if_neg hc] at*
   cases hs:hpSlot C.tn h.s.W.T op.h with
   |none=>rw [hs] at h1;cases h1
   |some sl=>
    obtain⟨j,rfl,hj⟩:=jaT (J8 hI.ok.w (jai hs))
    obtain⟨y,hy⟩:=jY hj
    refine⟨j,y,hy,?_,?_,fun e=>absurd e hc⟩
    ·show((ju C.g (j:Nat)).addr:Nat)=((y.addr:Nat):Int)
     rw[jC hy]
    ·exact op_A (h:={h with wk:=0}) hC hI.wk0 (jai hs) j (jax.slot (jai hs))
end
open Go.RowKit
set_option maxRecDepth 10000
section
variable {w0 : World} {F : jb} {D : HpD} {y : CyM} {h : HpP} {nf nk : Nat}
theorem jii {t:Nat} (h1:HpR D nf nk y h):Call Tryz.prog w0 24 [.pointer (some ⟨D.ab,0,none⟩), .int .i64 (t:Nat)] (hpH D y h++F) (fun r H'=>r= .bool ((h.s.A[t]?).getD false)∧H'=hpH D y h++F):=
 h1.lift0 fun A=>by have:=jfb (w0:=w0) (F:=A) (t:=t) h1.p;rw [h1.a] at this;exact this
end
set_option maxRecDepth 100000
structure HzS where
 i:Nat
 f:Nat
 y:CyM
 h:HpP
 T:List Int
 oT:Own
set_option maxRecDepth 10000
section
variable {C : HpC} {h : HpP} {w j v : Nat} {a b : Int} {y : jg} {hd : HdP}
theorem jfy {x:List Int} {i:Int} (hh:headP x y=some hd) (h1:0≤i) (h2:i<hd.r+hd.w):JR x y i=(decide (i<hd.r),0):=by
 unfold JR jaO;rw[hh];dsimp only[Option.getD_some];rw[if_pos (jaD (jaY hh).2).1,if_neg (by omega)]
theorem jdM {x:List Int} {i:Int} {r:Bool} (hh:headP x y=some hd) (h1:0≤i) (h2:i<hd.r+hd.w) (hr:decide (i<hd.r)=r):fldP x y r i=0:=by
 grind[fldP]
theorem jcs {op:OpP} (hc:op.c≠1) (h1: ¬(op.c<1∨7<op.c)) (hs:hpSlot C.tn h.s.W.T op.h=some ((j:Nat):Int)) (hy:C.g.L[j]?=some y):jt C h op=({(hpOp C h op (j:Nat)).1 with addr:=(y.addr:Nat)},(hpOp C h op (j:Nat)).2):=by
 grind[jt,h1,jC]
theorem jiS (hs:hpSlot C.tn h.s.W.T w=some ((j:Nat):Int)) (hy:C.g.L[j]?=some y) (hh:headP h.s.W.x y=some hd) {i:Int} (h1:hd.r≤i) (h2:i<hd.r+hd.w):
  (hpDo C h ⟨3,w,i,b,v⟩).1.e=0∧(hpDo C h ⟨3,w,i,b,v⟩).2=⟨JT C.g h.s (j:Nat) i (v:Nat),h.p,0⟩:=by
 have hm:=jbm (jaD (jaY hh).2).1
 have hf:=jdM hh (r:=false) (by omega) h2 (decide_eq_false (by omega))
 have hr:hpOp C {h with wk:=0} ⟨3,w,i,b,v⟩ (j:Nat)=(told 0,⟨JT C.g h.s (j:Nat) i (v:Nat),h.p,0⟩):=by
  unfold hpOp JZ;dsimp only;rw[if_neg (by decide),if_pos rfl,jC hy,jfy hh (by omega) h2];dsimp only;rw[if_neg (fun q=>q rfl),if_pos (decide_eq_false (by omega))];unfold Jk;rw[if_pos hf]
 have e:=jcs (h:={h with wk:=0}) (op:=⟨3,w,i,b,v⟩) (by show 3≠1;decide) (by show ¬(3<1∨7<3);decide) hs hy
 rw[hr] at e;unfold hpDo;rw[e];exact⟨rfl,rfl⟩
theorem jiT (hC:jk C) (hI:HeI C h) (hy:C.g.L[j]?=some y) (hh:headP h.s.W.x y=some hd) {i:Int} (h1:hd.r≤i) (h2:i<hd.r+hd.w):(JT C.g h.s (j:Nat) i (v:Nat)).W.T=h.s.W.T∧headP (JT C.g h.s (j:Nat) i (v:Nat)).W.x y=some hd∧wAt (JT C.g h.s (j:Nat) i (v:Nat)).W.x (fAt y i)=(v:Nat):=by
 have hm:=jbm (jaD (jaY hh).2).1
 have hf:=jdM hh (r:=false) (by omega) h2 (decide_eq_false (by omega))
 have hin:=JQ hf
 have hfit:=hC.g.fits hy
 have hx:=hI.ok.w.x
 refine⟨rfl,?_,?_⟩
 ·show headP (Jk h.s.W.x (ju C.g (j:Nat)) i (v:Nat)).2 y=_
  rw[jC hy,jdg (jev hC.g hy hy)];omega
 ·show wAt (Jk h.s.W.x (ju C.g (j:Nat)) i (v:Nat)).2 _=_
  grind[Jk,jC,jd4]
end
open Go.RowKit
set_option maxRecDepth 10000
theorem jit {g:PlG} (ok:jc g) {j k:Nat} {y z:jg} (hy:g.L[j]?=some y) (hz:g.L[k]?=some z) (h:j≠k):y.addr≠z.addr:=fun e=>by
 have h1:=ok.apart hy hz h
 have h2:=(ok.fits hy).2.1
 have h3:=(ok.fits hz).2.1
 omega
theorem classI_2 {g:PlG} (ok:jc g):classI g 2=0:=by
 have hm:=ok.m.1
 have h1:=(ok.y 0 (by omega)).1
 grind[PlG.m,PlG.y,classI]
section
variable {C : HpC} {h : HpP} {w v j : Nat} {y : jg}
theorem jkm (hC:jk C):fitsB C.g (C.g.y 0) (newH C).s=true:=by
 have h1:=(hC.g.y 0 (by have:=hC.g.m;omega)).2.2
 show decide (usedL C.g.L (List.replicate C.g.slots false)+C.g.y 0≤C.g.q)=true
 grind[jfD]
theorem jkl (hC:jk C):j5 (newH C).s=true:=by
 have h1:=hC.caps.1
 show decide (0<cntP 0 (List.replicate C.caps (⟨0,0,1⟩:jh)))=true
 obtain⟨n,hn⟩: ∃ n,C.caps=n+1:=⟨C.caps-1,by omega⟩
 grind[cntP]
theorem alloc_N (hC:jk C) (hI:HeI C h) {a b:Int} (h0:(jE C h a b).1.e=0):(jE C h a b).2.s.W.N=h.s.W.N:=by
 unfold jE at h0⊢
 split at h0
 ·grind
 ·rename_i hm
  rw[if_neg hm]
  split at h0
  ·grind
  ·rename_i hk
   rw[if_neg hk];dsimp only at h0⊢
   have hI1:=hI.mvs hC (jb3 (wr:=true) hC hI (k:=classI C.g (a+b+1)))
   have hW:=jfT hC hI (k:=classI C.g (a+b+1))
   revert h0 hI1 hW
   generalize allocR C h (classI C.g (a+b+1))=h1
   intro h0 hI1 hW
   split at h0
   ·cases h0
   ·rename_i h2
    rw[if_neg h2]
    split at h0
    ·cases h0
    ·rename_i h3
     rw[if_neg h3]
     have m2:HpMv C true h1 _:=jbV hC hI1 (not_false' hm) hk (not_false' h2) (not_false' h3)
     have hw:=jcU (n:=C.g.y (classI C.g (a+b+1))) hC (hI1.mv hC m2)
     rw[show(jaS C _ _).s.W.N=_ from hw.N];exact hW.N
theorem pin_alloc (hC:jk C):(hpDo C (newH C) ⟨1,0,0,1,0⟩).1.e=0∧(hpDo C (newH C) ⟨1,0,0,1,0⟩).2.s.W.N=List.replicate C.g.slots 0∧ ∃ (j:Nat) (y:jg) (k:Nat),hpSlot C.tn (hpDo C (newH C) ⟨1,0,0,1,0⟩).2.s.W.T (hpDo C (newH C) ⟨1,0,0,1,0⟩).1.h=some ((j:Nat):Int)∧C.g.L[j]?=some y∧(hpDo C (newH C) ⟨1,0,0,1,0⟩).1.addr=(y.addr:Nat)∧headP (hpDo C (newH C) ⟨1,0,0,1,0⟩).2.s.W.x y=some ⟨(k:Nat),0,1⟩:=by
 have hI:HeI C (newH C):=HeI.new hC
 have hm:=hC.g.m.1
 have e:jt C {newH C with wk:=0} ⟨1,0,0,1,0⟩=jE C (newH C) 0 1:=by
  unfold jt;dsimp only;rw[if_neg (by decide),if_pos rfl]
  rfl
 have hk:classI C.g (0+1+1)=0:=classI_2 hC.g
 have hr:allocR C (newH C) 0=newH C:=by
  have hs:(fitsB C.g (C.g.y 0) (newH C).s&&j5 (newH C).s)=true:=by rw[jkm hC,jkl hC];rfl
  have h1:JC C (fun s=>fitsB C.g (C.g.y 0) s&&j5 s) (newH C)=newH C:=by
   unfold JC;rw[if_neg (fun q=>by have h2:=q.1;dsimp only at h2;rw [hs] at h2;cases h2)]
  unfold allocR Jz;rw[h1,if_pos hs]
 have h0:(jE C (newH C) 0 1).1.e=0:=by
  unfold jE;rw[if_neg (by decide),if_neg (by rw[hk];intro q;unfold PlG.m at hm;omega),hk,hr,jkm hC,if_neg (by decide),jkl hC,if_neg (by decide)]
  rfl
 have h1:(hpDo C (newH C) ⟨1,0,0,1,0⟩).1.e=0:=by rw[jaQ,e];exact h0
 have h2:(hpDo C (newH C) ⟨1,0,0,1,0⟩).2=(jE C (newH C) 0 1).2:=by
  show(jt C _ _).2=_
  exact congrArg Prod.snd e
 have h3:(hpDo C (newH C) ⟨1,0,0,1,0⟩).1.h=(jE C (newH C) 0 1).1.h:=by rw[do_h,e,if_pos h0]
 have h4:(hpDo C (newH C) ⟨1,0,0,1,0⟩).1.addr=(jE C (newH C) 0 1).1.addr:=by rw[jgb h1,e]
 obtain⟨j,y,a1,a2,a3,a4,a5,a6,a7,a8⟩:=jfg hC hI h0
 obtain⟨j2,y2,k,b1,b2,b3,b4,b5⟩:=(jdX hC hI h0).ex
 have hj:j2=j:=by have:=Option.some.inj (b1.symm.trans a8);omega
 subst hj;rw[a1] at b2
 cases b2
 refine⟨h1,by rw[h2];exact alloc_N hC hI h0,j2,y,k,by rw[h2,h3];exact a8,a1,by rw[h4];exact a2,by rw[h2];exact b3⟩
theorem pin_root (hC:jk C) (hI:HeI C h) (hs:hpSlot C.tn h.s.W.T w=some ((j:Nat):Int)) (hy:C.g.L[j]?=some y) (hN:(h.s.W.N[j]?).getD 0=0) (hw:wAt h.s.W.x (y.addr+1)=(v:Nat)):
  (hpDo C h ⟨4,w,0,0,0⟩).1.e=0∧PnI C j y (v:Nat) (hpDo C h ⟨4,w,0,0,0⟩).2∧(hpDo C h ⟨4,w,0,0,0⟩).2.s.W.T=h.s.W.T:=by
 have hjl:=jx hy
 rw[jbX] at hjl
 have hNl:=hI.ok.w.N
 have e:=jcs (h:={h with wk:=0}) (op:=⟨4,w,0,0,0⟩) (by show 4≠1;decide) (by show ¬(4<1∨7<4);decide) hs hy
 have hr:hpOp C {h with wk:=0} ⟨4,w,0,0,0⟩ (j:Nat)=(told 0,{h with wk:=0,s:={h.s with W:={h.s.W with N:=JA h.s.W.N j}}}):=by
  unfold hpOp jc6;dsimp only;rw[if_neg (by decide),if_neg (by decide),if_pos rfl,Int.toNat_natCast,hN,if_pos (by decide)]
 rw[hr] at e
 have h1:(hpDo C h ⟨4,w,0,0,0⟩).1.e=0:=by rw[jaQ,e];rfl
 have h2:(hpDo C h ⟨4,w,0,0,0⟩).2={h with wk:=0,s:={h.s with W:={h.s.W with N:=JA h.s.W.N j}}}:=by
  show(jt C _ _).2=_
  exact congrArg Prod.snd e
 refine⟨h1,⟨hy,?_,by rw[h2];exact hw⟩,by rw[h2]⟩;rw[h2]
 show 0<((JA h.s.W.N j)[j]?).getD 0
 unfold JA;rw[hN,if_pos (by decide),List.getElem?_set_self (by omega)]
 decide
theorem drop_ok (hs:hpSlot C.tn h.s.W.T w=some ((j:Nat):Int)) (hy:C.g.L[j]?=some y):(hpDo C h ⟨6,w,0,0,0⟩).1.e=0:=by
 have e:=jcs (h:={h with wk:=0}) (op:=⟨6,w,0,0,0⟩) (by grind) (by grind) hs hy
 rw[jaQ,e]
 rfl
theorem pin_do (hC:jk C) (hI:HeI C h) (hp:PnI C j y (v:Nat) h) {op:OpP} (ho:op.v<18446744073709551616) (h3:op.c≠3) (h5:op.c≠5):
  PnI C j y (v:Nat) (hpDo C h op).2∧(op.c=1→(hpDo C h op).1.e=0→ ¬(hpDo C h op).1.addr=(y.addr:Nat)):=by
 refine⟨hp.mvs hC hI (jdN hC hI ho fun q=>by omega),fun hc h0 e=>?_⟩
 obtain⟨k,z,a1,a2,a3,a4⟩:=jkH hC hI h0
 obtain⟨_,_,_,a5⟩:=a4 hc
 have hr:=hp.rch hI
 have hne:k≠j:=fun q=>a5 (q▸hr)
 have:=jit hC.g a1 hp.yL hne
 omega
theorem pin_A (hI:HeI C h) (hp:PnI C j y (v:Nat) h):h.s.A[j]?=some true:=hI.rch (hp.rch hI)
end
open Go.RowKit
set_option maxRecDepth 10000
structure AdS where
 i:Nat
 A:jb
theorem jh5 {g:PlG} (ok:jc g) {s:Nat} {x:jg} (h:g.L[s]?=some x): ∃ c j i:Nat,c<g.m∧j<g.pgs c∧x.page=g.page c+j∧x.size=g.y c∧i<g.mp (g.page c+j)∧s=g.fp (g.page c+j)+i∧x.addr=(g.page c+j)*g.pg+i*g.y c:=by
 obtain⟨k,d,hk,hd,rfl,rfl⟩:=L_at h
 have h2:=ok.inpg hk hd
 have h3:=ok.per hk
 have h4:=Nat.div_add_mod d (g.per k)
 have h5:=Nat.mod_lt d (show 0<g.per k by omega)
 rw[Nat.mul_comm] at h4;refine⟨k,d/g.per k,d%g.per k,hk,h2,rfl,rfl,?_,?_,rfl⟩
 ·rw[mp_at hk h2]
  omega
 ·rw[jdS hk h2]
  omega
section
variable {w0 : World} {F : jb}
theorem jhR {H:jb} {b:Nat} {k:Int}:
  Call Tryz.prog w0 115 [.pointer (some ⟨b,0,none⟩), .int .i64 k] H (fun u H'=> ∃ c1 c2,u= .func (.func 158) #[] [.pointer (some ⟨c1,0,none⟩), .pointer (some ⟨c2,0,none⟩)].toArray∧H'=(c1,cells [.pointer (some ⟨b,0,none⟩)] 102)::(c2,cells [.int .i64 k] 3)::H):=by
 refine Call.enter2 (n:=6) (by kernel_rfl) Tryz.func115 rfl rfl rfl ?_;refine zaU ?_;intro b2 b3;refine zu ?_;refine zbF ?_;refine zf ?_;exact KE.fin je rfl jd ja ⟨b2,b3,rfl,rfl⟩
set_option maxHeartbeats 2000000 in
theorem jhQ {A0:jb} {p:jQ} {c1 c2 c j k:Nat} {yv:Value} (ok:J6 p) (hc:c<p.g.m) (hj:j<p.g.pgs c) (hk:k=p.g.page c+j) (J:Nat→jb→Prop) (E:jb→Prop)
  (hy: ∀ i A F,J i A→i<p.g.mp k→CallV Tryz.prog w0 yv [.int .i64 (p.g.fp k+i:Nat), .int .i64 (k*p.g.pg+i*p.g.y c:Nat)] (A++F)
   (fun u H'=>(u= .bool true∧ ∃ A',J (i+1) A'∧H'=A'++F)∨(u= .bool false∧ ∃ A',E A'∧H'=A'++F)))
  (h0:J 0 A0):
  Call Tryz.prog w0 158 [yv, .pointer (some ⟨c1,0,none⟩), .pointer (some ⟨c2,0,none⟩)] (A0++((c1,cells [.pointer (some ⟨p.b,0,none⟩)] 102)::(c2,cells [.int .i64 (k:Nat)] 3)::(planH p++F)))
   (fun _ H'=> ∃ A',H'=A'++((c1,cells [.pointer (some ⟨p.b,0,none⟩)] 102)::(c2,cells [.int .i64 (k:Nat)] 3)::(planH p++F))∧(J (p.g.mp k) A'∨E A')):=by
 have hkp:k<p.g.pages:=by
  have hpp:=jbD (n:=p.g.pgs) hc
  subst hk
  show _<jz p.g.pgs p.g.m
  have:jz p.g.pgs c=p.g.page c:=rfl
  omega
 have hpb:=ok.g.pages
 have hmb:=jcB ok.g hkp
 have hpg:=ok.g.pg
 have hyc:=ok.g.y c hc
 have hin:=fun A=>pin_K (w0:=w0) (F:=A) ok hc hj
 have hIn:=fun A=>In_K (w0:=w0) (F:=A) ok hkp
 rw[←hk] at hin
 have hfb:p.g.fp k≤20000:=by
  have h1:=ok.g.first (Nat.le_of_lt hc)
  have h2:=ok.g.n hc
  have h3:=(jeU ok.g hc).1 hj
  rw[hk,jdS hc hj]
  omega
 obtain⟨m,hm⟩: ∃ m,p.g.mp k=m:=⟨_,rfl⟩
 obtain⟨f,hf⟩: ∃ f,p.g.fp k=f:=⟨_,rfl⟩
 obtain⟨m1,hm1⟩: ∃ q,q=k*p.g.pg:=⟨_,rfl⟩
 have e1:((k:Nat):Int)*((p.g.pg:Nat):Int)=((m1:Nat):Int):=by rw[hm1];rfl
 have hm1b:m1≤1048576:=by rw[hm1];exact Nat.le_trans (Nat.mul_le_mul (show k≤16384 by omega) hpg) (by decide)
 rw[←hm1] at hy;simp only[hm] at hy hIn hmb⊢;simp only[hf] at hy hIn hfb
 obtain⟨pt,hpt⟩: ∃ pt,pt=p.g.pt c:=⟨_,rfl⟩
 have hp1:pt.size=p.g.y c:=by rw[hpt];rfl
 rw[←hpt] at hin;rw[←hp1] at hy hyc
 obtain⟨sz,fi,ma,pa,pe⟩:=pt
 unfold jck at hin;dsimp only at hin hy hyc;clear hpt hp1 hm hf hm1;refine Call.enter3 (n:=45) (by kernel_rfl) Tryz.func158 rfl rfl rfl ?_;refine zy ?_;refine zp ?_;refine zV ?_;refine ji (hIn _) ja ?_;refine za9 ?_;refine zu ?_;refine zp ?_;refine zV ?_;refine ji (hin _) ja ?_;refine zaX ?_;intro b7;refine zcA ?_;refine zcH ?_;refine zmy ?_;rintro⟨i,A⟩ ⟨hJ,hi⟩;dsimp only at hJ hi⊢
 by_cases hlt:i<m
 ·have hlt':((i:Nat):Int)<((m:Nat):Int):=by omega
  obtain⟨m2,hm2⟩: ∃ q,q=i*sz:=⟨_,rfl⟩
  have e2:((i:Nat):Int)*((sz:Nat):Int)=((m2:Nat):Int):=by rw[hm2];rfl
  have hm2b:m2≤1048576:=by rw[hm2];exact Nat.le_trans (Nat.mul_le_mul (show i≤64 by omega) (show sz≤64 by omega)) (by decide)
  have e3:((f:Nat):Int)+((i:Nat):Int)=((f+i:Nat):Int):=by omega
  have e4:((m1:Nat):Int)+((m2:Nat):Int)=((m1+m2:Nat):Int):=by omega
  have hyi:=fun F=>hy i A F hJ hlt
  rw[←hm2] at hyi;simp only[jO];refine zaN ?_;refine zbe ?_;refine zcW ?_;refine zmz ?_;refine zbf ?_;refine zj ?_;refine zgx ?_;refine zS ?_;refine zS ?_;refine zbd ?_;refine zew ?_;refine zS ?_;refine zhr ?_;refine zj ?_;refine zfa ?_;refine zS ?_;refine zhr ?_;refine zgx ?_;refine zl fun T hT=>?_;rw[e1,e2,e3,e4];refine(hyi _).mono ?_;rintro _ _ (⟨rfl,A',hJ',rfl⟩|⟨rfl,A',hE',rfl⟩)
  ·refine zg ?_;clear hT T;refine zmA ?_;refine zD ?_;refine zbH ?_;refine zcS ?_;exact zmB
  ·refine zg ?_;clear hT T
   --nothing is left
   refine ze3 ?_;refine zD ?_;refine KE.next (K.condT rfl ?_);refine zdr ?_;refine zbE ?_;refine zbS ?_;exact zmC
 ·have hge: ¬((i:Nat):Int)<((m:Nat):Int):=by omega
  obtain rfl:i=m:=by omega
  refine ziA ?_;exact KE.finN je rfl jd ja ⟨A,rfl, .inl hJ⟩
set_option maxHeartbeats 2000000 in
theorem At0_K {p:jQ} {s:Nat} {x:jg} (ok:J6 p) (hx:p.g.L[s]?=some x):
  Call Tryz.prog w0 75 [.pointer (some ⟨p.b,0,none⟩), .int .i64 (x.addr:Nat)] (planH p++F) (fun r H'=>r= .tuple [.int .i64 (s:Nat), .int .i64 0].toArray∧H'=planH p++F):=by
 obtain⟨f1,f2,f3,f4,f5,f6,f7⟩:=ok.g.fits hx
 have hwb:=ok.g.words
 have hpg:=ok.g.pg
 have hpg1:=ok.g.pg1
 obtain⟨c,j,i0,hc,hj,hpa,hsz,hi0,hs,ha⟩:=jh5 ok.g hx
 have hyc:=ok.g.y c hc
 obtain⟨k,hk⟩: ∃ k,k=p.g.page c+j:=⟨_,rfl⟩
 rw[←hk] at hpa hi0 hs ha
 have hdiv:x.addr/p.g.pg=k:=by
  rw[hpa] at f5 f6;exact Nat.div_eq_of_lt_le (by rw[Nat.mul_comm];rw [Nat.mul_comm] at f5;exact f5) (by omega)
 have hdiv':((x.addr:Nat):Int)/((p.g.pg:Nat):Int)=((k:Nat):Int):=by rw[←hdiv];rfl
 have hne0: ¬((p.g.pg:Nat):Int)=0:=by omega
 have hnem: ¬((p.g.pg:Nat):Int)= -1:=by omega
 have hlo: ¬((x.addr:Nat):Int)<0:=by omega
 have hhi: ¬((x.addr:Nat):Int)≥((p.g.words:Nat):Int):=by omega
 obtain⟨ad,had⟩: ∃ ad,x.addr=ad:=⟨_,rfl⟩
 simp only[had] at hdiv' hlo hhi ha⊢;refine Call.enter2 (n:=34) (by kernel_rfl) Tryz.func75 rfl rfl rfl ?_;refine zdX ?_;intro b3 b4;refine zaD ?_;intro b5;refine zaP ?_;refine ji (jfK ok) ja ?_;refine zk ?_;refine zg3 ?_;refine zmD ?_;refine zP ?_;refine zjY ?_;refine zhc ?_;refine zbt ?_;refine zcb fun T hT=>?_;refine(CallV.part (CallV.fn (jhT ok)) ja).mono ?_;rintro _ _ ⟨rfl,rfl⟩;refine zg ?_;clear hT T;simp only[jO];refine ziW ?_;refine zbV ?_;refine zb0 ?_;refine zbH ?_;refine zbD ?_;refine KE.next (K.seq (K.seq ?_));refine zmE ?_;refine zj ?_;refine zP ?_;refine zdD ?_;refine KD.v0 rfl rfl (Val.quoN rfl rfl (by simp only[qL,qH];omega)) ?_;refine zl fun T hT=>?_;rw[hdiv'];refine(CallV.fn (jhR)).mono ?_;rintro _ _ ⟨c1,c2,rfl,rfl⟩;refine zg ?_;clear hT T;refine zD ?_;refine KE.next (K.block ?_);refine K.rangeFunc (lb:=[.pointer (some ⟨c1,0,none⟩), .pointer (some ⟨c2,0,none⟩)]) rfl
  (fun D G=>False)
  (fun D c G=>c= .ret∧G=(D, .deferred (some []))::(b5,cells [.int .i64 0] 40)::(b4,cells [.int .i64 (s:Nat)] 3)::(b3,cells [.int .i64 (ad:Nat)] 3)::(planH p++F)) ?_ ?_ ?_
 ·intro l D rc hyl
  refine(Call.part (jhQ (F:=F) (c1:=c1) (c2:=c2) ok hc hj hk
   (fun i A=>A=(l, .loop (rc .ready none))::(D, .deferred (some []))::(b5,cells [.int .i64 0] 40)::(b4,cells [.int .i64 0] 3)::(b3,cells [.int .i64 (ad:Nat)] 3)::[]∧i≤i0)
   (fun A=>A=(l, .loop (rc .done (some .ret)))::(D, .deferred (some []))::(b5,cells [.int .i64 0] 40)::(b4,cells [.int .i64 (s:Nat)] 3)::(b3,cells [.int .i64 (ad:Nat)] 3)::[])
   (A0:=(l, .loop (rc .ready none))::(D, .deferred (some []))::(b5,cells [.int .i64 0] 40)::(b4,cells [.int .i64 0] 3)::(b3,cells [.int .i64 (ad:Nat)] 3)::[]) ?_ ⟨rfl,Nat.zero_le _⟩) (by simp only[List.cons_append,List.nil_append,jO];exact ja)).mono ?_
  ·rintro i A F ⟨rfl,hi⟩ him;refine ziz ?_;refine ziD ?_;refine zge ?_;refine K.block ?_
   by_cases hii:i=i0
   ·subst hii;rw[←ha,←hs];refine za7 ?_;refine zp ?_;refine zJ ?_;refine zf9 ?_;refine zO ?_;refine zcl ?_;refine zbS ?_;refine zmF ?_;exact KE.roundR j3.head (.inr ⟨rfl,_,rfl,rfl⟩)
   ·have hmul:i*p.g.y c+p.g.y c≤i0*p.g.y c:=by
     rw[←Nat.succ_mul];exact Nat.mul_le_mul_right _ (by omega)
    have hnea: ¬((k*p.g.pg+i*p.g.y c:Nat):Int)=((ad:Nat):Int):=by omega
    refine za7 ?_;refine zeK ?_;refine zis ?_;refine zmG ?_;exact KE.roundN j3.head (.inl ⟨rfl,_,⟨rfl,by omega⟩,rfl⟩)
  ·rintro _ _ ⟨A',rfl,(⟨rfl,hi⟩|rfl)⟩
   ·omega
   ·refine .inr ⟨.ret,_,?_,rfl,rfl⟩;exact zf0
 ·rintro D G h;exact h.elim
 ·rintro D c G ⟨rfl,rfl⟩;refine zdr ?_;exact zhX
end
set_option maxRecDepth 10000
section
variable {w0 : World} {F : jb} {D : HpD} {y : CyM} {h : HpP} {nf nk n : Nat} {z : jg}
theorem cAt_K {g:PlG} {long:Nat} {s:CyP} (h:CpR g long y s) (hz:g.L[n]?=some z):Call Tryz.prog w0 75 [.pointer (some ⟨y.B.p.b,0,none⟩), .int .i64 (z.addr:Nat)] (cycH y++F) (fun r H'=>r= .tuple [.int .i64 (n:Nat), .int .i64 0].toArray∧H'=cycH y++F):=
 Call.ro (w0:=w0) (A:=planH y.B.p) (H:=cycH y++F) (fun F=>At0_K (F:=F) h.p.bo.p (by rw[h.eg];exact hz)) (by rw[cycH_app];exact ja)
theorem hyAt_K (h1:HpR D nf nk y h) (hz:D.C.g.L[n]?=some z):Call Tryz.prog w0 75 [.pointer (some ⟨D.pb,0,none⟩), .int .i64 (z.addr:Nat)] (hpH D y h++F) (fun r H'=>r= .tuple [.int .i64 (n:Nat), .int .i64 0].toArray∧H'=hpH D y h++F):=
 h1.lift0 fun A=>by have:=cAt_K (w0:=w0) (F:=A) h1.p hz;rw [h1.pl] at this;exact this
theorem jmi (h1:HpR D nf nk y h) (hz:D.C.g.L[n]?=some z):Call Tryz.prog w0 41 [.pointer (some ⟨D.b,0,none⟩), .int .i64 (z.addr:Nat)] (hpH D y h++F) (fun r H'=>r= .int .i64 (n:Nat)∧H'=hpH D y h++F):=by
 refine Call.enter2 (n:=18) (by kernel_rfl) Tryz.func41 rfl rfl rfl ?_;refine zbB ?_;refine ji (jbC (D:=D) (y:=y) (h:=h)) ja ?_;refine zn ?_;refine ji (jcv h1) ja ?_;refine zo ?_;refine ji (hyAt_K h1 hz) ja ?_;refine zbA ?_;refine zaG ?_;exact zt
theorem cLoad_K {g:PlG} {long t a:Nat} {s:CyP} {x:List Int} {w:Int} (h:CpR g long y s) (ht:y.B.m.R[t]?=some x) (hx:x[a]?=some w):Call Tryz.prog w0 43 [.pointer (some ⟨y.B.m.b,0,none⟩), .int .i64 (t:Nat), .int .i64 (a:Nat)] (cycH y++F) (fun r H'=>r= .tuple [.int .u64 w, .int .i64 0].toArray∧H'=cycH y++F):=
 Call.ro (w0:=w0) (A:=jv y.B.m) (H:=cycH y++F) (fun F=>Load_K (F:=F) h.p.bo.m ht hx) (by rw[cycH_app];exact ja)
theorem hyLoad_K {a:Nat} {w:Int} (h1:HpR D nf nk y h) (hT:D.C.tn<D.R0.length) (hx:h.s.W.x[a]?=some w):Call Tryz.prog w0 43 [.pointer (some ⟨D.mb,0,none⟩), .int .i64 (D.C.tn:Nat), .int .i64 (a:Nat)] (hpH D y h++F) (fun r H'=>r= .tuple [.int .u64 w, .int .i64 0].toArray∧H'=hpH D y h++F):=
 h1.lift0 fun A=>by
  have:=cLoad_K (w0:=w0) (F:=A) (t:=D.C.tn) h1.p (by rw[h1.R,List.getElem?_set_self hT]) hx
  rw[h1.m] at this;exact this
end
open Go.RowKit
set_option maxRecDepth 100000
theorem haE_enc (x:jU):haE.enc x=acL x:=rfl
theorem pin_start {C:HpC} {v:Nat} (hC:jk C) (hv:v<18446744073709551616): ∃ (q1 q2 q3 q4:SnP) (h1 h2 h3 h4:HpP) (j:Nat) (y:jg),hpDo C (newH C) ⟨1,0,0,1,0⟩=(q1,h1)∧hpDo C h1 ⟨3,q1.h,0,0,v⟩=(q2,h2)∧hpDo C h2 ⟨4,q1.h,0,0,0⟩=(q3,h3)∧hpDo C h3 ⟨6,q1.h,0,0,0⟩=(q4,h4)∧q1.e=0∧q2.e=0∧q3.e=0∧q4.e=0∧C.g.L[j]?=some y∧q1.addr=(y.addr:Nat)∧q1.h<18446744073709551616∧StI C h1 [] []∧StI C h2 [] []∧StI C h3 [] []∧StI C h4 [] []∧PnI C j y (v:Nat) h4:=by
 have hS0:=StI.new0 hC
 obtain⟨p1,p2,j,y,k,p3,p4,p5,p6⟩:=pin_alloc hC
 have hlt:=jgq (op:=⟨1,0,0,1,0⟩) hC hS0.I
 have hS1:=hS0.do_ (op:=⟨1,0,0,1,0⟩) hC ⟨by show(1:Nat)<256;decide,by show(0:Nat)<18446744073709551616;decide,by show(0:Nat)<18446744073709551616;decide⟩
 obtain⟨⟨q1,h1⟩,e1⟩: ∃ q,hpDo C (newH C) ⟨1,0,0,1,0⟩=q:=⟨_,rfl⟩
 rw[e1] at p1 p2 p3 p5 p6 hlt hS1;dsimp only at p1 p2 p3 p5 p6 hlt hS1
 have ok2:JN ⟨3,q1.h,0,0,v⟩:=⟨by show(3:Nat)<256;decide,hlt,hv⟩
 have hS2:=hS1.do_ hC ok2
 obtain⟨w1,w2⟩:=jiS (h:=h1) (w:=q1.h) (v:=v) (b:=0) (i:=0) p3 p4 p6 (Int.le_refl _) (by show(0:Int)<0+1;decide)
 obtain⟨w3,w4,w5⟩:=jiT (v:=v) (i:=0) hC hS1.I p4 p6 (Int.le_refl _) (by show(0:Int)<0+1;decide)
 obtain⟨⟨q2,h2⟩,e2⟩: ∃ q,hpDo C h1 ⟨3,q1.h,0,0,v⟩=q:=⟨_,rfl⟩
 rw[e2] at w1 w2 hS2;dsimp only at w1 w2 hS2
 have ok3: ∀ n:Nat,n<256→JN ⟨n,q1.h,0,0,0⟩:=fun n hn=>⟨hn,hlt,by show(0:Nat)<18446744073709551616;decide⟩
 have hS3:=hS2.do_ hC (ok3 4 (by decide))
 obtain⟨r1,r2,r3⟩:=pin_root (h:=h2) (w:=q1.h) (v:=v) hC hS2.I (by rw[w2];show hpSlot C.tn (JT C.g h1.s _ _ _).W.T _=_;rw [w3];exact p3) p4 (by
  rw[w2]
  show((h1.s.W.N)[j]?).getD 0=0
  rw[p2,List.getElem?_replicate]
  split<;>rfl) (by rw[w2];exact w5)
 obtain⟨⟨q3,h3⟩,e3⟩: ∃ q,hpDo C h2 ⟨4,q1.h,0,0,0⟩=q:=⟨_,rfl⟩
 rw[e3] at r1 r2 r3 hS3;dsimp only at r1 r2 r3 hS3
 have hS4:=hS3.do_ hC (ok3 6 (by decide))
 have hd:=drop_ok (h:=h3) (w:=q1.h) (C:=C) (by rw[r3,w2];show hpSlot C.tn (JT C.g h1.s _ _ _).W.T _=_;rw [w3];exact p3) p4
 have hp4:=(pin_do hC hS3.I r2 (op:=⟨6,q1.h,0,0,0⟩) (by show(0:Nat)<18446744073709551616;decide) (by show 6≠3;decide) (by show 6≠5;decide)).1
 obtain⟨⟨q4,h4⟩,e4⟩: ∃ q,hpDo C h3 ⟨6,q1.h,0,0,0⟩=q:=⟨_,rfl⟩
 rw[e4] at hd hS4 hp4;exact⟨q1,q2,q3,q4,h1,h2,h3,h4,j,y,e1,e2,e3,e4,p1,w1,r1,hd,p4,p5,hlt,hS1,hS2,hS3,hS4,hp4⟩
section
variable {w0 : World} {F : jb} {c : Cfg} {vc vt v : Value} {l : List jU} {wv : Nat}
set_option maxHeartbeats 8000000 in
theorem heapPinned_K (hG:js w0) (hR:Jo w0 F c vc vt) (hl:Sli w0 F haE v l) (hlo: ∀ x∈l,J7 x) (hwv:wv<18446744073709551616):Call Tryz.prog w0 11 [jw c vc vt,v, .int .u64 (wv:Nat)] F (fun r H'=>r= .bool true∧H'=F):=by
 have haw:=fun A=>jgd (w0:=w0) (F:=A) hG
 have hmn:=fun A (hp:Part A F) (hno:okS c 0=false)=>jf1 (t:=0) (hR.part hp) hno
 have hmd:=fun A (hp:Part A F) (hok:okS c 0=true)=>je8 (t:=0) hG (hR.part hp) hok
 have hfa:okS c 0=true→0<c.tn.length:=fun h=>by
  obtain⟨hc,_,x,hx,_⟩:=okS_cfg h
  exact jx hx
 obtain⟨hS,hT',o1,o2,l1,l2⟩:=hR
 obtain⟨ok,hok⟩: ∃ ok,okS c 0=ok:=⟨_,rfl⟩
 simp only[hok] at hmn hmd hfa
 have hgD: ∀ D y,HMade c 0 D y→D.C.tn=0∧(0<c.tn.length→D.C.tn<D.R0.length):=fun D y hM=>by
  obtain⟨x1,g1,g2⟩:=hM.eC
  have e:D.C.tn=0:=by rw[g2];rfl
  exact⟨e,fun h=>by rw[e,hM.R0,mR_len];exact h⟩
 obtain⟨cl,page,tns,workers,grey,gens⟩:=c
 dsimp only at hS hT' l1 l2;simp only[jw,jT] at hmn hmd⊢
 cases ok with
 |false=>
  refine Call.enter3 (n:=154) (by kernel_rfl) Tryz.func11 rfl rfl rfl ?_;refine zcX ?_;intro b3;refine jq (hmn _ ja rfl) ?_;refine zfG ?_;refine zf1 ?_;refine zdb ?_;exact zaT
 |true=>
  have htl:=hfa rfl
  refine Call.enter3 (n:=154) (by kernel_rfl) Tryz.func11 rfl rfl rfl ?_;refine zcN ?_;intro b3;refine zc2 fun T hT=>?_;refine(CallV.fn (hmd _ ja rfl)).mono ?_;rintro _ _ ⟨D,y0,hM,rfl,rfl⟩
  have hD:=hM.ok
  have hC:=hD.C
  have hR0:=(hM.R).mono (nk':=400000000) (Nat.le_refl _) (by decide)
  obtain⟨htn,hTn⟩:=hgD D y0 hM
  have hTn:=hTn htl
  obtain⟨⟨e,hh,w1,addr,us,si,cy,ac⟩,⟨e5,hh5,w5,addr5,us5,si5,cy5,ac5⟩,⟨e6,hh6,w6,addr6,us6,si6,cy6,ac6⟩,⟨e7,hh7,w7,addr7,us7,si7,cy7,ac7⟩,h1,h2,h3,h4,j,yy,v1,v2,v3,v4,z1,z2,z3,z4,hyL,had,hhl,hS1,hS2,hS3,hS4,hPn⟩:=pin_start hC hwv
  dsimp only at v1 v2 v3 v4 z1 z2 z3 z4 had hhl;subst z1 z2 z3 z4 had
  have hok1:JN ⟨1,0,0,1,0⟩:=⟨by show(1:Nat)<256;decide,by show(0:Nat)<18446744073709551616;decide,by show(0:Nat)<18446744073709551616;decide⟩
  have hok2:JN ⟨3,hh,0,0,wv⟩:=⟨by show(3:Nat)<256;decide,hhl,hwv⟩
  have hok3: ∀ n:Nat,n<256→JN ⟨n,hh,0,0,0⟩:=fun n hn=>⟨hn,hhl,by show(0:Nat)<18446744073709551616;decide⟩
  have hdo1:=fun A=>jcf (w0:=w0) (F:=A) hG hD (StI.new0 hC).I hR0 (by omega) hok1
  have hdo2:=fun A nf (y:CyM) (hR:HpR D nf 400000000 y h1) (hn:nf≤100)=>jcf (w0:=w0) (F:=A) hG hD hS1.I hR (by omega) hok2
  have hdo3:=fun A nf (y:CyM) (hR:HpR D nf 400000000 y h2) (hn:nf≤100)=>jcf (w0:=w0) (F:=A) hG hD hS2.I hR (by omega) (hok3 4 (by decide))
  have hdo4:=fun A nf (y:CyM) (hR:HpR D nf 400000000 y h3) (hn:nf≤100)=>jcf (w0:=w0) (F:=A) hG hD hS3.I hR (by omega) (hok3 6 (by decide))
  simp only[v1] at hdo1;simp only[v2] at hdo2;simp only[v3] at hdo3;simp only[v4] at hdo4;unfold opV snV HpQ at hdo1 hdo2 hdo3 hdo4;dsimp only at hdo1 hdo2 hdo3 hdo4;clear v1 v2 v3 v4;refine zd ?_;clear hT T;refine zfG ?_;refine zaG ?_;refine zM ?_;refine zn ?_;refine j4 (hdo1 _) ja ?_;rintro _ _ ⟨rfl,y1,hR1,rfl⟩;refine zaH ?_;intro b9;refine ze ?_;refine zF ?_;refine zco ?_;refine zn ?_;refine j4 (hdo2 _ _ _ hR1 (by omega)) ja ?_;rintro _ _ ⟨rfl,y2,hR2,rfl⟩;refine zaH ?_;intro b10;refine ze ?_;refine zF ?_;refine zM ?_;refine zn ?_;refine j4 (hdo3 _ _ _ hR2 (by omega)) ja ?_;rintro _ _ ⟨rfl,y3,hR3,rfl⟩;refine zaH ?_;intro b11;refine ze ?_;refine zF ?_;refine zM ?_;refine zn ?_;refine j4 (hdo4 _ _ _ hR3 (by omega)) ja ?_;rintro _ _ ⟨rfl,y4,hR4,rfl⟩;refine zgM ?_;intro b12;refine zaE ?_;refine zbg ?_;refine zed ?_;refine zbg ?_;refine zed ?_;refine zbg ?_;refine zed ?_;refine zz ?_;refine zaW ?_;clear hdo1 hdo2 hdo3 hdo4 hR1 hR2 hR3 hS1 hS2 hS3;refine K.cutT (σ:=HzS) [] jj (fun s kp_=>(7, .pointer (some ⟨D.b,0,none⟩))::kp_) (fun s=>hpH D s.y (s.h)++(oH uE 33 s.T s.oT++((b9,cells [.int .i64 0, .int .u64 (hh:Nat), .int .u64 w1, .int .i64 (yy.addr:Nat), .int .i64 us, .int .i64 si, .int .i64 cy, .bool ac] 42)::(b3,cells [vc, .int .i64 page,vt, .int .i64 workers, .int .i64 grey, .int .i64 gens] 25)::F))) (fun s=>True) ?_ ?_
  ·refine zgR ?_;refine zcO ?_;refine K.loopT (σ:=HzS) [(1,_),(2,_),(7,_),(8,_),(9,_)] (fun s kp_=>(14, .int .i64 (s.i:Nat))::(13,oV s.oT s.T.length)::kp_) (fun s=>hpH D s.y (s.h)++(oH uE 33 s.T s.oT++((b9,cells [.int .i64 0, .int .u64 (hh:Nat), .int .u64 w1, .int .i64 (yy.addr:Nat), .int .i64 us, .int .i64 si, .int .i64 cy, .bool ac] 42)::(b3,cells [vc, .int .i64 page,vt, .int .i64 workers, .int .i64 grey, .int .i64 gens] 25)::F))) (fun s=>s.i≤l.length∧s.i≤60∧HpR D s.f 400000000 s.y s.h∧s.f≤10+s.i*2∧StI D.C s.h s.T []∧PnI D.C j yy (wv:Nat) s.h∧s.T.length≤s.i∧oOk uE s.T s.oT) (fun s=>l.length-s.i) (⟨0,1+2+2+2+2,y4,h4,[],none⟩) jj ja (⟨Nat.zero_le _,Nat.zero_le _,hR4,(by show 1+2+2+2+2≤10+0*2;decide),hS4,hPn,Nat.le_refl _,rfl⟩) ?_;rintro⟨i,f,y,h,tl,otl⟩ ⟨hi,hi8,hR1,hf,hSt,hPn,hTl,kT⟩;dsimp only at hi hi8 hR1 hf hSt hPn hTl kT⊢
   by_cases hc1:i<l.length
   ·have hc1':((i:Nat):Int)<((l.length:Nat):Int):=by omega
    by_cases hc2:i<60
    ·have hc2':((i:Nat):Int)<60:=by omega
     obtain⟨x,hx⟩:=jA hc1
     have hxo:=hlo x (List.mem_of_getElem? hx)
     have hop:=fun A v (hS:Sli w0 A uE v tl)=>op_K (w0:=w0) (F:=A) hxo hS hSt.u
     have hzo:=jc3 hxo hSt.u
     have hzc:(opA x tl).c=x.o.c:=rfl
     obtain⟨z,hz⟩: ∃ z,opA x tl=z:=⟨_,rfl⟩
     rw[hz] at hop hzo hzc
     have hdo:=fun A=>jcf (w0:=w0) (F:=A) hG hD hSt.I hR1 (by omega) hzo
     have hS2:=hSt.do_ hC hzo
     have hold:=fun h0=>hSt.old (op:=z) hC hzo h0
     have hpd:=fun h3 h5=>pin_do hC hSt.I hPn hzo.v h3 h5
     obtain⟨⟨e2,hh2,w2,addr2,us2,si2,cy2,ac2⟩,h9,hv⟩: ∃ (q:SnP) (h9:HpP),hpDo D.C h z=(q,h9):=⟨_,_,rfl⟩
     rw[hv] at hS2;simp only[hv] at hdo hold hpd
     obtain⟨zc,zh,za,zb,zv⟩:=z
     unfold opV snV HpQ at hdo;unfold opV at hop;dsimp only at hS2 hold hpd hdo hop hzc;clear hv hz
     obtain⟨⟨xc,xh,xa,xb,xv⟩,xH,xV,wk,xk,xu⟩:=x
     have hxu:xu<256:=hxo.u
     dsimp only at hzc
     obtain rfl:=hzc.symm
     unfold acL at hop;dsimp only at hop;refine zle ?_;refine KL.nil (KE.next (K.condT rfl (K.skip (KE.next ?_))));refine byBlk ?_;refine zbm ?_;refine zk1 ?_;refine zmq ?_;rw[haE_enc];unfold acL;dsimp only;refine zaD ?_;intro b15
     (first|(refine KL.eN (Eff.storeAL rfl rfl rfl jF byLay jgs) ?_;rintro _ _ rfl)|(refine KL.eN (Eff.stSlA rfl rfl rfl rfl jn (by assumption) (by assumption)) ?_;rintro _ _ rfl))
     refine zN ?_
     cases wk with
     |true=>
      have hst2:=hSt.stp hC (k:=xk) (u:=((xu:Nat):Int))
      have hpn2:=hPn.mvs hC hSt.I (jfW (wr:=false) (k:=xk) (u:=((xu:Nat):Int)))
      have hstp:=fun A=>jdq (w0:=w0) (F:=A) (k:=xk) (u:=((xu:Nat):Int)) hG hD hR1 (by omega)
      unfold HpQ at hstp;refine zev ?_;refine za2 ?_;refine zp ?_;refine zf9 ?_;refine zbu ?_;refine zp ?_;refine zaL ?_;refine zV ?_;refine j4 (hstp _) ja ?_;rintro _ _ ⟨rfl,y1,h2,rfl⟩;refine zaY ?_;refine zk4 ?_;refine ziL ?_;refine zek ?_;refine zdY ?_;exact KE.again ⟨i+1,f,y1,_,tl,otl⟩ jj ja ⟨hc1,hc2,h2,(by show f≤10+(i+1)*2;omega),hst2,hpn2,(by show tl.length≤i+1;omega),kT⟩ (by show l.length-(i+1)<l.length-i;omega)
     |false=>
      by_cases hz5:xc=5
      ·have hz5':((xc:Nat):Int)=5:=by omega
       refine zev ?_;refine za2 ?_;refine zp ?_;refine z9 ?_;refine zaZ ?_;refine zB ?_;refine zJ ?_;refine zb5 ?_;refine zcI ?_;refine zk4 ?_;refine ziL ?_;refine zek ?_;refine zdY ?_;exact KE.again ⟨i+1,f,y,h,tl,otl⟩ jj ja ⟨hc1,hc2,hR1,(by show f≤10+(i+1)*2;omega),hSt,hPn,(by show tl.length≤i+1;omega),kT⟩ (by show l.length-(i+1)<l.length-i;omega)
      ·have hz5': ¬((xc:Nat):Int)=5:=by omega
       by_cases hz3:xc=3
       ·have hz3':((xc:Nat):Int)=3:=by omega
        refine zev ?_;refine za2 ?_;refine zp ?_;refine z9 ?_;refine zaZ ?_;refine zB ?_;refine zG ?_;refine zL ?_;refine zaZ ?_;refine zi ?_;refine zaq ?_;refine zJ ?_;refine zC ?_;refine zcI ?_;refine zk4 ?_;refine ziL ?_;refine zek ?_;refine zdY ?_;exact KE.again ⟨i+1,f,y,h,tl,otl⟩ jj ja ⟨hc1,hc2,hR1,(by show f≤10+(i+1)*2;omega),hSt,hPn,(by show tl.length≤i+1;omega),kT⟩ (by show l.length-(i+1)<l.length-i;omega)
       ·have hz3': ¬((xc:Nat):Int)=3:=by omega
        obtain⟨hPn9,hne⟩:=hpd hz3 hz5
        have hA9:=pin_A hS2.I hPn9
        refine zev ?_;refine za2 ?_;refine zp ?_;refine z9 ?_;refine zaZ ?_;refine zB ?_;refine zG ?_;refine zL ?_;refine zaZ ?_;refine zi ?_;refine zaq ?_;refine zbz ?_;refine zaG ?_;refine zb3 ?_;refine zmn ?_;refine zeE ?_;rintro _ _ ⟨rfl,y1,h2,rfl⟩;refine zfd ?_;intro b16;refine zaY ?_;refine K.cutT (σ:=HzS) [(1,_),(2,_),(7,_),(8,_),(9,_),(14,_),(15,_),(16,_)] jj (fun s kp_=>(13,oV s.oT s.T.length)::kp_) (fun s=>hpH D y1 (h9)++(oH uE 33 s.T s.oT++((b15,cells [.int .u8 (xc:Nat), .int .u64 (xh:Nat), .int .i64 xa, .int .i64 xb, .int .u64 (xv:Nat), .int .i64 xH, .int .i64 xV, .bool false, .int .i64 xk, .int .u8 (xu:Nat)] 37)::(b16,cells [.int .i64 e2, .int .u64 (hh2:Nat), .int .u64 w2, .int .i64 addr2, .int .i64 us2, .int .i64 si2, .int .i64 cy2, .bool ac2] 42)::(b9,cells [.int .i64 0, .int .u64 (hh:Nat), .int .u64 w1, .int .i64 (yy.addr:Nat), .int .i64 us, .int .i64 si, .int .i64 cy, .bool ac] 42)::(b3,cells [vc, .int .i64 page,vt, .int .i64 workers, .int .i64 grey, .int .i64 gens] 25)::F))) (fun s=>StI D.C h9 s.T []∧s.T.length≤i+1∧oOk uE s.T s.oT) ?_ ?_
        ·by_cases hh0:hh2=0
         ·have hh0':((hh2:Nat):Int)=0:=by omega
          refine zy ?_;refine zF ?_;refine zaE ?_;refine zbq ?_;exact KE.meet ⟨0,f,y1,h9,tl,otl⟩ jj ja ⟨hS2,(by show tl.length≤i+1;omega),kT⟩
         ·have hh0': ¬((hh2:Nat):Int)=0:=by omega
          have hbd:(tl++ [((hh2:Nat):Int)]).length≤4294967296:=by simp;omega
          refine zy ?_;refine zF ?_;refine zd5 ?_;refine ze ?_;refine zF ?_;refine zaj ?_;intro b107;refine KL.e rfl (Eff.appZ (ys:=[_]) rfl rfl rfl rfl rfl rfl jn (by assumption) (by first|exact Sli.blk jF rfl (by first|decide|simp) (by first|decide|(unfold maxLen;omega)) rfl|exact Sli.old (by assumption)|exact Sli.own jn (by assumption) j6|assumption|exact Sli.part (by assumption) ja) rfl (by first|assumption|omega|(simp<;>fail)|(simp;omega)) rfl) ?_;rintro _ _ ⟨o108,ok108,rfl,rfl⟩;refine zbY ?_;exact KE.meet ⟨0,f,y1,h9,tl++ [((hh2:Nat):Int)],o108⟩ jj ja ⟨hold hh0,(by show(tl++ [((hh2:Nat):Int)]).length≤i+1;simp;omega),ok108⟩
        ·rintro⟨_,_,_,_,tl2,otl2⟩ ⟨hS3,hTl2,kT2⟩;dsimp only at hS3 hTl2 kT2⊢
         have hfit:=hC.g.fits hyL
         have hwds:=hC.g.words
         have hxl:=h2.p.i.w.x
         have hgx:=jh0 (x:=h9.s.W.x) (a:=yy.addr+1) (by omega)
         rw[hPn9.w] at hgx
         have hLd:=fun A=>hyLoad_K (w0:=w0) (F:=A) h2 hTn hgx
         simp only[htn] at hLd
         have ea:((yy.addr:Nat):Int)+1=((yy.addr+1:Nat):Int):=by omega
         have hCyc:=fun A=>jbC (w0:=w0) (F:=A) (D:=D) (y:=y1) (h:=h9)
         have hAr:=fun A=>jeF (w0:=w0) (F:=A) h2
         have hSo:=fun A=>jmi (w0:=w0) (F:=A) h2 hyL
         have hHs:=fun A=>jii (w0:=w0) (F:=A) (t:=j) h2
         simp only[hA9,Option.getD_some] at hHs
         skip
         refine zdC ?_
         (first|(refine KL.v rfl (Val.fieldSl (k:=3) rfl rfl) ?_)|(refine KL.v rfl (Val.fieldAddr0 (k:=3) rfl rfl) ?_)|(refine KL.v rfl (Val.fieldAddrZ rfl rfl) ?_)|(refine KL.v rfl (Val.fieldAddr (k:=3) rfl rfl) ?_))
         refine zbo ?_;refine zkm ?_;rw[ea];refine zn ?_;refine ji (hLd _) ja ?_;refine zcw ?_;refine zcK ?_;refine K.drawn _ ((0,0)::(1,0)::(2,0)::(3,0)::(4,0)::(5,0)::(6,0)::(7,0)::(8,0)::(11,1)::(12,1)::(13,1)::(9,2)::(10,2)::(14,2)::(15,2)::(16,0)::(17,0)::(18,0)::(19,0)::(20,0)::(21,0)::(22,0)::(23,0)::(24,0)::(25,0)::(26,0)::(27,0)::(28,0)::(29,0)::(30,0)::(31,0)::(32,0)::(33,0)::(34,0)::(35,0)::[]) (by kernel_rfl) (by kernel_rfl) (by kernel_rfl) (by kernel_rfl) (by kernel_rfl) (by kernel_rfl) Part.all ?_;refine zbf ?_;refine zfS ?_;refine zf8 ?_;refine zh5 ?_;refine zbV ?_;refine zf8 ?_;refine KD.y1 rfl rfl rfl rfl (Val.move rfl) ?_;refine KD.y1 rfl rfl rfl rfl (Val.fieldAddr0 (k:=3) rfl rfl) ?_;refine zhc ?_;refine zcb fun T hT=>?_;refine(CallV.part (CallV.fn (hCyc _)) ja).mono ?_;rintro _ _ ⟨rfl,rfl⟩;refine zg ?_;clear hT T;refine zcb fun T hT=>?_;refine(CallV.part (CallV.fn (hAr _)) ja).mono ?_;rintro _ _ ⟨rfl,rfl⟩;refine zg ?_;clear hT T;refine zcb fun T hT=>?_;refine(CallV.part (CallV.fn (hSo _)) ja).mono ?_;rintro _ _ ⟨rfl,rfl⟩;refine zg ?_;clear hT T;refine zcb fun T hT=>?_;refine(CallV.part (CallV.fn (hHs _)) ja).mono ?_;rintro _ _ ⟨rfl,rfl⟩;refine zg ?_;clear hT T
         by_cases h1c:xc=1
         ·have h1c':((xc:Nat):Int)=1:=by omega
          by_cases he:e2=0
          ·have hna:=hne h1c he
           refine zh7 ?_;refine zbV ?_;refine zj ?_;refine zm1 ?_;refine ziy ?_;refine zkp ?_;refine zbt ?_;refine ziy ?_;refine zkp ?_;refine zhO ?_;refine zbt ?_;refine KD.y0 rfl rfl rfl rfl (Val.fieldAddr0 (k:=3) rfl rfl) ?_;refine zao ?_;refine KD.y0 rfl rfl rfl rfl (Val.fieldAddr0 (k:=3) rfl rfl) ?_;refine zao ?_;refine KD.y0 rfl rfl rfl rfl (Val.isF (Val.eql rfl rfl) jL) ?_;refine zhO ?_;refine zaB ?_;refine zbH ?_;refine zcg ?_;exact KE.again ⟨i+1,f+2,y1,h9,tl2,otl2⟩ jj ja ⟨hc1,hc2,h2,(by show f+2≤10+(i+1)*2;omega),hS3,hPn9,hTl2,kT2⟩ (by show l.length-(i+1)<l.length-i;omega)
          ·refine zh7 ?_;refine zbV ?_;refine zj ?_;refine zm1 ?_;refine ziy ?_;refine zkp ?_;refine zbt ?_;refine ziy ?_;refine KD.y0 rfl rfl rfl rfl (Val.isF (Val.eql rfl rfl) jL) ?_;refine zhO ?_;refine zbt ?_;refine zfg ?_;refine zel ?_;refine ziU ?_;refine zaB ?_;refine zbH ?_;refine zcg ?_;exact KE.again ⟨i+1,f+2,y1,h9,tl2,otl2⟩ jj ja ⟨hc1,hc2,h2,(by show f+2≤10+(i+1)*2;omega),hS3,hPn9,hTl2,kT2⟩ (by show l.length-(i+1)<l.length-i;omega)
         ·have h1c': ¬((xc:Nat):Int)=1:=by omega
          refine zh7 ?_;refine zbV ?_;refine zj ?_;refine zm1 ?_;refine ziy ?_;refine KD.y0 rfl rfl rfl rfl (Val.isF (Val.eql rfl rfl) jL) ?_;refine zbt ?_;refine zft ?_;refine ziU ?_;refine zbt ?_;refine zfg ?_;refine zel ?_;refine ziU ?_;refine zaB ?_;refine zbH ?_;refine zcg ?_;exact KE.again ⟨i+1,f+2,y1,h9,tl2,otl2⟩ jj ja ⟨hc1,hc2,h2,(by show f+2≤10+(i+1)*2;omega),hS3,hPn9,hTl2,kT2⟩ (by show l.length-(i+1)<l.length-i;omega)
    ·have hc2': ¬((i:Nat):Int)<60:=by omega
     refine zla ?_;refine zT ?_;refine zw ?_;refine zcf ?_;exact KE.meet ⟨0,f,y,h,tl,otl⟩ jj ja trivial
   ·have hc1': ¬((i:Nat):Int)<((l.length:Nat):Int):=by omega
    refine za4 ?_;refine zdi ?_;refine zaO ?_;refine zcf ?_;exact KE.meet ⟨0,f,y,h,tl,otl⟩ jj ja trivial
  ·rintro⟨_,f,y,h,tl,otl⟩ _;dsimp only;refine zy ?_;refine zn ?_;refine zdb ?_;exact zt
end
end Go.Proofs.YtpcgafhgfjlkmaaGreatDoor.Sw
