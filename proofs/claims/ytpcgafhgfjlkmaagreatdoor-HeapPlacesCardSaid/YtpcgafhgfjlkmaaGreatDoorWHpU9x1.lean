/-What the law needs of its own,part 1. -/
import Derived.Test.YtpcgafhgfjlkmaaGreatDoorD1
import Derived.WalkKit
import Derived.ProofKit
import Derived.RangeFuncNested
import Derived.RangeFuncBound
import Derived.RangeFuncCalls
import Derived.RangeFuncLeaves
import Derived.Lib.Hide
import Derived.Sort.BigQuietIn
import Derived.Deep.Quiet
import Derived.StillTailTactics
import Derived.Deep.LoopGhost
import Derived.Laws.Cells
import Derived.OrdersIn
import Derived.Deep.OwnRows
import Derived.Laws.CopyOwn
import Derived.IntWalk
import Derived.ArgAppend
import Derived.Deep.Slices
import Derived.Deep.Fields
import Derived.Laws.IdiomStrings
import Derived.Laws.StructEq
import Derived.Maps.RangeRun
import Derived.Laws.Externs
import Derived.Laws.FloatArith
import Derived.Laws.NewFold
import Derived.RecoverIn
import Derived.Shelf.Strconv.Itoa0
import Derived.Shelf.Bits.Mul64
import Derived.Shelf.Slices.Turned
import Derived.Test.YtpcgafhgfjlkmaaGreatDoorProg
import Derived.SizedLaws
import Derived.Lib.SmallJoins
import Derived.ChangeMaps5
import Derived.Lib.TrailingZeros
import Derived.Lib.BitFns
import Derived.Shelf.Spec.TrailingZeros
import Derived.Test.YtpcgafhgfjlkmaaGreatDoorRows
import Derived.OpenShut
import Derived.LaidMore
import Derived.Lay
import Derived.LaidHandle
import Derived.Test.YtpcgafhgfjlkmaaGreatDoorJ39
set_option linter.unusedVariables false set_option linter.unusedSimpArgs false namespace Go.Proofs.YtpcgafhgfjlkmaaGreatDoor
set_option maxHeartbeats 8000000
open Go.RowKit Go.ChangeShapes Go.WideShapes Go.ChangeAt Go.Deep
variable {P : Program}
theorem slice_sl {α:Type} {E:Enc α} {H:Type} {enc:TypeId × Value→H} {W:World} {base:Nat} {t e:TypeId} (ht:P.underlying t=some (.slice e)) (hk:P.cellsOf e=E.sz) (hk0:0<E.sz) {v:Value} {d:DataW H} {p:List MemPlace}
  (ho:Value.okWide P W .any base t v) (h:DataW.Trod enc P W 0 (fun _=>true) true t v d p) (Ok:α→Prop)
  (hR: ∀ fuel cs x,DataW.trod enc P W 0 (fun _=>true) true fuel e cs=some x→cs.length=E.sz→ ∃ y,cs=E.enc y∧Ok y):
  ∃ ys:List α,SlW W E v ys∧ ∀ y∈ys,Ok y:=by
 obtain⟨a,len,cap,rfl⟩:=okWide_slice ht ho
 obtain⟨fuel,hf⟩:=h
 rcases open_slice ht hf with⟨hcs,_⟩|⟨a',len',cap',m,n,D,Pl,hcs,_,hl,hm,hmm,_,hx⟩
 ·simp[Value.cells] at hcs
  obtain⟨rfl,rfl,rfl⟩:=hcs
  exact⟨[],SlW.nil W E,fun y hy=>by cases hy⟩
 ·simp[Value.cells] at hcs
  obtain⟨rfl,rfl,rfl⟩:=hcs
  simp only[if_true] at hmm;subst hmm
  have key: ∀ i,i<len→ ∃ y,Ok y∧ ∀ j,j<E.sz→W.cell? (a'.add (i*E.sz+j))=(E.enc y)[j]? :=by
   intro i hi
   obtain⟨cs',h1,h2⟩:=hx i (by omega)
   rw[hk] at h1
   obtain⟨_,hlen,hat⟩:=World.cells?_some h1
   obtain⟨y,rfl,hy⟩:=hR _ _ _ h2 hlen
   exact zkP
  obtain⟨ys,hys,hall⟩:=jgC len (fun i y=>Ok y∧ ∀ j,j<E.sz→W.cell? (a'.add (i*E.sz+j))=(E.enc y)[j]?) key
  subst hys
  have hspot:0<ys.length→ ∃ b off,a'=⟨b,off,none⟩:=by
   intro hpos
   obtain⟨b,off,spot⟩:=a'
   obtain⟨y0,_,hc0⟩:=key 0 hpos
   have h1:=hc0 0 hk0
   rw[List.getElem?_eq_getElem (by rw[E.len];exact hk0)] at h1
   have hsp:spot=none:=by simpa [Addr.add] using World.cell?_spot h1
   subst hsp;exact⟨b,off,rfl⟩
  refine⟨ys,⟨⟨some a',m,rfl,hl,hm,fun hne=>?_⟩,?_⟩,?_⟩
  ·obtain⟨b,off,rfl⟩:=hspot (List.length_pos_iff.2 hne)
   exact⟨b,off,rfl⟩
  ·intro i y hy j u hu
   have hi:=(List.getElem?_eq_some_iff.1 hy).1
   obtain⟨b,off,rfl⟩:=hspot (by omega)
   have hj:j<E.sz:=by have:=(List.getElem?_eq_some_iff.1 hu).1;rwa[E.len] at this
   have:=(hall i y hy).2 j hj
   rw[jbb,hu] at this
   simpa [adr] using this
  ·intro y hy
   obtain⟨i,hi⟩:=List.getElem?_of_mem hy
   exact(hall i y hi).1
open Go.RowKit Go.ChangeShapes Go.WideShapes Go.ChangeAt Go.Deep Go.Joins
set_option linter.unusedVariables false
set_option maxRecDepth 100000
def jaJ (z:Int):Prop:=0≤z∧z≤18446744073709551615
def u8ok (z:Int):Prop:=0≤z∧z≤255
theorem jbF {z:Int} (h:(Lit.int .u64 z).wf=true):jaJ z:=by simpa [Lit.wf,IntKind.min,IntKind.max,IntKind.signed,IntKind.bits,jaJ] using h
theorem wf_u8 {z:Int} (h:(Lit.int .u8 z).wf=true):u8ok z:=by simpa [Lit.wf,IntKind.min,IntKind.max,IntKind.signed,IntKind.bits,u8ok] using h
end Go.Proofs.YtpcgafhgfjlkmaaGreatDoor
set_option linter.unusedSimpArgs false
namespace Go.Proofs.YtpcgafhgfjlkmaaGreatDoor.Sw
open Go.Proofs.YtpcgafhgfjlkmaaGreatDoor renaming lo → qL, hi → qH
open Go.RowKit
set_option maxRecDepth 10000
theorem rMay_K {w0:World} {H:jb} {h:HdP}:Call Tryz.prog w0 61 [hdV h] H (fun r H'=>r= .bool (Jd h)∧H'=H):=by
 obtain⟨c,r,w⟩:=h
 unfold hdV
 have yes:(0≤c∧c<8∧0≤r∧0≤w∧r≤63∧w≤63-r)→Jd ⟨c,r,w⟩=true:=fun h=>decide_eq_true h
 have no: ¬(0≤c∧c<8∧0≤r∧0≤w∧r≤63∧w≤63-r)→Jd ⟨c,r,w⟩=false:=fun h=>decide_eq_false h
 refine Call.enter1 (n:=34) (by rfl) Tryz.func61 rfl rfl rfl ?_
 by_cases h1:c≥0
 ·by_cases h2:c≤7
  ·by_cases h3:r≥0
   ·by_cases h5:r≤63
    ·by_cases h4:w≥0
     ·by_cases h6:w≤63-r
      ·rw[yes (by omega)];refine zgN ?_;intro b1;refine zld ?_;refine zam ?_;refine zf5 ?_;refine zeB ?_;refine zam ?_;refine zcR ?_;refine zaz ?_;refine zcR ?_;refine zbh ?_;refine zfo ?_;refine zam ?_;exact zdl
      ·refine zeH ?_;intro b1;refine zam ?_;refine zf5 ?_;refine zeB ?_;refine zam ?_;refine zcR ?_;refine zaz ?_;refine zcR ?_;refine zbh ?_;refine zfo ?_;refine zcr ?_;exact zdl
     ·refine zeH ?_;intro b1;refine zam ?_;refine zf5 ?_;refine zeB ?_;refine zam ?_;refine zcR ?_;refine zbO ?_;refine zw ?_;exact zeF
    ·refine zeH ?_;intro b1;refine zam ?_;refine zf5 ?_;refine zeB ?_;refine zcr ?_;refine zgb ?_;exact zeF
   ·refine zeH ?_;intro b1;refine zam ?_;refine zeB ?_;refine zbO ?_;refine zgb ?_;refine zax ?_;exact zeF
  ·refine zeH ?_;intro b1;refine zcr ?_;refine zgb ?_;refine zax ?_;refine zax ?_;exact zeF
 ·refine zk6 ?_;intro b1;refine zbO ?_;refine zax ?_;refine zax ?_;refine zax ?_;refine zax ?_;exact zeF
theorem rNeed_K {w0:World} {H:jb} {h:HdP}:Call Tryz.prog w0 25 [hdV h] H (fun u H'=>u= .tuple [.int .i64 (jaV h).1, .int .i64 (jaV h).2].toArray∧H'=H):=by
 have hu:hdV h= .agg [.int .i64 h.c, .int .i64 h.r, .int .i64 h.w].toArray:=rfl
 rw[hu];refine Call.enter1 (n:=13) (by rfl) Tryz.func25 rfl rfl rfl ?_;refine zcj ?_;intro b1;refine zc2 fun T hT=>?_;refine(CallV.fn (rMay_K (h:=h))).mono ?_;rintro _ _ ⟨rfl,rfl⟩
 cases hm:Jd h with
 |true=>
  have hb:=jbm hm
  have hn:jaV h=(1+h.r+h.w,0):=by grind[jaV]
  refine zd ?_;clear hT T;rw[hn];refine zeX ?_;refine zF ?_;refine zal ?_;refine zI ?_;refine zal ?_;exact zb8
 |false=>
  have hn:jaV h=(0,2):=by grind[jaV]
  refine zd ?_;clear hT T;rw[hn];exact zfB
set_option maxRecDepth 10000
namespace PlG
end PlG
def plL (v:PlV) (g:PlG):List Value:=[v.L,v.F,v.M, .int .i64 (g.words:Nat),v.C]
set_option maxRecDepth 10000
section
variable {C : HpC} {wr : Bool} {h h' : HpP} {s s' : CyP} {n : Nat}
theorem jaQ {op:OpP}:(hpDo C h op).1.e=(jt C {h with wk:=0} op).1.e:=by
 unfold hpDo ja1
 split<;>rfl
end
open Go.RowKit
set_option maxRecDepth 10000
section
variable {C : HpC} {wr : Bool} {h h' : HpP} {s s' : CyP} {n : Nat}
theorem mint_slot {T:List jh} {tn t:Nat} (htn:tn<256) (hT:T.length≤1024) (he: ∀ e∈T,1≤e.gen∧e.gen≤2147483648) (hf:(Ju T).isSome=true):hpSlot tn (jK T (t:Nat)) (JG tn T)=some ((t:Nat):Int):=by
 obtain⟨j,hj⟩:=Option.isSome_iff_exists.1 hf
 obtain⟨⟨e0,g1,g2⟩,_⟩:=ja7 hj
 have hl:=jx g1
 have hb:=he e0 (List.mem_of_getElem? g1)
 unfold JG jar jK hpSlot;rw[hj];dsimp only;simp only[jcd g1,Int.toNat_natCast,jem (t:=tn) (i:=j) (n:=e0.gen.toNat) (by omega) (by omega),jen (t:=tn) (i:=j) (n:=e0.gen.toNat) (by omega),jgr (t:=tn) (i:=j) (n:=e0.gen.toNat) (by omega) (by omega)];rw[if_pos ⟨by omega,trivial⟩];unfold namedT;rw[if_pos (by omega),Int.toNat_natCast,List.getElem?_set_self hl];dsimp only;rw[if_pos ⟨rfl,by omega⟩]
 rfl
theorem jdX (hC:jk C) (hI:HeI C h) {a b:Int} (h0:(jE C h a b).1.e=0):NewO C (jE C h a b).2 (jE C h a b).1.h a b:=by
 have ok:=hC.g
 unfold jE at h0⊢
 split at h0
 ·cases h0
 ·rename_i hm
  rw[if_neg hm]
  split at h0
  ·cases h0
  ·rename_i hk
   rw[if_neg hk];dsimp only at h0⊢
   have m1:=jb3 (wr:=true) hC hI (k:=classI C.g (a+b+1))
   have hI1:=hI.mvs hC m1
   revert h0 hI1
   generalize allocR C h (classI C.g (a+b+1))=h1
   intro h0 hI1
   split at h0
   ·cases h0
   ·rename_i h2
    rw[if_neg h2]
    split at h0
    ·cases h0
    ·rename_i h3
     rw[if_neg h3]
     obtain⟨j,y,ht,g3,hy,hcl,hsz,hmay2,hlies⟩:=jcy hC hI1 (not_false' hm) hk (not_false' h2)
     have m2:HpMv C true h1 _:=jbV hC hI1 (not_false' hm) hk (not_false' h2) (not_false' h3)
     have hI2:=hI1.mv hC m2
     have hw:=jcU (n:=C.g.y (classI C.g (a+b+1))) hC hI2
     obtain⟨q1,q2,q3⟩:=jeN ok hI1.ok.w.x hy (hI1.zr g3) hlies
     have hs2:(mkC C.g h1.s (classI C.g (a+b+1):Nat) ⟨(classI C.g (a+b+1):Nat),a,b⟩).W={h1.s.W with T:=jK h1.s.W.T (j:Nat),x:=(makeP h1.s.W.x y ⟨(classI C.g (a+b+1):Nat),a,b⟩).2}:=by
      unfold mkC;rw [ht];dsimp only;rw [jC hy]
     have hsl:hpSlot C.tn (mkC C.g h1.s (classI C.g (a+b+1):Nat) ⟨(classI C.g (a+b+1):Nat),a,b⟩).W.T (JG C.tn h1.s.W.T)=some ((j:Nat):Int):=by
      rw[hs2];exact zk2
     have hr:RchM C.g (mkC C.g h1.s (classI C.g (a+b+1):Nat) ⟨(classI C.g (a+b+1):Nat),a,b⟩).W j:=jax.slot (jai hsl)
     have hS:=hw.w j hr
     refine⟨j,y,classI C.g (a+b+1),?_,hy,?_,hmay2,fun i i1 i2=>?_⟩
     ·show hpSlot C.tn (jaS C _ {h1 with s:=mkC C.g h1.s _ _}).s.W.T _=_
      unfold hpSlot at hsl⊢;rw[hw.nm];exact hsl
     ·rw[jcN ok hS hy]
      show headP (mkC C.g h1.s _ _).W.x y=_
      rw[hs2];exact q2
     ·rw[hS y hy i i2]
      show wAt (mkC C.g h1.s _ _).W.x _=_
      rw[hs2];exact q3 i i1 i2
end
set_option maxRecDepth 10000
section
variable {w0 : World} {F : jb} {y : CyM} {s : CyP} {g : PlG} {long : Nat}
theorem jfb {t:Nat} (h:CpR g long y s):Call Tryz.prog w0 24 [.pointer (some ⟨y.a.b,0,none⟩), .int .i64 (t:Nat)] (cycH y++F) (fun r H'=>r= .bool ((s.A[t]?).getD false)∧H'=cycH y++F):=by
 have hc:=Call.ro (w0:=w0) (A:=jW y.a y.B.p) (H:=cycH y++F) (fun F=>Has_K (F:=F) (i:=(t:Nat)) h.oka) (by rw[cycH_app];exact ja)
 rw[jdC,h.A] at hc;exact hc
theorem cSlot_K {i:Nat} (h:CpR g long y s):Call Tryz.prog w0 29 [.pointer (some ⟨y.T.b,0,none⟩), .int .i64 (i:Nat)] (cycH y++F) (fun r H'=>r= .tuple [.int .i64 ((slotT s.W.T (i:Nat)).getD 0), .bool (slotT s.W.T (i:Nat)).isSome].toArray∧H'=cycH y++F):=by
 have hc:=Call.ro (w0:=w0) (A:=jy y.T) (H:=cycH y++F) (fun F=>jj0 (F:=F) (i:=i) h.p.tb) (by rw[cycH_app];exact ja)
 rw[h.p.eT] at hc;exact hc
end
open Go.RowKit
set_option maxRecDepth 10000
section
variable {w0 : World} {D : HpD} {nf nk n : Nat} {y y' : CyM} {h : HpP} {s s' : CyP} {F G : jb} {op : OpP} {z : jg}
theorem jbC:Call Tryz.prog w0 17 [.pointer (some ⟨D.b,0,none⟩)] (hpH D y h++F) (fun r H'=>r= .pointer (some ⟨D.yb,0,none⟩)∧H'=hpH D y h++F):=by
 have hnone:=fun A=>jb5 (w0:=w0) (D:=D) (y:=y) (h:=h) (F:=A)
 refine zfX ?_;refine zfN ?_;refine za2 ?_;exact zfM
end
set_option maxRecDepth 10000
theorem jdy {T:List Int} {i:Int} {d:Nat} (h: ¬(0≤i∧0<T.length)):pickT T i d=d:=if_neg h
section
variable {w0 : World} {F : jb} {x : jU} {T : List Int} {v : Value}
set_option maxHeartbeats 1000000 in
theorem op_K (hx:J7 x) (hS:Sli w0 F uE v T) (hT:u64s T):Call Tryz.prog w0 15 [.agg (acL x).toArray,v] F (fun r H'=>r=opV (opA x T)∧H'=F):=by
 obtain⟨⟨c,h,a,b,vv⟩,H,V,wk,k,u⟩:=x
 unfold acL opV opA;dsimp only
 by_cases hl:0<T.length
 ·have hl0:((T.length:Nat):Int)>0:=by omega
  have hl1: ¬((T.length:Nat):Int)=0:=by omega
  by_cases hH:0≤H
  ·have hH':H≥0:=hH
   obtain⟨i,e,i1,i2,i3,i4⟩:=pick_at hT hH hl h
   have i3':T[((i:Nat):Int).toNat]?=some ((e:Nat):Int):=i3
   rw[i4]
   by_cases hV:0≤V
   ·have hV':V≥0:=hV
    obtain⟨j,f,j1q,j2,j3q,j4q⟩:=pick_at hT hV hl vv
    have j3':T[((j:Nat):Int).toNat]?=some ((f:Nat):Int):=j3q
    rw[j4q];refine Call.enter2 (n:=43) (by kernel_rfl) Tryz.func15 rfl rfl rfl ?_;refine zit ?_;intro b2 b4;refine zaZ ?_;refine z3 ?_;refine zfd ?_;intro b5;refine zdH ?_;refine zca ?_;refine zp ?_;refine zaz ?_;refine zA ?_;refine zcx ?_;refine zbs ?_;refine zw ?_;refine zcI ?_;refine zdC ?_
    (first|(refine KL.v rfl (Val.fieldSl (k:=5) rfl rfl) ?_)|(refine KL.v rfl (Val.fieldAddr0 (k:=5) rfl rfl) ?_)|(refine KL.v rfl (Val.fieldAddrZ rfl rfl) ?_)|(refine KL.v rfl (Val.fieldAddr (k:=5) rfl rfl) ?_))
    refine zbo ?_;refine ze ?_;refine zjO ?_
    (first|(refine KL.v rfl (Val.remN rfl rfl (by omega)) ?_)|(refine KL.v rfl (Val.rem rfl rfl (by omega)) ?_))
    rw[i1];refine zk1 ?_;refine zbo ?_;refine zc7 ?_;refine zfW ?_;refine zdH ?_;refine zbI ?_;refine zp ?_;refine zaz ?_;refine zA ?_;refine zcx ?_;refine zbs ?_;refine zw ?_;refine zcI ?_;refine zdC ?_
    (first|(refine KL.v rfl (Val.fieldSl (k:=6) rfl rfl) ?_)|(refine KL.v rfl (Val.fieldAddr0 (k:=6) rfl rfl) ?_)|(refine KL.v rfl (Val.fieldAddrZ rfl rfl) ?_)|(refine KL.v rfl (Val.fieldAddr (k:=6) rfl rfl) ?_))
    refine zbo ?_;refine ze ?_;refine zjO ?_
    (first|(refine KL.v rfl (Val.remN rfl rfl (by omega)) ?_)|(refine KL.v rfl (Val.rem rfl rfl (by omega)) ?_))
    rw[j1q];refine zk1 ?_;refine zbo ?_
    (first|(refine KL.v rfl (Val.fieldSl (k:=4) rfl rfl) ?_)|(refine KL.v rfl (Val.fieldAddr0 (k:=4) rfl rfl) ?_)|(refine KL.v rfl (Val.fieldAddrZ rfl rfl) ?_)|(refine KL.v rfl (Val.fieldAddr (k:=4) rfl rfl) ?_))
    refine zfW ?_;refine zW ?_;refine zlh ?_;exact zZ
   ·have hV': ¬V≥0:=hV
    rw[jdy (i:=V) (fun q=>hV q.1)];refine Call.enter2 (n:=43) (by kernel_rfl) Tryz.func15 rfl rfl rfl ?_;refine zit ?_;intro b2 b4;refine zaZ ?_;refine z3 ?_;refine zfd ?_;intro b5;refine zdH ?_;refine zca ?_;refine zp ?_;refine zaz ?_;refine zA ?_;refine zcx ?_;refine zbs ?_;refine zw ?_;refine zcI ?_;refine zdC ?_
    (first|(refine KL.v rfl (Val.fieldSl (k:=5) rfl rfl) ?_)|(refine KL.v rfl (Val.fieldAddr0 (k:=5) rfl rfl) ?_)|(refine KL.v rfl (Val.fieldAddrZ rfl rfl) ?_)|(refine KL.v rfl (Val.fieldAddr (k:=5) rfl rfl) ?_))
    refine zbo ?_;refine ze ?_;refine zjO ?_
    (first|(refine KL.v rfl (Val.remN rfl rfl (by omega)) ?_)|(refine KL.v rfl (Val.rem rfl rfl (by omega)) ?_))
    rw[i1];refine zk1 ?_;refine zbo ?_;refine zc7 ?_;refine zfW ?_;refine zdH ?_;refine zbI ?_;refine zp ?_;refine zbO ?_;refine zax ?_;refine zz ?_;refine zlh ?_;exact zZ
  ·have hH': ¬H≥0:=hH
   rw[jdy (i:=H) (fun q=>hH q.1)]
   by_cases hV:0≤V
   ·have hV':V≥0:=hV
    obtain⟨j,f,j1q,j2,j3q,j4q⟩:=pick_at hT hV hl vv
    have j3':T[((j:Nat):Int).toNat]?=some ((f:Nat):Int):=j3q
    rw[j4q];refine Call.enter2 (n:=43) (by kernel_rfl) Tryz.func15 rfl rfl rfl ?_;refine zit ?_;intro b2 b4;refine zaZ ?_;refine z3 ?_;refine zfd ?_;intro b5;refine zdH ?_;refine zca ?_;refine zp ?_;refine zbO ?_;refine zax ?_;refine z9 ?_;refine zbI ?_;refine zp ?_;refine zaz ?_;refine zA ?_;refine zcx ?_;refine zbs ?_;refine zw ?_;refine zcI ?_;refine zdC ?_
    (first|(refine KL.v rfl (Val.fieldSl (k:=6) rfl rfl) ?_)|(refine KL.v rfl (Val.fieldAddr0 (k:=6) rfl rfl) ?_)|(refine KL.v rfl (Val.fieldAddrZ rfl rfl) ?_)|(refine KL.v rfl (Val.fieldAddr (k:=6) rfl rfl) ?_))
    refine zbo ?_;refine ze ?_;refine zjO ?_
    (first|(refine KL.v rfl (Val.remN rfl rfl (by omega)) ?_)|(refine KL.v rfl (Val.rem rfl rfl (by omega)) ?_))
    rw[j1q];refine zk1 ?_;refine zbo ?_
    (first|(refine KL.v rfl (Val.fieldSl (k:=4) rfl rfl) ?_)|(refine KL.v rfl (Val.fieldAddr0 (k:=4) rfl rfl) ?_)|(refine KL.v rfl (Val.fieldAddrZ rfl rfl) ?_)|(refine KL.v rfl (Val.fieldAddr (k:=4) rfl rfl) ?_))
    refine zfW ?_;refine zW ?_;refine zlh ?_;exact zZ
   ·have hV': ¬V≥0:=hV
    rw[jdy (i:=V) (fun q=>hV q.1)];refine Call.enter2 (n:=43) (by kernel_rfl) Tryz.func15 rfl rfl rfl ?_;refine zit ?_;intro b2 b4;refine zaZ ?_;refine z3 ?_;refine zfd ?_;intro b5;refine zdH ?_;refine zca ?_;refine zp ?_;refine zbO ?_;refine zax ?_;refine z9 ?_;refine zbI ?_;refine zp ?_;refine zbO ?_;refine zax ?_;refine zz ?_;refine zlh ?_;exact zZ
 ·have hl0: ¬((T.length:Nat):Int)>0:=by omega
  rw[jdy (i:=H) (fun q=>hl q.2),jdy (i:=V) (fun q=>hl q.2)]
  by_cases hH:0≤H
  ·have hH':H≥0:=hH
   by_cases hV:0≤V
   ·have hV':V≥0:=hV
    refine Call.enter2 (n:=43) (by kernel_rfl) Tryz.func15 rfl rfl rfl ?_;refine zit ?_;intro b2 b4;refine zaZ ?_;refine z3 ?_;refine zfd ?_;intro b5;refine zdH ?_;refine zca ?_;refine zp ?_;refine zaz ?_;refine zA ?_;refine zcx ?_;refine zcq ?_;refine zw ?_;refine z9 ?_;refine zbI ?_;refine zp ?_;refine zaz ?_;refine zA ?_;refine zcx ?_;refine zcq ?_;refine zw ?_;refine zz ?_;refine zlh ?_;exact zZ
   ·have hV': ¬V≥0:=hV
    refine Call.enter2 (n:=43) (by kernel_rfl) Tryz.func15 rfl rfl rfl ?_;refine zit ?_;intro b2 b4;refine zaZ ?_;refine z3 ?_;refine zfd ?_;intro b5;refine zdH ?_;refine zca ?_;refine zp ?_;refine zaz ?_;refine zA ?_;refine zcx ?_;refine zcq ?_;refine zw ?_;refine z9 ?_;refine zbI ?_;refine zp ?_;refine zbO ?_;refine zax ?_;refine zz ?_;refine zlh ?_;exact zZ
  ·have hH': ¬H≥0:=hH
   by_cases hV:0≤V
   ·have hV':V≥0:=hV
    refine Call.enter2 (n:=43) (by kernel_rfl) Tryz.func15 rfl rfl rfl ?_;refine zit ?_;intro b2 b4;refine zaZ ?_;refine z3 ?_;refine zfd ?_;intro b5;refine zdH ?_;refine zca ?_;refine zp ?_;refine zbO ?_;refine zax ?_;refine z9 ?_;refine zbI ?_;refine zp ?_;refine zaz ?_;refine zA ?_;refine zcx ?_;refine zcq ?_;refine zw ?_;refine zz ?_;refine zlh ?_;exact zZ
   ·have hV': ¬V≥0:=hV
    refine Call.enter2 (n:=43) (by kernel_rfl) Tryz.func15 rfl rfl rfl ?_;refine zit ?_;intro b2 b4;refine zaZ ?_;refine z3 ?_;refine zfd ?_;intro b5;refine zdH ?_;refine zca ?_;refine zp ?_;refine zbO ?_;refine zax ?_;refine z9 ?_;refine zbI ?_;refine zp ?_;refine zbO ?_;refine zax ?_;refine zz ?_;refine zlh ?_;exact zZ
end
set_option maxRecDepth 10000
def haE:Enc jU:=⟨acL,10,fun _=>rfl,by intro x v hv;simp[acL] at hv;rcases hv with rfl|rfl|rfl|rfl|rfl|rfl|rfl|rfl|rfl|rfl<;>rfl⟩
section
variable {C : HpC} {h h' : HpP} {T G : List Int} {op : OpP}
theorem StI.new0 (hC:jk C):StI C (newH C) [] []:=⟨HeI.new hC,fun x hx=>(by cases hx),fun x hx=>(by cases hx)⟩
end
open Go.RowKit Go.ChangeShapes Go.WideShapes Go.ChangeAt Go.Deep Go.Joins
set_option maxRecDepth 100000
section
variable {H : Type} {enc : TypeId × Value → H} {W : World}
theorem jdL {fuel:Nat} {cs:List Value} {x:DataW H × List MemPlace} (hx:DataW.trod enc Tryz.prog W 0 (fun _=>true) true fuel 35 cs=some x) (hlen:cs.length=5): ∃ y:OpP,cs=[.int .u8 (y.c:Nat), .int .u64 (y.h:Nat), .int .i64 y.a, .int .i64 y.b, .int .u64 (y.v:Nat)]∧JN y:=by
 obtain⟨c0,c1,c2,c3,c4,rfl⟩: ∃ c0 c1 c2 c3 c4,cs=[c0,c1,c2,c3,c4]:=by
  match cs,hlen with
  | [c0,c1,c2,c3,c4],_=>exact⟨c0,c1,c2,c3,c4,rfl⟩
 obtain⟨xs,n,_,rfl,hl,hxl,hf⟩:=DataW.trod_struct Tryz.underlying35 hx
 have k8:(Tryz.prog).cellsOf 5=1:=by kernel_rfl
 have ku:(Tryz.prog).cellsOf 33=1:=by kernel_rfl
 have ki:(Tryz.prog).cellsOf 3=1:=by kernel_rfl
 match xs,hxl with
 | [y0,y1,y2,y3,y4],_=>
  have h0:=hf 0 _ rfl
  have h1:=hf 1 _ rfl
  have h2:=hf 2 _ rfl
  have h3:=hf 3 _ rfl
  have h4:=hf 4 _ rfl
  obtain⟨a0,e0,-,w0⟩:=DataW.trod_int Tryz.underlying5 (by simpa [k8,ku,ki] using h0)
  obtain⟨a1,e1,-,w1⟩:=DataW.trod_int Tryz.underlying33 (by simpa [k8,ku,ki] using h1)
  obtain⟨a2,e2,-,w2⟩:=DataW.trod_int Tryz.underlying3 (by simpa [k8,ku,ki] using h2)
  obtain⟨a3,e3,-,w3⟩:=DataW.trod_int Tryz.underlying3 (by simpa [k8,ku,ki] using h3)
  obtain⟨a4,e4,-,w4⟩:=DataW.trod_int Tryz.underlying33 (by simpa [k8,ku,ki] using h4)
  simp at e0 e1 e2 e3 e4
  have hu0:=wf_u8 w0
  have hu1:=jbF w1
  have hu4:=jbF w4
  unfold u8ok at hu0;unfold jaJ at hu1 hu4
  obtain⟨n0,rfl⟩: ∃ n0:Nat,a0=n0:=⟨a0.toNat,by omega⟩
  obtain⟨n1,rfl⟩: ∃ n1:Nat,a1=n1:=⟨a1.toNat,by omega⟩
  obtain⟨n4,rfl⟩: ∃ n4:Nat,a4=n4:=⟨a4.toNat,by omega⟩
  subst e0 e1 e2 e3 e4;exact zjM
theorem hact_in {fuel:Nat} {cs:List Value} {x:DataW H × List MemPlace} (hx:DataW.trod enc Tryz.prog W 0 (fun _=>true) true fuel 37 cs=some x) (hlen:cs.length=10): ∃ y:jU,cs=haE.enc y∧J7 y:=by
 obtain⟨c0,c1,c2,c3,c4,c5,c6,c7,c8,c9,rfl⟩: ∃ c0 c1 c2 c3 c4 c5 c6 c7 c8 c9,cs=[c0,c1,c2,c3,c4,c5,c6,c7,c8,c9]:=by
  match cs,hlen with
  | [c0,c1,c2,c3,c4,c5,c6,c7,c8,c9],_=>exact⟨c0,c1,c2,c3,c4,c5,c6,c7,c8,c9,rfl⟩
 obtain⟨xs,n,hn,rfl,hl,hxl,hf⟩:=DataW.trod_struct Tryz.underlying37 hx
 have k8:(Tryz.prog).cellsOf 5=1:=by kernel_rfl
 have kb:(Tryz.prog).cellsOf 4=1:=by kernel_rfl
 have ki:(Tryz.prog).cellsOf 3=1:=by kernel_rfl
 have ko:(Tryz.prog).cellsOf 35=5:=by kernel_rfl
 match xs,hxl with
 | [y0,y1,y2,y3,y4,y5],_=>
  have h0:=hf 0 _ rfl
  have h1:=hf 1 _ rfl
  have h2:=hf 2 _ rfl
  have h3:=hf 3 _ rfl
  have h4:=hf 4 _ rfl
  have h5:=hf 5 _ rfl
  obtain⟨o,eo,ho⟩:=jdL (cs:=[c0,c1,c2,c3,c4]) (by simpa [k8,kb,ki,ko] using h0) rfl
  obtain⟨a1,e1,-,w1⟩:=DataW.trod_int Tryz.underlying3 (by simpa [k8,kb,ki,ko] using h1)
  obtain⟨a2,e2,-,w2⟩:=DataW.trod_int Tryz.underlying3 (by simpa [k8,kb,ki,ko] using h2)
  obtain⟨a3,e3,-⟩:=DataW.trod_bool Tryz.underlying4 (by simpa [k8,kb,ki,ko] using h3)
  obtain⟨a4,e4,-,w4⟩:=DataW.trod_int Tryz.underlying3 (by simpa [k8,kb,ki,ko] using h4)
  obtain⟨a5,e5,-,w5⟩:=DataW.trod_int Tryz.underlying5 (by simpa [k8,kb,ki,ko] using h5)
  simp at eo e1 e2 e3 e4 e5
  have hu:=wf_u8 w5
  unfold u8ok at hu
  obtain⟨n5,rfl⟩: ∃ n5:Nat,a5=n5:=⟨a5.toNat,by omega⟩
  obtain⟨q0,q1,q2,q3,q4⟩:=eo
  subst q0 q1 q2 q3 q4 e1 e2 e3 e4 e5;exact zkQ
end
open Go.RowKit
set_option maxRecDepth 10000
section
variable {w0 : World} {F : jb} {D : HpD} {y : CyM} {h : HpP} {nf nk : Nat}
theorem jga {C:HpC} {op:OpP}:(hpDo C h op).1.used=(usedL C.g.L (hpDo C h op).2.s.A:Nat):=rfl
variable {c : Cfg} {vc vt v : Value} {l : List jU} {x : jU}
end
open Go.RowKit Go.ChangeShapes Go.WideShapes Go.ChangeAt Go.Deep Go.Joins
set_option maxRecDepth 100000
theorem jdB {H:Type} {enc:TypeId × Value→H} {W:World} {base:Nat} {v:Value} {d:DataW H} {p:List MemPlace} (ho:Value.okWide Tryz.prog W .any base 26 v) (h:DataW.Trod enc Tryz.prog W 0 (fun _=>true) true 26 v d p):
  ∃ l:List jU,SlW W haE v l∧ ∀ x∈l,J7 x:=slice_sl (P:=Tryz.prog) (E:=haE) Tryz.underlying26 (by kernel_rfl) (by decide) ho h J7 (fun fuel cs x hx hl=>hact_in hx hl)
set_option maxRecDepth 10000
section
variable {C : HpC} {wr : Bool} {h h' : HpP} {s s' : CyP} {n : Nat}
theorem jfg (hC:jk C) (hI:HeI C h) {a b:Int} (h0:(jE C h a b).1.e=0): ∃ (j:Nat) (y:jg),C.g.L[j]?=some y∧(jE C h a b).1.addr=(y.addr:Nat)∧(jE C h a b).2.s.A[j]?=some true∧y.cls=classI C.g (a+b+1)∧Jd ⟨0,a,b⟩=true∧ ¬classI C.g (a+b+1)=C.g.cl.length∧ ¬RchM C.g h.s.W j∧hpSlot C.tn (jE C h a b).2.s.W.T (jE C h a b).1.h=some ((j:Nat):Int):=by
 have hN:=jdX hC hI h0
 obtain⟨j0,y0,k0,n1,n2,_⟩:=hN.ex
 have hIE:=hI.mvs hC (jhi (wr:=true) hC hI (a:=a) (b:=b))
 have hr0:=hIE.rch (jax.slot (jai n1):RchM C.g _ j0)
 revert n1 hr0
 unfold jE at h0⊢
 split at h0
 ·cases h0
 ·rename_i hm
  rw[if_neg hm]
  split at h0
  ·cases h0
  ·rename_i hk
   rw[if_neg hk];dsimp only at h0⊢
   have m1:=jb3 (wr:=true) hC hI (k:=classI C.g (a+b+1))
   have hI1:=hI.mvs hC m1
   have hW:=jfT hC hI (k:=classI C.g (a+b+1))
   revert h0 hI1 hW
   generalize allocR C h (classI C.g (a+b+1))=h1
   intro h0 hI1 hW
   split at h0
   ·cases h0
   ·rename_i h2
    rw[if_neg h2]
    split at h0
    ·cases h0
    ·rename_i h3
     rw[if_neg h3];intro n1 hr0
     obtain⟨j,y,ht,g3,hy,hcl,hsz,hmay2,hlies⟩:=jcy hC hI1 (not_false' hm) hk (not_false' h2)
     have m2:HpMv C true h1 _:=jbV hC hI1 (not_false' hm) hk (not_false' h2) (not_false' h3)
     have hI2:=hI1.mv hC m2
     have hw:=jcU (n:=C.g.y (classI C.g (a+b+1))) hC hI2
     have hsl:=mint_slot (t:=j) (tn:=C.tn) (by have:=hC.tn;omega) (hI1.T1024 hC) (hI1.gens hC) (freeB_some (not_false' h3))
     have hj0:j0=j:=by
      have e1:hpSlot C.tn (jaS C (C.g.y (classI C.g (a+b+1))) {h1 with s:=mkC C.g h1.s (classI C.g (a+b+1):Nat) ⟨(classI C.g (a+b+1):Nat),a,b⟩}).s.W.T (JG C.tn h1.s.W.T)=some ((j:Nat):Int):=by
       have e2:(mkC C.g h1.s (classI C.g (a+b+1):Nat) ⟨(classI C.g (a+b+1):Nat),a,b⟩).W.T=jK h1.s.W.T (j:Nat):=by
        unfold mkC;rw [ht]
       unfold hpSlot at hsl⊢;rw[hw.nm,e2];exact hsl
      have e3:some ((j0:Nat):Int)=some ((j:Nat):Int):=n1.symm.trans e1
      have:=Option.some.inj e3
      omega
     subst hj0;rw[hy] at n2;cases n2;refine⟨j0,y0,hy,by rw[ht];dsimp only;rw [jC hy],hr0,hcl,not_false' hm,hk,fun hr=>?_,n1⟩
     have:=hI1.rch (hW.r _ hr)
     rw[g3] at this;cases this
theorem jgb {op:OpP} (h0:(hpDo C h op).1.e=0):(hpDo C h op).1.addr=(jt C {h with wk:=0} op).1.addr:=by
 grind[jt,hpDo,ja1,h1,jaQ]
theorem op_A (hC:jk C) (hI:HeI C h) {op:OpP} {sl:Int} (hs:slotT h.s.W.T (capI op.h:Nat)=some sl): ∀ t,RchM C.g h.s.W t→(hpOp C h op sl).2.s.A[t]?=some true:=by
 intro t ht
 have h0:=hI.rch ht
 have hsh: ∀ (z:CyP) (q:Int),(shdC C.g C.long z q).A=z.A:=fun z q=>by unfold shdC;split<;>rfl
 have hso: ∀ (z:CyP) (q:Int),(jM C.g C.long z q).A=z.A:=fun z q=>by
  unfold jM;split
  ·exact hsh z q
  ·rfl
 unfold hpOp
 split
 ·unfold JF
  split
  ·exact h0
  ·split
   ·exact h0
   ·split
    ·exact h0
    ·have hW:=jdH hC hI (is:=j5)
     have hI1:=hI.mvs hC (jcS (wr:=true) hC hI (is:=j5))
     have h1:=hI1.rch (hW.r _ ht)
     split
     ·exact h1
     ·show(shdC C.g C.long _ _).A[t]?=_
      rw[hsh];exact h1
 ·split
  ·unfold JZ
   split
   ·exact h0
   ·split
    ·exact h0
    ·split
     ·exact h0
     ·show(jM C.g C.long (jM C.g C.long h.s _) _).A[t]?=_
      rw[hso,hso];exact h0
  ·split
   ·exact h0
   ·split
    ·unfold jbj
     split
     ·exact h0
     ·show(shdC C.g C.long h.s _).A[t]?=_
      rw[hsh];exact h0
    ·split
     ·show(shdC C.g C.long h.s _).A[t]?=_
      rw[hsh];exact h0
     ·exact h0
theorem jkH (hC:jk C) (hI:HeI C h) {op:OpP} (h0:(hpDo C h op).1.e=0): ∃ (j:Nat) (y:jg),C.g.L[j]?=some y∧(hpDo C h op).1.addr=(y.addr:Nat)∧(hpDo C h op).2.s.A[j]?=some true∧(op.c=1→y.cls=classI C.g (op.a+op.b+1)∧Jd ⟨0,op.a,op.b⟩=true∧ ¬classI C.g (op.a+op.b+1)=C.g.cl.length∧ ¬RchM C.g h.s.W j):=by
 have h1:(jt C {h with wk:=0} op).1.e=0:=by rw[←jaQ];exact h0
 rw[jgb h0]
 show ∃ (j:Nat) (y:jg),_∧_∧(jt C {h with wk:=0} op).2.s.A[j]?=some true∧_
 by_cases hc:op.c=1
 ·have e:jt C {h with wk:=0} op=jE C {h with wk:=0} op.a op.b:=by
   unfold jt;rw [if_neg (by omega),if_pos hc]
  rw[e] at h1⊢
  obtain⟨j,y,a1,a2,a3,a4,a5,a6,a7,_⟩:=jfg hC hI.wk0 h1
  exact⟨j,y,a1,a2,a3,fun _=>⟨a4,a5,a6,a7⟩⟩
 ·unfold jt at h1⊢
  split at h1
  ·cases h1
  ·rename_i h2
   rw[if_neg h2,if_neg hc] at*
   cases hs:hpSlot C.tn h.s.W.T op.h with
   |none=>rw [hs] at h1;cases h1
   |some sl=>
    obtain⟨j,rfl,hj⟩:=jaT (J8 hI.ok.w (jai hs))
    obtain⟨y,hy⟩:=jY hj
    refine⟨j,y,hy,?_,?_,fun e=>absurd e hc⟩
    ·show((ju C.g (j:Nat)).addr:Nat)=((y.addr:Nat):Int)
     rw[jC hy]
    ·exact op_A (h:={h with wk:=0}) hC hI.wk0 (jai hs) j (jax.slot (jai hs))
end
open Go.RowKit
set_option maxRecDepth 100000
section
variable {w0 : World} {F : jb} {D : HpD} {y : CyM} {h : HpP} {nf nk : Nat}
theorem cLen_K {g:PlG} {long:Nat} {s:CyP} (h:CpR g long y s):Call Tryz.prog w0 28 [.pointer (some ⟨y.T.b,0,none⟩)] (cycH y++F) (fun r H'=>r= .int .i64 (s.W.T.length:Nat)∧H'=cycH y++F):=by
 have hc:=Call.ro (w0:=w0) (A:=jy y.T) (H:=cycH y++F) (fun F=>jeS (F:=F) h.p.tb) (by rw[cycH_app];exact ja)
 rw[h.p.eT] at hc;exact hc
theorem hyLen_K (h1:HpR D nf nk y h):Call Tryz.prog w0 28 [.pointer (some ⟨D.Tb,0,none⟩)] (hpH D y h++F) (fun r H'=>r= .int .i64 (h.s.W.T.length:Nat)∧H'=hpH D y h++F):=
 h1.lift0 fun A=>by have:=cLen_K (w0:=w0) (F:=A) h1.p;rw [h1.T] at this;exact this
variable {c : Cfg} {vc vt v : Value} {l : List jU}
end
set_option maxRecDepth 10000
def LKx (g:PlG) (k d:Nat):List jg:=cutL g.n g.sl k++(List.range d).map (g.sl k)
def fstP (g:PlG) (k j:Nat):Nat:=g.first k+j*g.per k
def mnyP (g:PlG) (k j:Nat):Nat:=min (g.per k) (g.n k-j*g.per k)
def FKx (g:PlG) (k j:Nat):List Int:=(cutL g.pgs (fstP g) k++(List.range j).map (fstP g k)).map fun n=>((n:Nat):Int)
def MKx (g:PlG) (k j:Nat):List Int:=(cutL g.pgs (mnyP g) k++(List.range j).map (mnyP g k)).map fun n=>((n:Nat):Int)
section
variable {g : PlG} {k d j : Nat}
theorem jdF:(LKx g k d).length=g.first k+d:=by simp[LKx,jbR];rfl
theorem je1:(FKx g k j).length=g.page k+j:=by simp[FKx,jbR];rfl
theorem je0:(MKx g k j).length=g.page k+j:=by simp[MKx,jbR];rfl
theorem jhV:LKx g k d++ [g.sl k d]=LKx g k (d+1):=by simp[LKx,List.range_succ]
theorem jhW:FKx g k j++ [((fstP g k j:Nat):Int)]=FKx g k (j+1):=by simp[FKx,List.range_succ]
theorem jeR:MKx g k j++ [((mnyP g k j:Nat):Int)]=MKx g k (j+1):=by simp[MKx,List.range_succ]
theorem LKx_up:LKx g k (g.n k)=LKx g (k+1) 0:=by simp[LKx,cutL]
theorem FKx_up:FKx g k (g.pgs k)=FKx g (k+1) 0:=by simp[FKx,cutL]
theorem MKx_up:MKx g k (g.pgs k)=MKx g (k+1) 0:=by simp[MKx,cutL]
theorem jiv:LKx g g.m 0=g.L:=by simp[LKx,PlG.L]
theorem jiw:FKx g g.m 0=g.firsts:=by simp only[FKx,PlG.firsts,List.range_zero,List.map_nil,List.append_nil];rfl
theorem jiu:MKx g g.m 0=g.manys:=by simp only[MKx,PlG.manys,List.range_zero,List.map_nil,List.append_nil];rfl
theorem je6 (ok:jc g) (hk:k<g.m):j<g.pgs k↔j*g.per k<g.n k:=by
 have h2:=ok.per hk
 have h1:=ok.n hk
 unfold PlG.pgs
 constructor
 ·intro h
  have:=(Nat.le_div_iff_mul_le (show 0<g.per k by omega)).1 (show j+1≤_ from h)
  grind
 ·intro h;refine(Nat.le_div_iff_mul_le (show 0<g.per k by omega)).2 ?_
  grind
theorem sl_in (ok:jc g) (hk:k<g.m) {i:Nat} (hi:i<g.per k):g.sl k (j*g.per k+i)=⟨k,g.y k,(g.page k+j)*g.pg+i*g.y k,g.page k+j⟩:=by
 have h1:(j*g.per k+i)/g.per k=j:=by
  rw[Nat.mul_comm,Nat.mul_add_div (by omega),Nat.div_eq_of_lt hi];rfl
 have h2:(j*g.per k+i)%g.per k=i:=by
  rw[Nat.mul_comm,Nat.mul_add_mod,Nat.mod_eq_of_lt hi]
 grind[PlG.sl]
theorem jib (ok:jc g) (hk:k<g.m) {i:Nat}:i<g.per k↔i*g.y k+g.y k≤g.pg:=by
 have h2:=ok.y k hk
 rw[←Nat.succ_mul];exact Nat.le_div_iff_mul_le (by omega)
end
theorem g_clI {c:Cfg} {t:Int} (ga:GAt c t (gOf c t)):(gOf c t).clI=c.cl:=by
 unfold PlG.clI gOf;rw[List.map_map]
 conv=>rhs;rw [←List.map_id c.cl]
 refine List.map_congr_left fun y hy=>?_
 obtain⟨k,hk⟩:=List.getElem?_of_mem hy
 have:=ga.y k y hk
 grind
structure DnA where
 k:Nat
 oL:Own
 oF:Own
 oM:Own
structure DnC where
 i:Nat
 oL:Own
def plnHp (g:PlG) (k d j jm:Nat) (b8:Nat) (vc:Value) (oL oF oM:Own):jb:=
 (b8,cells [oV oL (LKx g k d).length,oV oF (FKx g k j).length,oV oM (MKx g k jm).length, .int .i64 (g.words:Nat),vc] 53)::(oH slE 68 (LKx g k d) oL++(oH iE 3 (FKx g k j) oF++oH iE 3 (MKx g k jm) oM))
theorem plnHp_app {g:PlG} {k d j jm b8:Nat} {vc:Value} {oL oF oM:Own} {F:jb}:plnHp g k d j jm b8 vc oL oF oM++F=(b8,cells [oV oL (LKx g k d).length,oV oF (FKx g k j).length,oV oM (MKx g k jm).length, .int .i64 (g.words:Nat),vc] 53)::(oH slE 68 (LKx g k d) oL++(oH iE 3 (FKx g k j) oF++(oH iE 3 (MKx g k jm) oM++F))):=by
 simp[plnHp]
set_option maxHeartbeats 4000000 in
theorem rpNew_K {w0:World} {F:jb} {c:Cfg} {vc vt:Value} {t:Int} (hR:Jo w0 F c vc vt) (ht:j9 c t 0=true) (hvc:vc.oneCell'=true):
  Call Tryz.prog w0 21 [jw c vc vt, .int .i64 t] F (fun r H'=> ∃ (v:PlV) (N:jb),(∀ Dc,Sli w0 Dc iE vc c.cl→jdd w0 (N++Dc) v (gOf c t))∧r= .tuple [.agg (plL v (gOf c t)).toArray, .int .i64 0].toArray∧H'=N++F):=by
 have ga:=g_at ht
 have hcl:=g_clI ga
 obtain⟨g,hg⟩: ∃ g,g=gOf c t:=⟨_,rfl⟩
 rw[←hg] at ga hcl⊢
 have hreg:=fun A (hp:Part A F)=>jfq (t:=t) (hR.part hp)
 have hsl:=fun A (k:Nat) (hp:Part A F)=>jhx (t:=t) (k:=(k:Nat)) (hR.part hp)
 rw[ga.region] at hreg
 have ok:=ga.ok
 have hm:=ok.m
 have hgm:=ga.m
 have hgy:=ga.y
 have hgs:=ga.slots
 have hgpg:=ga.page
 have hpgl:=ok.pg
 obtain⟨hS,hT',o1,o2,l1,l2⟩:=hR
 obtain⟨cl,page,tn,workers,grey,gens⟩:=c
 dsimp only at hS hT' l1 l2 hgm hgy hgpg hcl;simp only[jw,jT] at hreg hsl⊢;subst hgpg;simp only[prV] at hreg hsl;clear ga hg ht;refine Call.enter2 (n:=106) (by kernel_rfl) Tryz.func21 rfl rfl rfl ?_;refine zdX ?_;intro b2 b4;refine zu ?_;refine zb3 ?_;refine jq (hreg _ ja) ?_;refine zbA ?_;refine zaG ?_;refine zB ?_;refine zM ?_;refine zfd ?_;intro b8;refine zdH ?_;refine zcO ?_;refine zms ?_;rintro⟨k,oL,oF,oM⟩ ⟨hk,kL,kF,kM⟩;dsimp only at hk kL kF kM⊢;rw[plnHp_app]
 by_cases hlt:k<g.m
 ·obtain⟨y,hy⟩:=jA (l:=cl) (k:=k) (by omega)
  have hyk:=hgy k y hy
  subst hyk
  have hkl:k<cl.length:=by omega
  have hsl1:=fun A hp=>hsl A k hp
  rw[hgs k hlt] at hsl1;dsimp only at hsl1
  have y1:=ok.y k hlt
  have p1:=ok.per hlt
  have n1:=ok.n hlt
  have g1:=ok.pgs hlt
  have f1:=ok.first (show k+1≤g.m by omega)
  have q1:=ok.page (show k+1≤g.m by omega)
  have f2:g.first (k+1)=g.first k+g.n k:=rfl
  have q2:g.page (k+1)=g.page k+g.pgs k:=rfl
  clear hsl hgs hgy;refine zcY ?_;refine zce ?_;refine zbc ?_;refine zcG ?_;refine jq (hsl1 _ ja) ?_;refine zcw ?_;refine zb9 ?_;refine zmt ?_;rintro⟨j,oL,oF,oM⟩ ⟨hjp,kL,kF,kM⟩;dsimp only at hjp kL kF kM⊢
  by_cases hj:j<g.pgs k
  ·have hd:=(je6 ok hlt).1 hj
   have hmin:min (j*g.per k) (g.n k)=j*g.per k:=by omega
   rw[hmin] at kL⊢
   obtain⟨D,hD⟩: ∃ D,D=j*g.per k:=⟨_,rfl⟩
   have hDn':(j+1)*g.per k=D+g.per k:=by rw[Nat.succ_mul,hD]
   have hfs:FKx g k j++ [(((LKx g k D).length:Nat):Int)]=FKx g k (j+1):=by rw[jdF,hD];exact jhW
   have hmp:mnyP g k j=min (g.per k) (g.n k-D):=by unfold mnyP;rw [hD]
   have hsle: ∀ i,i<g.per k→g.sl k (D+i)=⟨k,g.y k,(g.page k+j)*g.pg+i*g.y k,g.page k+j⟩:=fun i hi=>by rw[hD];exact sl_in ok hlt hi
   have hle: ∀ i,i<g.per k↔i*g.y k+g.y k≤g.pg:=fun i=>jib ok hlt
   rw[←hD] at kL hd⊢
   have hfl:=je1 (g:=g) (k:=k) (j:=j)
   have hfl1:=je1 (g:=g) (k:=k) (j:=j+1)
   have hml:=je0 (g:=g) (k:=k) (j:=j)
   have hml1:=je0 (g:=g) (k:=k) (j:=j+1)
   have hbF:(FKx g k (j+1)).length≤4294967296:=by omega
   have hbM:(MKx g k (j+1)).length≤4294967296:=by omega
   have hgt0:((g.n k-D:Nat):Int)>0:=by omega
   have hPw:(g.page k+j)*g.pg≤g.words:=Nat.mul_le_mul_right _ (by have:=jbD (n:=g.pgs) hlt;unfold PlG.pages;unfold PlG.page at*;omega)
   have hww:=ok.words
   clear hD;rw[plnHp_app];refine zaA ?_;refine zbs ?_;refine ziT ?_;refine zF ?_;refine zbW ?_;refine zaW ?_;refine zdJ ?_;refine zc7 ?_;refine zbo ?_;refine zfR ?_;refine zbo ?_;refine zjO ?_;refine zaj ?_;intro b52;refine KL.e rfl (Eff.appZ (E:=iE) (xs:=FKx g k j) (o:=oF) (ys:=[(((LKx g k D).length:Nat):Int)]) (zs:=FKx g k (j+1)) rfl rfl rfl rfl rfl rfl jn (by assumption) (Sli.blk jF rfl (by simp) (by decide) rfl) hfs hbF rfl) ?_;rintro _ _ ⟨o6,ok6,rfl,rfl⟩;refine zc7 ?_;refine zfW ?_;refine zW ?_;refine zcn ?_;refine zmu ?_;rintro⟨i,oL2⟩ ⟨hDi,hip,kL2⟩;dsimp only at hDi hip kL2⊢;rw[plnHp_app]
   have hlei:=hle i
   have hLl:=jdF (g:=g) (k:=k) (d:=D+i)
   have hiy:i*g.y k≤64:=by
    have h1:i*g.y k≤g.per k*g.y k:=Nat.mul_le_mul_right _ hip
    have h2:g.per k*g.y k≤g.pg:=Nat.div_mul_le_self _ _
    omega
   have hLl1:=jdF (g:=g) (k:=k) (d:=D+(i+1))
   by_cases h1:D+i<g.n k
   ·have hg1:((g.n k-(D+i):Nat):Int)>0:=by omega
    by_cases h2:i<g.per k
    ·have hle2:((i*g.y k:Nat):Int)+((g.y k:Nat):Int)≤((g.pg:Nat):Int):=by have:=hlei.1 h2;omega
     have hx:=hsle i h2
     have hbL:(LKx g k (D+(i+1))).length≤4294967296:=by omega
     have hq1:(((FKx g k j).length:Nat):Int)*((g.pg:Nat):Int)=(((g.page k+j)*g.pg:Nat):Int):=by rw[hfl];simp
     have hq2:(((g.page k+j)*g.pg:Nat):Int)+((i*g.y k:Nat):Int)=(((g.sl k (D+i)).addr:Nat):Int):=by rw[hx];simp
     have hq3:(((FKx g k j).length:Nat):Int)=(((g.sl k (D+i)).page:Nat):Int):=by rw[hx,hfl]
     have hq4:((g.y k:Nat):Int)=(((g.sl k (D+i)).size:Nat):Int):=by rw[hx]
     have hq5:((k:Nat):Int)=(((g.sl k (D+i)).cls:Nat):Int):=by rw[hx]
     obtain⟨PP,hPP⟩: ∃ PP,PP=(g.page k+j)*g.pg:=⟨_,rfl⟩
     rw[←hPP] at hq1 hq2 hPw
     have hsn:LKx g k (D+i)++ [g.sl k (D+i)]=LKx g k (D+(i+1)):=jhV
     refine zdR ?_;refine zhq ?_;refine zj ?_;refine zjP ?_;refine zf8 ?_;refine ziy ?_;refine zbt ?_;refine zdn ?_;refine zen ?_;refine zgw ?_;refine zao ?_;refine zke ?_;refine zcB ?_;refine KE.next (K.condT rfl (K.skip (KE.next (K.seq (K.block ?_)))));refine zar ?_;refine zmv ?_;refine zcU ?_;refine zj ?_;refine zfa ?_;refine zeJ ?_;refine ziP ?_;refine zeJ ?_;refine zhe ?_;refine zS ?_;refine zhr ?_;refine zj ?_;refine zgx ?_;refine zj ?_;refine zhJ ?_;refine zh3 ?_;intro b92;refine zbQ ?_
     -- STOP at region 16 op 17: {"h": "Op.call", "a": [{"callee": {"h": "Callee.builtin", "a": ["Builtin.append"]}, "args": [{"h": "Operand.tmp", "a": [77]}, {"h": "Operand.tmp", "a": [92]}], "argTypes": [51, 51]}]}
     rw[hq1,hq2,hq3];refine KD.e rfl rfl (Eff.appZ (E:=slE) (xs:=LKx g k (D+i)) (o:=oL2) (ys:=[g.sl k (D+i)]) (zs:=LKx g k (D+(i+1))) rfl rfl rfl rfl rfl rfl jn (by assumption) (by first|exact Sli.blk jF rfl (by first|decide|simp) (by first|decide|(unfold maxLen;omega)) rfl|exact Sli.old (by assumption)|exact Sli.own jn (by assumption) j6|assumption|exact Sli.part (by assumption) ja) (hsn) (by first|assumption|omega|(simp<;>fail)|(simp;omega)) rfl) ?_;rintro _ _ ⟨o',ok',rfl,rfl⟩;refine⟨ja,?_⟩;refine zfa ?_;refine zjg ?_;refine zD ?_;rw[←hq3]
     have he1:((i*g.y k:Nat):Int)+((g.y k:Nat):Int)=(((i+1)*g.y k:Nat):Int):=by rw[Nat.succ_mul];omega
     have he2:((g.n k-(D+i):Nat):Int)-1=((g.n k-(D+(i+1)):Nat):Int):=by omega
     clear hq1 hq2 hq3 hq4 hq5 hx hsn;refine zaf ?_;refine ze ?_;refine zdO ?_;refine zk ?_;refine za0 ?_;refine zdY ?_;refine zbL ?_;refine ze ?_;refine zB ?_;refine zcP ?_;refine z8 ?_;refine zbT ?_;refine zbY ?_;rw[he1,he2];exact zmw
    ·have hgt2: ¬((i*g.y k:Nat):Int)+((g.y k:Nat):Int)≤((g.pg:Nat):Int):=by have:=mt hlei.2 h2;omega
     have hie:i=g.per k:=by omega
     have hDn:min ((j+1)*g.per k) (g.n k)=D+i:=by rw[hDn'];omega
     have hmn:MKx g k j++ [((i:Nat):Int)]=MKx g k (j+1):=by rw[←jeR,hmp,show min (g.per k) (g.n k-D)=i by omega]
     ·skip
      refine zdR ?_;refine zhq ?_;refine zj ?_;refine zjP ?_;refine zf8 ?_;refine ziy ?_;refine zbt ?_;refine zdn ?_;refine zen ?_;refine zgw ?_;refine zao ?_;refine zkf ?_;refine zcB ?_;refine ziE ?_;refine zgT ?_;refine zex ?_;refine zbo ?_;refine ze ?_;refine zaj ?_;intro b102;refine KL.e rfl (Eff.appZ (E:=iE) (xs:=MKx g k j) (o:=oM) (ys:=[((i:Nat):Int)]) (zs:=MKx g k (j+1)) rfl rfl rfl rfl rfl rfl jn (by assumption) (by first|exact Sli.blk jF rfl (by first|decide|simp) (by first|decide|(unfold maxLen;omega)) rfl|exact Sli.old (by assumption)|exact Sli.own jn (by assumption) j6|assumption|exact Sli.part (by assumption) ja) (hmn) (by first|assumption|omega|(simp<;>fail)|(simp;omega)) rfl) ?_;rintro _ _ ⟨o',ok',rfl,rfl⟩;refine zex ?_;refine zfW ?_;refine zdm ?_;exact zjQ
   ·have hg1: ¬((g.n k-(D+i):Nat):Int)>0:=by omega
    have hDn:min ((j+1)*g.per k) (g.n k)=D+i:=by rw[hDn'];omega
    have hmn:MKx g k j++ [((i:Nat):Int)]=MKx g k (j+1):=by rw[←jeR,hmp,show min (g.per k) (g.n k-D)=i by omega]
    ·skip
     ·skip
      refine zdR ?_;refine zhq ?_;refine zj ?_;refine KD.v0 rfl rfl (Val.isF (Val.gtr rfl rfl) jL) ?_;refine zcT ?_;refine zfg ?_;refine zhs ?_;refine zaB ?_;refine ziE ?_;refine zgT ?_;refine zex ?_;refine zbo ?_;refine ze ?_;refine zaj ?_;intro b102;refine KL.e rfl (Eff.appZ (E:=iE) (xs:=MKx g k j) (o:=oM) (ys:=[((i:Nat):Int)]) (zs:=MKx g k (j+1)) rfl rfl rfl rfl rfl rfl jn (by assumption) (by first|exact Sli.blk jF rfl (by first|decide|simp) (by first|decide|(unfold maxLen;omega)) rfl|exact Sli.old (by assumption)|exact Sli.own jn (by assumption) j6|assumption|exact Sli.part (by assumption) ja) (hmn) (by first|assumption|omega|(simp<;>fail)|(simp;omega)) rfl) ?_;rintro _ _ ⟨o',ok',rfl,rfl⟩;refine zex ?_;refine zfW ?_;refine zdm ?_;exact zjQ
  ·have hje:j=g.pgs k:=by omega
   have hnle:g.n k≤j*g.per k:=by have:=mt (je6 ok hlt).2 hj;omega
   have hmin:min (j*g.per k) (g.n k)=g.n k:=by omega
   rw[hmin] at kL⊢;subst hje;rw[plnHp_app];rw[LKx_up] at kL⊢;rw[FKx_up] at kF⊢;rw[MKx_up] at kM⊢
   have hgt0: ¬((g.n k-g.n k:Nat):Int)>0:=by omega
   refine zaA ?_;refine zcq ?_;refine zcf ?_;refine zcg ?_;exact zmx
 ·have hke:k=g.m:=by omega
  subst hke;rw[jiv] at kL⊢;rw[jiw] at kF⊢;rw[jiu] at kM⊢;refine zcY ?_;refine zcV ?_;refine z3 ?_;refine zbb ?_;refine zf ?_;refine KE.fin (H':=(oH slE 68 g.L oL++(oH iE 3 g.firsts oF++oH iE 3 g.manys oM))++F) je rfl jd (by simp only[List.append_assoc];exact ja) ⟨⟨oV oL g.L.length,oV oF g.firsts.length,oV oM g.manys.length,vc⟩,_,fun Dc hC=>⟨Sli.own (by simp only[List.append_assoc];exact jn) kL rfl,Sli.own (by simp only[List.append_assoc];exact jn) kF rfl,Sli.own (by simp only[List.append_assoc];exact jn) kM rfl,by rw[hcl];exact hC.part (by simp only[List.append_assoc];exact ja),jc4 _ _,jc4 _ _,jc4 _ _,hvc⟩,rfl,rfl⟩
open Go.RowKit
set_option maxRecDepth 10000
section
variable {w0 : World} {F : jb} {D : HpD} {y : CyM} {h : HpP} {nf nk : Nat}
theorem jii {t:Nat} (h1:HpR D nf nk y h):Call Tryz.prog w0 24 [.pointer (some ⟨D.ab,0,none⟩), .int .i64 (t:Nat)] (hpH D y h++F) (fun r H'=>r= .bool ((h.s.A[t]?).getD false)∧H'=hpH D y h++F):=
 h1.lift0 fun A=>by have:=jfb (w0:=w0) (F:=A) (t:=t) h1.p;rw [h1.a] at this;exact this
end
set_option maxRecDepth 100000
structure HzS where
 i:Nat
 f:Nat
 y:CyM
 h:HpP
 T:List Int
 oT:Own
set_option maxRecDepth 10000
theorem jit {g:PlG} (ok:jc g) {j k:Nat} {y z:jg} (hy:g.L[j]?=some y) (hz:g.L[k]?=some z) (h:j≠k):y.addr≠z.addr:=fun e=>by
 have h1:=ok.apart hy hz h
 have h2:=(ok.fits hy).2.1
 have h3:=(ok.fits hz).2.1
 omega
theorem used_name {l:List jg} {N:List Bool} {j:Nat} {p:jg} (hp:l[j]?=some p) (hN:N[j]?=some false):usedL l (N.set j true)=usedL l N+p.size:=by
 grind[jdn,jx]
open Go.RowKit
set_option maxRecDepth 10000
structure RaS where
 i:Nat
section
variable {w0 : World} {F : jb}
theorem rAt_K {v:PlV} {g:PlG} {j:Nat} {y:jg} (hP:jdd w0 F v g) (ok:jc g) (hy:g.L[j]?=some y):
  Call Tryz.prog w0 22 [.agg (plL v g).toArray, .int .i64 (y.addr:Nat)] F (fun r H'=>r= .tuple [.int .i64 (j:Nat), .int .i64 0].toArray∧H'=F):=by
 obtain⟨hL,_,_,_,q1,q2,q3,q4⟩:=hP
 have hLl:g.L.length=g.slots:=jbX
 have hsl:=ok.slots
 have hjl:=jx hy
 unfold plL;refine Call.enter2 (n:=23) (by kernel_rfl) Tryz.func22 rfl rfl rfl ?_;refine zcj ?_;intro b2;refine zcO ?_;refine K.loopT (σ:=RaS) [(1,_),(2,_)] (fun s kp_=>(6, .int .i64 (s.i:Nat))::kp_) (fun s=>(b2,cells [v.L,v.F,v.M, .int .i64 (g.words:Nat),v.C] 53)::F) (fun s=>s.i≤j) (fun s=>j-s.i) (⟨0⟩) jj ja (Nat.zero_le _) ?_;rintro⟨i⟩ hi;dsimp only at hi⊢
 have hil:i<g.L.length:=by omega
 have hil':((i:Nat):Int)<((g.L.length:Nat):Int):=by omega
 by_cases hc:i=j
 ·subst hc;refine zcY ?_;refine zce ?_;refine zbc ?_;refine zB ?_;refine zcP ?_;refine zgA ?_;refine z8 ?_;refine ze ?_;refine zJ ?_;refine zgP ?_;refine zfj ?_;exact zZ
 ·obtain⟨z,hz⟩:=jA hil
  have hne:=jit ok hz hy hc
  have hne': ¬((z.addr:Nat):Int)=((y.addr:Nat):Int):=by omega
  refine zcY ?_;refine zce ?_;refine zbc ?_;refine zB ?_;refine zcP ?_;refine zgA ?_;refine z8 ?_;refine ze ?_;refine zG ?_;refine zeD ?_;exact KE.again ⟨i+1⟩ jj ja (by show i+1≤j;omega) (by show j-(i+1)<j-i;omega)
theorem jkD {n:Int}: ∀ {l:List Int} {i:Nat} {x:Int},i<firstP n l→l[i]?=some x→ ¬n≤x
 | [],_,_,h,_=>absurd h (Nat.not_lt_zero _)
 |y::l,0,x,h,e=>by
  cases e
  unfold firstP at h
  split at h
  ·omega
  ·assumption
 |y::l,i+1,x,h,e=>by
  unfold firstP at h
  split at h
  ·omega
  ·exact jkD (n:=n) (l:=l) (i:=i) (by omega) (by simpa using e)
theorem jjJ {n:Int}: ∀ {l:List Int} {x:Int},l[firstP n l]?=some x→n≤x
 | [],x,e=>by simp at e
 |y::l,x,e=>by
  unfold firstP at e
  split at e
  ·cases e;assumption
  ·exact jjJ (by simpa using e)
theorem firstP_le {n:Int}: ∀ {l:List Int},firstP n l≤l.length
 | []=>Nat.le_refl _
 |y::l=>by
  unfold firstP
  split
  ·exact Nat.zero_le _
  ·have:=firstP_le (n:=n) (l:=l)
   simp only[List.length_cons];omega
theorem rOf_K {v:Value} {l:List Int} {n:Int} {k:Nat} (hS:Sli w0 F iE v l) (hl:l.length≤140737488355328) (hc:Jq l=true) (hn:1≤n) (hk:firstP n l=k) (hkl:k<l.length):
  Call Tryz.prog w0 26 [v, .int .i64 n] F (fun r H'=>r= .tuple [.int .i64 (k:Nat), .int .i64 0].toArray∧H'=F):=by
 have hn0:n>0:=by omega
 obtain⟨x,hx⟩:=jA hkl
 have hyes:n≤x:=jjJ (by rw[hk];exact hx)
 have hno: ∀ (i:Nat) (z:Int),i<k→l[i]?=some z→ ¬n≤z:=fun i z h1 h2=>jkD (by rw[hk];exact h1) h2
 refine Call.enter2 (n:=27) (by kernel_rfl) Tryz.func26 rfl rfl rfl ?_;refine zeY ?_;refine zdH ?_;refine zx fun T hT=>?_;refine(CallV.fn (jhy hS hl)).mono ?_;rw[hc];rintro _ _ ⟨rfl,hH⟩
 obtain rfl:=hH.symm
 unfold jbe;simp only[if_true];refine zd ?_;clear hT T;refine zaE ?_;refine z9 ?_;refine zcO ?_;refine K.loopT (σ:=RaS) [(0,_),(1,_)] (fun s kp_=>(6, .int .i64 (s.i:Nat))::kp_) (fun s=>F) (fun s=>s.i≤k) (fun s=>k-s.i) (⟨0⟩) jj ja (Nat.zero_le _) ?_;rintro⟨i⟩ hi;dsimp only at hi⊢
 have hil:i<l.length:=by omega
 have hil':((i:Nat):Int)<((l.length:Nat):Int):=by omega
 by_cases hc:i=k
 ·subst hc;refine zla ?_;refine zbs ?_;refine zw ?_;refine zbc ?_;refine zeG ?_;refine z8 ?_;refine zam ?_;refine zgP ?_;refine zfj ?_;exact zZ
 ·obtain⟨z,hz⟩:=jA hil
  have hne:=hno i z (by omega) hz
  refine zla ?_;refine zbs ?_;refine zw ?_;refine zbc ?_;refine zeG ?_;refine z8 ?_;refine zcr ?_;refine zeD ?_;exact KE.again ⟨i+1⟩ jj ja (by show i+1≤k;omega) (by show k-(i+1)<k-i;omega)
end
set_option maxRecDepth 10000
section
variable {w0 : World} {F : jb} {D : HpD} {y : CyM} {h : HpP} {nf nk n : Nat} {z : jg}
theorem hySlot_K {i:Nat} (h1:HpR D nf nk y h):Call Tryz.prog w0 29 [.pointer (some ⟨D.Tb,0,none⟩), .int .i64 (i:Nat)] (hpH D y h++F) (fun r H'=>r= .tuple [.int .i64 ((slotT h.s.W.T (i:Nat)).getD 0), .bool (slotT h.s.W.T (i:Nat)).isSome].toArray∧H'=hpH D y h++F):=
 h1.lift0 fun A=>by have:=cSlot_K (w0:=w0) (F:=A) (i:=i) h1.p;rw [h1.T] at this;exact this
end
end Go.Proofs.YtpcgafhgfjlkmaaGreatDoor.Sw
