/-What the law needs of its own,part 1. -/
import Derived.Test.YtpcgafhgfjlkmaaGreatDoorD1
import Derived.WalkKit
import Derived.ProofKit
import Derived.RangeFuncNested
import Derived.RangeFuncBound
import Derived.RangeFuncCalls
import Derived.RangeFuncLeaves
import Derived.Lib.Hide
import Derived.Sort.BigQuietIn
import Derived.Deep.Quiet
import Derived.StillTailTactics
import Derived.Deep.LoopGhost
import Derived.Laws.Cells
import Derived.OrdersIn
import Derived.Deep.OwnRows
import Derived.Laws.CopyOwn
import Derived.IntWalk
import Derived.ArgAppend
import Derived.Deep.Slices
import Derived.Deep.Fields
import Derived.Laws.IdiomStrings
import Derived.Laws.StructEq
import Derived.Maps.RangeRun
import Derived.Laws.Externs
import Derived.Laws.FloatArith
import Derived.Laws.NewFold
import Derived.RecoverIn
import Derived.Shelf.Strconv.Itoa0
import Derived.Shelf.Bits.Mul64
import Derived.Shelf.Slices.Turned
import Derived.Test.YtpcgafhgfjlkmaaGreatDoorProg
import Derived.SizedLaws
import Derived.Lib.SmallJoins
import Derived.ChangeMaps5
import Derived.Lib.TrailingZeros
import Derived.Lib.BitFns
import Derived.Shelf.Spec.TrailingZeros
import Derived.Test.YtpcgafhgfjlkmaaGreatDoorRows
import Derived.OpenShut
import Derived.LaidMore
import Derived.Lay
import Derived.LaidHandle
import Derived.Test.YtpcgafhgfjlkmaaGreatDoorJ39
set_option linter.unusedVariables false set_option linter.unusedSimpArgs false namespace Go.Proofs.YtpcgafhgfjlkmaaGreatDoor
set_option maxHeartbeats 8000000
open Go.RowKit Go.ChangeShapes Go.WideShapes Go.ChangeAt Go.Deep
variable {P : Program}
theorem slice_sl {α:Type} {E:Enc α} {H:Type} {enc:TypeId × Value→H} {W:World} {base:Nat} {t e:TypeId} (ht:P.underlying t=some (.slice e)) (hk:P.cellsOf e=E.sz) (hk0:0<E.sz) {v:Value} {d:DataW H} {p:List MemPlace}
  (ho:Value.okWide P W .any base t v) (h:DataW.Trod enc P W 0 (fun _=>true) true t v d p) (Ok:α→Prop)
  (hR: ∀ fuel cs x,DataW.trod enc P W 0 (fun _=>true) true fuel e cs=some x→cs.length=E.sz→ ∃ y,cs=E.enc y∧Ok y):
  ∃ ys:List α,SlW W E v ys∧ ∀ y∈ys,Ok y:=by
 obtain⟨a,len,cap,rfl⟩:=okWide_slice ht ho
 obtain⟨fuel,hf⟩:=h
 rcases open_slice ht hf with⟨hcs,_⟩|⟨a',len',cap',m,n,D,Pl,hcs,_,hl,hm,hmm,_,hx⟩
 ·simp[Value.cells] at hcs
  obtain⟨rfl,rfl,rfl⟩:=hcs
  exact⟨[],SlW.nil W E,fun y hy=>by cases hy⟩
 ·simp[Value.cells] at hcs
  obtain⟨rfl,rfl,rfl⟩:=hcs
  simp only[if_true] at hmm;subst hmm
  have key: ∀ i,i<len→ ∃ y,Ok y∧ ∀ j,j<E.sz→W.cell? (a'.add (i*E.sz+j))=(E.enc y)[j]? :=by
   intro i hi
   obtain⟨cs',h1,h2⟩:=hx i (by omega)
   rw[hk] at h1
   obtain⟨_,hlen,hat⟩:=World.cells?_some h1
   obtain⟨y,rfl,hy⟩:=hR _ _ _ h2 hlen
   exact zkP
  obtain⟨ys,hys,hall⟩:=jgC len (fun i y=>Ok y∧ ∀ j,j<E.sz→W.cell? (a'.add (i*E.sz+j))=(E.enc y)[j]?) key
  subst hys
  have hspot:0<ys.length→ ∃ b off,a'=⟨b,off,none⟩:=by
   intro hpos
   obtain⟨b,off,spot⟩:=a'
   obtain⟨y0,_,hc0⟩:=key 0 hpos
   have h1:=hc0 0 hk0
   rw[List.getElem?_eq_getElem (by rw[E.len];exact hk0)] at h1
   have hsp:spot=none:=by simpa [Addr.add] using World.cell?_spot h1
   subst hsp;exact⟨b,off,rfl⟩
  refine⟨ys,⟨⟨some a',m,rfl,hl,hm,fun hne=>?_⟩,?_⟩,?_⟩
  ·obtain⟨b,off,rfl⟩:=hspot (List.length_pos_iff.2 hne)
   exact⟨b,off,rfl⟩
  ·intro i y hy j u hu
   have hi:=(List.getElem?_eq_some_iff.1 hy).1
   obtain⟨b,off,rfl⟩:=hspot (by omega)
   have hj:j<E.sz:=by have:=(List.getElem?_eq_some_iff.1 hu).1;rwa[E.len] at this
   have:=(hall i y hy).2 j hj
   rw[jbb,hu] at this
   simpa [adr] using this
  ·intro y hy
   obtain⟨i,hi⟩:=List.getElem?_of_mem hy
   exact(hall i y hi).1
open Go.RowKit Go.ChangeShapes Go.WideShapes Go.ChangeAt Go.Deep Go.Joins
set_option linter.unusedVariables false
set_option maxRecDepth 100000
def jaJ (z:Int):Prop:=0≤z∧z≤18446744073709551615
def u8ok (z:Int):Prop:=0≤z∧z≤255
theorem jbF {z:Int} (h:(Lit.int .u64 z).wf=true):jaJ z:=by simpa [Lit.wf,IntKind.min,IntKind.max,IntKind.signed,IntKind.bits,jaJ] using h
theorem wf_u8 {z:Int} (h:(Lit.int .u8 z).wf=true):u8ok z:=by simpa [Lit.wf,IntKind.min,IntKind.max,IntKind.signed,IntKind.bits,u8ok] using h
end Go.Proofs.YtpcgafhgfjlkmaaGreatDoor
set_option linter.unusedSimpArgs false
namespace Go.Proofs.YtpcgafhgfjlkmaaGreatDoor.Sw
open Go.Proofs.YtpcgafhgfjlkmaaGreatDoor renaming lo → qL, hi → qH
open Go.RowKit
set_option maxRecDepth 10000
section
variable {C : HpC} {wr : Bool} {h h' : HpP} {s s' : CyP} {n : Nat}
theorem pinP_top {N:List Int} {t:Nat} (h: ¬(N[t]?).getD 0<255):JA N t=N:=by grind[JA]
theorem does_no (hC:jk C) (hI:HeI C h) {op:OpP}:(jt C h op).1.e=0∨(jt C h op).1.e=100∨(jt C h op).1.e=131∨(jt C h op).2=h:=by
 unfold jt
 split
 ·exact zgI
 ·split
  ·unfold jE
   split
   ·exact zgI
   ·split
    ·exact zgI
    ·dsimp only
     split
     ·exact .inr (.inl rfl)
     ·split
      ·exact .inr (.inr (.inl rfl))
      ·exact .inl rfl
  ·cases hs:hpSlot C.tn h.s.W.T op.h with
   |none=>exact .inr (.inr (.inr rfl))
   |some sl=>
    dsimp only;unfold hpOp
    split
    ·unfold JF
     split
     ·exact zgI
     ·split
      ·exact .inl rfl
      ·split
       ·exact .inl rfl
       ·split
        ·exact .inr (.inr (.inl rfl))
        ·exact .inl rfl
    ·split
     ·unfold JZ
      split
      ·exact zgI
      ·rename_i h1
       split
       ·rename_i h2
        left
        have hf:=(jcJ (Classical.byContradiction h1)).1
        rw[h2] at hf
        show(Jk _ _ _ _).1=0
        unfold Jk;rw[if_pos hf]
       ·split
        ·exact zgI
        ·exact .inl rfl
     ·split
      ·unfold jc6
       by_cases hN:(h.s.W.N[sl.toNat]?).getD 0<255
       ·left;show(if _ then _ else _)=_;rw [if_pos hN]
       ·right;right;right
        show HpP.mk {h.s with W:={h.s.W with N:=JA h.s.W.N sl.toNat}} h.p h.wk=h
        rw[pinP_top hN]
      ·split
       ·unfold jbj
        split
        ·exact zgI
        ·exact .inl rfl
       ·split
        ·exact .inl rfl
        ·exact .inl rfl
theorem jaQ {op:OpP}:(hpDo C h op).1.e=(jt C {h with wk:=0} op).1.e:=by
 unfold hpDo ja1
 split<;>rfl
theorem do_no (hC:jk C) (hI:HeI C h) {op:OpP} (h0:(hpDo C h op).1.e≠0) (h1:(hpDo C h op).1.e≠100) (h2:(hpDo C h op).1.e≠131):
  (hpDo C h op).2={h with wk:=0}∧(hpDo C h op).1.h=0∧(hpDo C h op).1.w=0∧(hpDo C h op).1.addr=0:=by
 rw[jaQ] at h0 h1 h2
 rcases does_no hC hI.wk0 (op:=op) with e|e|e|e
 ·omega
 ·omega
 ·omega
 ·refine⟨e,?_⟩;unfold hpDo ja1;rw[if_neg h0];exact⟨rfl,rfl,rfl⟩
end
set_option maxRecDepth 10000
section
variable {w0 : World} {F : jb} {t : TbM}
theorem jgE (ok:TbOk t):Call Tryz.prog w0 64 [.pointer (some ⟨t.b,0,none⟩), .int .i64 1] (jy t++F) (fun r H'=>r= .int .i64 (cntP 1 t.l:Nat)∧H'=jy t++F):=by
 refine Call.enter2 (n:=13) (by rfl) Tryz.func64 rfl rfl rfl ?_;refine zY ?_;refine zcL ?_;refine zhE ?_;refine zbn ?_;refine ze1 ?_;refine zcQ ?_;exact zaK
theorem jhk (ok:TbOk t):Call Tryz.prog w0 32 [.pointer (some ⟨t.b,0,none⟩)] (jy t++F) (fun r H'=>r= .int .i64 (cntP 1 t.l:Nat)∧H'=jy t++F):=by
 refine Call.enter1 (n:=5) (by rfl) Tryz.func32 rfl rfl rfl ?_;refine zbB ?_;refine ji (jgE ok) ja ?_;refine zf ?_;exact zaK
end
open Go.RowKit
set_option maxRecDepth 10000
section
variable {w0 : World} {F : jb} {y : CyM} {s : CyP} {g : PlG} {long : Nat}
theorem cAll_K (h:CpR g long y s):Call Tryz.prog w0 20 [.pointer (some ⟨y.B.m.b,0,none⟩)] (cycH y++F)
  (fun r H'=> ∃ o,oOk uE y.B.m.R.flatten o∧r=oV o y.B.m.R.flatten.length∧H'=oH uE 33 y.B.m.R.flatten o++(cycH y++F)):=by
 refine Call.at_ (All_K h.p.bo.m) (by simp only[cycH_app];exact ja) ?_;rintro _ _ ⟨o,ko,rfl,rfl⟩;exact zkR
end
set_option maxRecDepth 10000
section
variable {w0 : World} {D : HpD} {nf nk n : Nat} {y y' : CyM} {h : HpP} {s s' : CyP} {F G : jb} {op : OpP} {z : jg}
theorem jkz:Call Tryz.prog w0 34 [.pointer (some ⟨D.b,0,none⟩)] (hpH D y h++F) (fun r H'=>r= .int .i64 (h.wk:Nat)∧H'=hpH D y h++F):=by
 have hnone:=fun A=>jb5 (w0:=w0) (D:=D) (y:=y) (h:=h) (F:=A)
 refine zkS ?_;refine zfN ?_;refine zaL ?_;exact zfM
theorem jbC:Call Tryz.prog w0 17 [.pointer (some ⟨D.b,0,none⟩)] (hpH D y h++F) (fun r H'=>r= .pointer (some ⟨D.yb,0,none⟩)∧H'=hpH D y h++F):=by
 have hnone:=fun A=>jb5 (w0:=w0) (D:=D) (y:=y) (h:=h) (F:=A)
 refine zfX ?_;refine zfN ?_;refine za2 ?_;exact zfM
end
set_option maxRecDepth 10000
theorem jdy {T:List Int} {i:Int} {d:Nat} (h: ¬(0≤i∧0<T.length)):pickT T i d=d:=if_neg h
section
variable {w0 : World} {F : jb} {x : jU} {T : List Int} {v : Value}
set_option maxHeartbeats 1000000 in
theorem op_K (hx:J7 x) (hS:Sli w0 F uE v T) (hT:u64s T):Call Tryz.prog w0 15 [.agg (acL x).toArray,v] F (fun r H'=>r=opV (opA x T)∧H'=F):=by
 obtain⟨⟨c,h,a,b,vv⟩,H,V,wk,k,u⟩:=x
 unfold acL opV opA;dsimp only
 by_cases hl:0<T.length
 ·have hl0:((T.length:Nat):Int)>0:=by omega
  have hl1: ¬((T.length:Nat):Int)=0:=by omega
  by_cases hH:0≤H
  ·have hH':H≥0:=hH
   obtain⟨i,e,i1,i2,i3,i4⟩:=pick_at hT hH hl h
   have i3':T[((i:Nat):Int).toNat]?=some ((e:Nat):Int):=i3
   rw[i4]
   by_cases hV:0≤V
   ·have hV':V≥0:=hV
    obtain⟨j,f,j1q,j2,j3q,j4q⟩:=pick_at hT hV hl vv
    have j3':T[((j:Nat):Int).toNat]?=some ((f:Nat):Int):=j3q
    rw[j4q];refine Call.enter2 (n:=43) (by kernel_rfl) Tryz.func15 rfl rfl rfl ?_;refine zit ?_;intro b2 b4;refine zaZ ?_;refine z3 ?_;refine zfd ?_;intro b5;refine zdH ?_;refine zca ?_;refine zp ?_;refine zaz ?_;refine zA ?_;refine zcx ?_;refine zbs ?_;refine zw ?_;refine zcI ?_;refine zdC ?_
    (first|(refine KL.v rfl (Val.fieldSl (k:=5) rfl rfl) ?_)|(refine KL.v rfl (Val.fieldAddr0 (k:=5) rfl rfl) ?_)|(refine KL.v rfl (Val.fieldAddrZ rfl rfl) ?_)|(refine KL.v rfl (Val.fieldAddr (k:=5) rfl rfl) ?_))
    refine zbo ?_;refine ze ?_;refine zjO ?_
    (first|(refine KL.v rfl (Val.remN rfl rfl (by omega)) ?_)|(refine KL.v rfl (Val.rem rfl rfl (by omega)) ?_))
    rw[i1];refine zk1 ?_;refine zbo ?_;refine zc7 ?_;refine zfW ?_;refine zdH ?_;refine zbI ?_;refine zp ?_;refine zaz ?_;refine zA ?_;refine zcx ?_;refine zbs ?_;refine zw ?_;refine zcI ?_;refine zdC ?_
    (first|(refine KL.v rfl (Val.fieldSl (k:=6) rfl rfl) ?_)|(refine KL.v rfl (Val.fieldAddr0 (k:=6) rfl rfl) ?_)|(refine KL.v rfl (Val.fieldAddrZ rfl rfl) ?_)|(refine KL.v rfl (Val.fieldAddr (k:=6) rfl rfl) ?_))
    refine zbo ?_;refine ze ?_;refine zjO ?_
    (first|(refine KL.v rfl (Val.remN rfl rfl (by omega)) ?_)|(refine KL.v rfl (Val.rem rfl rfl (by omega)) ?_))
    rw[j1q];refine zk1 ?_;refine zbo ?_
    (first|(refine KL.v rfl (Val.fieldSl (k:=4) rfl rfl) ?_)|(refine KL.v rfl (Val.fieldAddr0 (k:=4) rfl rfl) ?_)|(refine KL.v rfl (Val.fieldAddrZ rfl rfl) ?_)|(refine KL.v rfl (Val.fieldAddr (k:=4) rfl rfl) ?_))
    refine zfW ?_;refine zW ?_;refine zlh ?_;exact zZ
   ·have hV': ¬V≥0:=hV
    rw[jdy (i:=V) (fun q=>hV q.1)];refine Call.enter2 (n:=43) (by kernel_rfl) Tryz.func15 rfl rfl rfl ?_;refine zit ?_;intro b2 b4;refine zaZ ?_;refine z3 ?_;refine zfd ?_;intro b5;refine zdH ?_;refine zca ?_;refine zp ?_;refine zaz ?_;refine zA ?_;refine zcx ?_;refine zbs ?_;refine zw ?_;refine zcI ?_;refine zdC ?_
    (first|(refine KL.v rfl (Val.fieldSl (k:=5) rfl rfl) ?_)|(refine KL.v rfl (Val.fieldAddr0 (k:=5) rfl rfl) ?_)|(refine KL.v rfl (Val.fieldAddrZ rfl rfl) ?_)|(refine KL.v rfl (Val.fieldAddr (k:=5) rfl rfl) ?_))
    refine zbo ?_;refine ze ?_;refine zjO ?_
    (first|(refine KL.v rfl (Val.remN rfl rfl (by omega)) ?_)|(refine KL.v rfl (Val.rem rfl rfl (by omega)) ?_))
    rw[i1];refine zk1 ?_;refine zbo ?_;refine zc7 ?_;refine zfW ?_;refine zdH ?_;refine zbI ?_;refine zp ?_;refine zbO ?_;refine zax ?_;refine zz ?_;refine zlh ?_;exact zZ
  ·have hH': ¬H≥0:=hH
   rw[jdy (i:=H) (fun q=>hH q.1)]
   by_cases hV:0≤V
   ·have hV':V≥0:=hV
    obtain⟨j,f,j1q,j2,j3q,j4q⟩:=pick_at hT hV hl vv
    have j3':T[((j:Nat):Int).toNat]?=some ((f:Nat):Int):=j3q
    rw[j4q];refine Call.enter2 (n:=43) (by kernel_rfl) Tryz.func15 rfl rfl rfl ?_;refine zit ?_;intro b2 b4;refine zaZ ?_;refine z3 ?_;refine zfd ?_;intro b5;refine zdH ?_;refine zca ?_;refine zp ?_;refine zbO ?_;refine zax ?_;refine z9 ?_;refine zbI ?_;refine zp ?_;refine zaz ?_;refine zA ?_;refine zcx ?_;refine zbs ?_;refine zw ?_;refine zcI ?_;refine zdC ?_
    (first|(refine KL.v rfl (Val.fieldSl (k:=6) rfl rfl) ?_)|(refine KL.v rfl (Val.fieldAddr0 (k:=6) rfl rfl) ?_)|(refine KL.v rfl (Val.fieldAddrZ rfl rfl) ?_)|(refine KL.v rfl (Val.fieldAddr (k:=6) rfl rfl) ?_))
    refine zbo ?_;refine ze ?_;refine zjO ?_
    (first|(refine KL.v rfl (Val.remN rfl rfl (by omega)) ?_)|(refine KL.v rfl (Val.rem rfl rfl (by omega)) ?_))
    rw[j1q];refine zk1 ?_;refine zbo ?_
    (first|(refine KL.v rfl (Val.fieldSl (k:=4) rfl rfl) ?_)|(refine KL.v rfl (Val.fieldAddr0 (k:=4) rfl rfl) ?_)|(refine KL.v rfl (Val.fieldAddrZ rfl rfl) ?_)|(refine KL.v rfl (Val.fieldAddr (k:=4) rfl rfl) ?_))
    refine zfW ?_;refine zW ?_;refine zlh ?_;exact zZ
   ·have hV': ¬V≥0:=hV
    rw[jdy (i:=V) (fun q=>hV q.1)];refine Call.enter2 (n:=43) (by kernel_rfl) Tryz.func15 rfl rfl rfl ?_;refine zit ?_;intro b2 b4;refine zaZ ?_;refine z3 ?_;refine zfd ?_;intro b5;refine zdH ?_;refine zca ?_;refine zp ?_;refine zbO ?_;refine zax ?_;refine z9 ?_;refine zbI ?_;refine zp ?_;refine zbO ?_;refine zax ?_;refine zz ?_;refine zlh ?_;exact zZ
 ·have hl0: ¬((T.length:Nat):Int)>0:=by omega
  rw[jdy (i:=H) (fun q=>hl q.2),jdy (i:=V) (fun q=>hl q.2)]
  by_cases hH:0≤H
  ·have hH':H≥0:=hH
   by_cases hV:0≤V
   ·have hV':V≥0:=hV
    refine Call.enter2 (n:=43) (by kernel_rfl) Tryz.func15 rfl rfl rfl ?_;refine zit ?_;intro b2 b4;refine zaZ ?_;refine z3 ?_;refine zfd ?_;intro b5;refine zdH ?_;refine zca ?_;refine zp ?_;refine zaz ?_;refine zA ?_;refine zcx ?_;refine zcq ?_;refine zw ?_;refine z9 ?_;refine zbI ?_;refine zp ?_;refine zaz ?_;refine zA ?_;refine zcx ?_;refine zcq ?_;refine zw ?_;refine zz ?_;refine zlh ?_;exact zZ
   ·have hV': ¬V≥0:=hV
    refine Call.enter2 (n:=43) (by kernel_rfl) Tryz.func15 rfl rfl rfl ?_;refine zit ?_;intro b2 b4;refine zaZ ?_;refine z3 ?_;refine zfd ?_;intro b5;refine zdH ?_;refine zca ?_;refine zp ?_;refine zaz ?_;refine zA ?_;refine zcx ?_;refine zcq ?_;refine zw ?_;refine z9 ?_;refine zbI ?_;refine zp ?_;refine zbO ?_;refine zax ?_;refine zz ?_;refine zlh ?_;exact zZ
  ·have hH': ¬H≥0:=hH
   by_cases hV:0≤V
   ·have hV':V≥0:=hV
    refine Call.enter2 (n:=43) (by kernel_rfl) Tryz.func15 rfl rfl rfl ?_;refine zit ?_;intro b2 b4;refine zaZ ?_;refine z3 ?_;refine zfd ?_;intro b5;refine zdH ?_;refine zca ?_;refine zp ?_;refine zbO ?_;refine zax ?_;refine z9 ?_;refine zbI ?_;refine zp ?_;refine zaz ?_;refine zA ?_;refine zcx ?_;refine zcq ?_;refine zw ?_;refine zz ?_;refine zlh ?_;exact zZ
   ·have hV': ¬V≥0:=hV
    refine Call.enter2 (n:=43) (by kernel_rfl) Tryz.func15 rfl rfl rfl ?_;refine zit ?_;intro b2 b4;refine zaZ ?_;refine z3 ?_;refine zfd ?_;intro b5;refine zdH ?_;refine zca ?_;refine zp ?_;refine zbO ?_;refine zax ?_;refine z9 ?_;refine zbI ?_;refine zp ?_;refine zbO ?_;refine zax ?_;refine zz ?_;refine zlh ?_;exact zZ
end
open Go.RowKit
set_option maxRecDepth 10000
def haE:Enc jU:=⟨acL,10,fun _=>rfl,by intro x v hv;simp[acL] at hv;rcases hv with rfl|rfl|rfl|rfl|rfl|rfl|rfl|rfl|rfl|rfl<;>rfl⟩
section
variable {C : HpC} {h h' : HpP} {T G : List Int} {op : OpP}
theorem StI.new0 (hC:jk C):StI C (newH C) [] []:=⟨HeI.new hC,fun x hx=>(by cases hx),fun x hx=>(by cases hx)⟩
end
open Go.RowKit Go.ChangeShapes Go.WideShapes Go.ChangeAt Go.Deep Go.Joins
set_option maxRecDepth 100000
section
variable {H : Type} {enc : TypeId × Value → H} {W : World}
theorem jdL {fuel:Nat} {cs:List Value} {x:DataW H × List MemPlace} (hx:DataW.trod enc Tryz.prog W 0 (fun _=>true) true fuel 35 cs=some x) (hlen:cs.length=5): ∃ y:OpP,cs=[.int .u8 (y.c:Nat), .int .u64 (y.h:Nat), .int .i64 y.a, .int .i64 y.b, .int .u64 (y.v:Nat)]∧JN y:=by
 obtain⟨c0,c1,c2,c3,c4,rfl⟩: ∃ c0 c1 c2 c3 c4,cs=[c0,c1,c2,c3,c4]:=by
  match cs,hlen with
  | [c0,c1,c2,c3,c4],_=>exact⟨c0,c1,c2,c3,c4,rfl⟩
 obtain⟨xs,n,_,rfl,hl,hxl,hf⟩:=DataW.trod_struct Tryz.underlying35 hx
 have k8:(Tryz.prog).cellsOf 5=1:=by kernel_rfl
 have ku:(Tryz.prog).cellsOf 33=1:=by kernel_rfl
 have ki:(Tryz.prog).cellsOf 3=1:=by kernel_rfl
 match xs,hxl with
 | [y0,y1,y2,y3,y4],_=>
  have h0:=hf 0 _ rfl
  have h1:=hf 1 _ rfl
  have h2:=hf 2 _ rfl
  have h3:=hf 3 _ rfl
  have h4:=hf 4 _ rfl
  obtain⟨a0,e0,-,w0⟩:=DataW.trod_int Tryz.underlying5 (by simpa [k8,ku,ki] using h0)
  obtain⟨a1,e1,-,w1⟩:=DataW.trod_int Tryz.underlying33 (by simpa [k8,ku,ki] using h1)
  obtain⟨a2,e2,-,w2⟩:=DataW.trod_int Tryz.underlying3 (by simpa [k8,ku,ki] using h2)
  obtain⟨a3,e3,-,w3⟩:=DataW.trod_int Tryz.underlying3 (by simpa [k8,ku,ki] using h3)
  obtain⟨a4,e4,-,w4⟩:=DataW.trod_int Tryz.underlying33 (by simpa [k8,ku,ki] using h4)
  simp at e0 e1 e2 e3 e4
  have hu0:=wf_u8 w0
  have hu1:=jbF w1
  have hu4:=jbF w4
  unfold u8ok at hu0;unfold jaJ at hu1 hu4
  obtain⟨n0,rfl⟩: ∃ n0:Nat,a0=n0:=⟨a0.toNat,by omega⟩
  obtain⟨n1,rfl⟩: ∃ n1:Nat,a1=n1:=⟨a1.toNat,by omega⟩
  obtain⟨n4,rfl⟩: ∃ n4:Nat,a4=n4:=⟨a4.toNat,by omega⟩
  subst e0 e1 e2 e3 e4;exact zjM
theorem hact_in {fuel:Nat} {cs:List Value} {x:DataW H × List MemPlace} (hx:DataW.trod enc Tryz.prog W 0 (fun _=>true) true fuel 37 cs=some x) (hlen:cs.length=10): ∃ y:jU,cs=haE.enc y∧J7 y:=by
 obtain⟨c0,c1,c2,c3,c4,c5,c6,c7,c8,c9,rfl⟩: ∃ c0 c1 c2 c3 c4 c5 c6 c7 c8 c9,cs=[c0,c1,c2,c3,c4,c5,c6,c7,c8,c9]:=by
  match cs,hlen with
  | [c0,c1,c2,c3,c4,c5,c6,c7,c8,c9],_=>exact⟨c0,c1,c2,c3,c4,c5,c6,c7,c8,c9,rfl⟩
 obtain⟨xs,n,hn,rfl,hl,hxl,hf⟩:=DataW.trod_struct Tryz.underlying37 hx
 have k8:(Tryz.prog).cellsOf 5=1:=by kernel_rfl
 have kb:(Tryz.prog).cellsOf 4=1:=by kernel_rfl
 have ki:(Tryz.prog).cellsOf 3=1:=by kernel_rfl
 have ko:(Tryz.prog).cellsOf 35=5:=by kernel_rfl
 match xs,hxl with
 | [y0,y1,y2,y3,y4,y5],_=>
  have h0:=hf 0 _ rfl
  have h1:=hf 1 _ rfl
  have h2:=hf 2 _ rfl
  have h3:=hf 3 _ rfl
  have h4:=hf 4 _ rfl
  have h5:=hf 5 _ rfl
  obtain⟨o,eo,ho⟩:=jdL (cs:=[c0,c1,c2,c3,c4]) (by simpa [k8,kb,ki,ko] using h0) rfl
  obtain⟨a1,e1,-,w1⟩:=DataW.trod_int Tryz.underlying3 (by simpa [k8,kb,ki,ko] using h1)
  obtain⟨a2,e2,-,w2⟩:=DataW.trod_int Tryz.underlying3 (by simpa [k8,kb,ki,ko] using h2)
  obtain⟨a3,e3,-⟩:=DataW.trod_bool Tryz.underlying4 (by simpa [k8,kb,ki,ko] using h3)
  obtain⟨a4,e4,-,w4⟩:=DataW.trod_int Tryz.underlying3 (by simpa [k8,kb,ki,ko] using h4)
  obtain⟨a5,e5,-,w5⟩:=DataW.trod_int Tryz.underlying5 (by simpa [k8,kb,ki,ko] using h5)
  simp at eo e1 e2 e3 e4 e5
  have hu:=wf_u8 w5
  unfold u8ok at hu
  obtain⟨n5,rfl⟩: ∃ n5:Nat,a5=n5:=⟨a5.toNat,by omega⟩
  obtain⟨q0,q1,q2,q3,q4⟩:=eo
  subst q0 q1 q2 q3 q4 e1 e2 e3 e4 e5;exact zkQ
end
open Go.RowKit
set_option maxRecDepth 10000
structure RnS where
 i:Nat
 f:Nat
 y:CyM
 h:HpP
 T:List Int
 oT:Own
section
variable {w0 : World} {F : jb} {v : Value} {l : List jU} {D : HpD} {y : CyM} {h : HpP} {f0 : Nat} {I : HpP → List Int → Prop}
theorem run_K (hG:js w0) (hD:HpDok D) (hR0:HpR D f0 400000000 y h) (hf0:f0≤500000) (hI:RunI D.C l I) (h0:I h []) (hl:Sli w0 F haE v l) (hlo: ∀ x∈l,J7 x):Call Tryz.prog w0 31 [.pointer (some ⟨D.b,0,none⟩),v] (hpH D y h++F) (fun r H'=> ∃ f1 y1 h1 T oT,HpR D f1 400000000 y1 h1∧f1≤f0+160∧I h1 T∧oOk uE T oT∧T.length≤80∧r=oV oT T.length∧H'=hpH D y1 h1++(oH uE 33 T oT++F)):=by
 have hC:=hD.C
 refine zkT ?_;refine z7 ?_;refine zcn ?_;refine zkU ?_;rintro⟨i,f,y,h,tl,otl⟩ ⟨hi,hi8,hR1,hf,hIt,hTl,kT⟩;dsimp only at hi hi8 hR1 hf hIt hTl kT⊢
 by_cases hc1:i<l.length
 ·have hc1':((i:Nat):Int)<((l.length:Nat):Int):=by omega
  by_cases hc2:i<80
  ·have hc2':((i:Nat):Int)<80:=by omega
   obtain⟨x,hx⟩:=jA hc1
   have hxm:=List.mem_of_getElem? hx
   have hxo:=hlo x hxm
   obtain⟨hHI,hu⟩:=hI.ok _ _ hIt
   have hop:=fun A v (hS:Sli w0 A uE v tl)=>op_K (w0:=w0) (F:=A) hxo hS hu
   have hzo:=jc3 hxo hu
   have hid:=hI.d h tl x hIt hxm
   have his:=fun k u=>hI.s h tl k u hIt
   obtain⟨z,hz⟩: ∃ z,opA x tl=z:=⟨_,rfl⟩
   rw[hz] at hop hzo hid
   have hdo:=fun A=>jcf (w0:=w0) (F:=A) hG hD hHI hR1 (by omega) hzo
   have hstp:=fun A (k:Int) (u:Nat) (hu:u<256)=>jdq (w0:=w0) (F:=A) (k:=k) (u:=((u:Nat):Int)) hG hD hR1 (by omega)
   obtain⟨⟨e,hh,w,addr,us,si,cy,ac⟩,h9,hv⟩: ∃ (q:SnP) (h9:HpP),hpDo D.C h z=(q,h9):=⟨_,_,rfl⟩
   rw[hv] at hid;simp only[hv] at hdo
   obtain⟨zc,zh,za,zb,zv⟩:=z
   unfold opV snV HpQ at hdo;unfold opV at hop;unfold HpQ at hstp;dsimp only at hid hdo hop;clear hv hz
   obtain⟨xo,xH,xV,wk,xk,xu⟩:=x
   have hxu:xu<256:=hxo.u
   cases wk with
   |true=>
    have hst2:=his xk ((xu:Nat):Int)
    have hstp2:=fun A=>hstp A xk xu hxu
    refine zfn ?_;refine zhi ?_;refine zim ?_;refine zbf ?_;refine zcC ?_;refine zin ?_;refine zaF ?_;refine zhu ?_;refine zio ?_;refine zaF ?_;refine zl fun T hT=>?_;refine(CallV.part (CallV.fn (hstp2 _)) ja).mono ?_;rintro _ _ ⟨rfl,y1,h2,rfl⟩;refine zg ?_;clear hT T;refine zD ?_;refine zbG ?_;refine zk4 ?_;refine ziL ?_;refine zek ?_;refine zdY ?_;exact zkW
   |false=>
    have hid2:=hid rfl
    unfold tell at hid2
    by_cases hh0:hh=0
    ·have hh0':((hh:Nat):Int)=0:=by omega
     rw[if_pos hh0] at hid2;refine zfn ?_;refine zaG ?_;refine zmJ ?_;refine zgU ?_;refine zeE ?_;rintro _ _ ⟨rfl,y1,h2,rfl⟩;refine zaH ?_;intro b7;refine zF ?_;refine zaE ?_;refine zeD ?_;exact zkX
    ·have hh0': ¬((hh:Nat):Int)=0:=by omega
     rw[if_neg hh0] at hid2
     have hbd:(tl++ [((hh:Nat):Int)]).length≤4294967296:=by simp;omega
     refine zfn ?_;refine zaG ?_;refine zmJ ?_;refine zgU ?_;refine zeE ?_;rintro _ _ ⟨rfl,y1,h2,rfl⟩;refine zaH ?_;intro b7;refine zF ?_;refine zd5 ?_;refine ze ?_;refine zF ?_;refine zaj ?_;intro b49;refine KL.e rfl (Eff.appZ (ys:=[_]) rfl rfl rfl rfl rfl rfl jn (by assumption) (by first|exact Sli.blk jF rfl (by first|decide|simp) (by first|decide|(unfold maxLen;omega)) rfl|exact Sli.old (by assumption)|exact Sli.own jn (by assumption) j6|assumption|exact Sli.part (by assumption) ja) rfl (by first|assumption|omega|(simp<;>fail)|(simp;omega)) rfl) ?_;rintro _ _ ⟨o50,ok50,rfl,rfl⟩;refine zgV ?_;exact zkY
  ·have hc2': ¬((i:Nat):Int)<80:=by omega
   refine zla ?_;refine zT ?_;refine zw ?_;refine zdh ?_;refine za8 ?_;exact zhp
 ·have hc1': ¬((i:Nat):Int)<((l.length:Nat):Int):=by omega
  refine za4 ?_;refine zdi ?_;refine zaO ?_;refine zdh ?_;refine za8 ?_;exact zhp
end
set_option maxRecDepth 10000
theorem jhJ {α:Type} {l m:List α} {k:Nat} (hl:l.length=m.length) (h:l.take k=m.take k) (hk:l.length≤k):l=m:=by
 rwa[List.take_of_length_le hk,List.take_of_length_le (by omega)] at h
theorem htake_eq {l m:List Int} {k:Nat} {a:Int} (h:l.take k=m.take k) (h1:l[k]?=some a) (h2:m[k]?=some a):l.take (k+1)=m.take (k+1):=by
 rw[jca h1,jca h2,h]
structure HsQ where
 k:Nat
theorem jik {w0:World} {H:jb} {va vb:Value} {l m:List Int} (h1:Sli w0 H uE va l) (h2:Sli w0 H uE vb m) (hl:l.length≤4294967296):
  Call Tryz.prog w0 19 [va,vb] H (fun r H'=>r= .bool (decide (l=m))∧H'=H):=by
 refine Call.enter2 (n:=26) (by kernel_rfl) Tryz.func19 rfl rfl rfl ?_
 by_cases hlm:l.length=m.length
 ·have hne: ¬((l.length:Nat):Int)≠((m.length:Nat):Int):=by omega
  refine zfF ?_;refine ze ?_;refine zad ?_;refine zaE ?_;refine z9 ?_;refine zcO ?_;refine zmo ?_;rintro⟨k⟩ ⟨hk,he⟩;dsimp only at hk he⊢
  by_cases hlt:k<l.length
  ·obtain⟨x,hx⟩:=jA hlt
   obtain⟨y,hy⟩:=jA (l:=m) (k:=k) (by omega)
   by_cases hxy:x=y
   ·have hxy2: ¬x≠y:=fun h=>h hxy
    refine zfp ?_;refine zeu ?_;refine zd3 ?_;refine zd3 ?_;refine zfS ?_;refine zD ?_;refine zbH ?_;refine zcg ?_;subst hxy;exact zmp
   ·have hne2:l≠m:=fun h=>hxy (by rw[h,hy] at hx;cases hx;rfl)
    refine zfp ?_;refine zeu ?_;refine zd3 ?_;refine zd3 ?_;refine zjl ?_;refine zD ?_;refine zcs ?_;refine zfj ?_;exact zjN
  ·have heq:l=m:=jhJ hlm he (by omega)
   refine za4 ?_;refine zcV ?_;refine zf ?_;exact KE.fin je rfl jd ja ⟨by rw[decide_eq_true heq];rfl,rfl⟩
 ·have hne:((l.length:Nat):Int)≠((m.length:Nat):Int):=by omega
  have hne2:l≠m:=fun h=>hlm (by rw[h])
  refine zfF ?_;refine ze ?_;refine zad ?_;refine zag ?_;refine zav ?_;exact zjN
section
variable {w0 : World} {F : jb} {D : HpD} {y : CyM} {h : HpP} {nf nk : Nat}
def allW (D:HpD) (h:HpP):List Int:=(D.R0.set D.C.tn h.s.W.x).flatten
theorem jf4 (h1:HpR D nf nk y h):Call Tryz.prog w0 20 [.pointer (some ⟨D.mb,0,none⟩)] (hpH D y h++F) (fun r H'=> ∃ o,oOk uE (allW D h) o∧r=oV o (allW D h).length∧H'=oH uE 33 (allW D h) o++(hpH D y h++F)):=by
 have hc:=fun A=>cAll_K (w0:=w0) (F:=A) h1.p
 rw[h1.m,h1.R] at hc;refine zjD ?_;rintro _ _ ⟨o,ko,rfl,rfl⟩;exact zkZ
theorem jin {g:PlG} {long:Nat} {s:CyP} (h:CpR g long y s):Call Tryz.prog w0 32 [.pointer (some ⟨y.T.b,0,none⟩)] (cycH y++F) (fun r H'=>r= .int .i64 (cntP 1 s.W.T:Nat)∧H'=cycH y++F):=by
 have hc:=Call.ro (w0:=w0) (A:=jy y.T) (H:=cycH y++F) (fun F=>jhk (F:=F) h.p.tb) (by rw[cycH_app];exact ja)
 rw[h.p.eT] at hc;exact hc
theorem jhI (h1:HpR D nf nk y h):Call Tryz.prog w0 32 [.pointer (some ⟨D.Tb,0,none⟩)] (hpH D y h++F) (fun r H'=>r= .int .i64 (cntP 1 h.s.W.T:Nat)∧H'=hpH D y h++F):=
 h1.lift0 fun A=>by have:=jin (w0:=w0) (F:=A) h1.p;rw [h1.T] at this;exact this
theorem jga {C:HpC} {op:OpP}:(hpDo C h op).1.used=(usedL C.g.L (hpDo C h op).2.s.A:Nat):=rfl
variable {c : Cfg} {vc vt v : Value} {l : List jU} {x : jU}
set_option maxHeartbeats 8000000 in
theorem heapRefused_K (hG:js w0) (hR:Jo w0 F c vc vt) (hl:Sli w0 F haE v l) (hlo: ∀ x∈l,J7 x) (hxo:J7 x):Call Tryz.prog w0 9 [jw c vc vt,v, .agg (acL x).toArray] F (fun r H'=>r= .bool true∧H'=F):=by
 have haw:=fun A=>jgd (w0:=w0) (F:=A) hG
 have hmn:=fun A (hp:Part A F) (hno:okS c 0=false)=>jf1 (t:=0) (hR.part hp) hno
 have hmd:=fun A (hp:Part A F) (hok:okS c 0=true)=>je8 (t:=0) hG (hR.part hp) hok
 obtain⟨hS,hT',o1,o2,l1,l2⟩:=hR
 obtain⟨ok,hok⟩: ∃ ok,okS c 0=ok:=⟨_,rfl⟩
 simp only[hok] at hmn hmd
 obtain⟨cl,page,tns,workers,grey,gens⟩:=c
 dsimp only at hS hT' l1 l2;simp only[jw,jT] at hmn hmd⊢;unfold acL
 cases ok with
 |false=>
  refine Call.enter3 (n:=123) (by kernel_rfl) Tryz.func9 rfl rfl rfl ?_;refine zaU ?_;intro b3 b5;refine zu ?_;refine zbx ?_;refine jq (hmn _ ja rfl) ?_;refine zfG ?_;refine zf1 ?_;refine zdb ?_;exact zaT
 |true=>
  refine Call.enter3 (n:=123) (by kernel_rfl) Tryz.func9 rfl rfl rfl ?_;refine zaU ?_;intro b3 b5;refine zu ?_;refine zc2 fun T hT=>?_;refine(CallV.fn (hmd _ ja rfl)).mono ?_;rintro _ _ ⟨D,y0,hM,rfl,rfl⟩
  have hD:=hM.ok
  have hC:=hD.C
  have hR0:=hM.R
  refine zd ?_;clear hT T;refine zfG ?_;refine zaG ?_;refine zx fun T hT=>?_;refine(CallV.fn (run_K hG hD (hR0.mono (Nat.le_refl _) (by decide)) (by decide) (StI.run hC hlo) (StI.new0 hC) (hl.part ja) hlo)).mono ?_;rintro _ _ ⟨f1,y1,h1,tl,otl,hR1,hf1,hSt,kT,hTl,rfl,rfl⟩
  have hAll:=fun A (y:CyM) (h:HpP) (nf nk:Nat) (hR:HpR D nf nk y h)=>jf4 (w0:=w0) (F:=A) hR
  have hCyc:=fun A (y:CyM) (h:HpP)=>jbC (w0:=w0) (F:=A) (D:=D) (y:=y) (h:=h)
  have hTab:=fun A (y:CyM) (h:HpP) (nf nk:Nat) (hR:HpR D nf nk y h)=>jd0 (w0:=w0) (F:=A) hR
  have hLiv:=fun A (y:CyM) (h:HpP) (nf nk:Nat) (hR:HpR D nf nk y h)=>jhI (w0:=w0) (F:=A) hR
  have hFre:=fun A (y:CyM) (h:HpP) (nf nk:Nat) (hR:HpR D nf nk y h)=>jkw (w0:=w0) (F:=A) hR
  have hPha:=fun A (y:CyM) (h:HpP) (nf nk:Nat) (hR:HpR D nf nk y h)=>jfv (w0:=w0) (F:=A) hR
  have hAr:=fun A (y:CyM) (h:HpP) (nf nk:Nat) (hR:HpR D nf nk y h)=>jeF (w0:=w0) (F:=A) hR
  have hUs:=fun A (y:CyM) (h:HpP) (nf nk:Nat) (hR:HpR D nf nk y h)=>jhG (w0:=w0) (F:=A) hR
  have hWk:=fun A (y:CyM) (h:HpP)=>jkz (w0:=w0) (F:=A) (D:=D) (y:=y) (h:=h)
  have hop:=fun A v (hS:Sli w0 A uE v tl)=>op_K (w0:=w0) (F:=A) hxo hS hSt.u
  have hzo:=jc3 hxo hSt.u
  unfold acL at hop
  obtain⟨z,hz⟩: ∃ z,opA x tl=z:=⟨_,rfl⟩
  rw[hz] at hop hzo
  have hdo:=fun A=>jcf (w0:=w0) (F:=A) hG hD hSt.I hR1 (by omega) hzo
  have hno:=do_no hC hSt.I (op:=z)
  have hus:=jga (C:=D.C) (h:=h1) (op:=z)
  obtain⟨⟨e,hh,w,addr,us,si,cy,ac⟩,h9,hv⟩: ∃ (q:SnP) (h9:HpP),hpDo D.C h1 z=(q,h9):=⟨_,_,rfl⟩
  rw[hv] at hno hus;simp only[hv] at hdo
  obtain⟨zc,zh,za,zb,zv⟩:=z
  unfold opV snV HpQ at hdo;unfold opV at hop;dsimp only at hno hus hdo hop;clear hv hz;refine zd ?_;clear hT T;refine zcA ?_;refine zn ?_;refine j4 (hAll _ _ _ _ _ hR1) ja ?_;rintro _ _ ⟨oa,koa,rfl,rfl⟩;refine zo ?_;refine ji (hCyc _ _ _) ja ?_;refine zq fun T hT=>?_;refine(CallV.part (CallV.fn (hTab _ _ _ _ _ hR1)) ja).mono ?_;rintro _ _ ⟨rfl,rfl⟩;refine zd ?_;clear hT T;refine zch ?_;refine zW ?_;refine zo ?_;refine ji (hLiv _ _ _ _ _ hR1) ja ?_;refine zo ?_;refine ji (hFre _ _ _ _ _ hR1) ja ?_;refine zo ?_;refine ji (hCyc _ _ _) ja ?_;refine zn ?_;refine ji (hPha _ _ _ _ _ hR1) ja ?_;refine zo ?_;refine ji (hCyc _ _ _) ja ?_;refine zn ?_;refine ji (hAr _ _ _ _ _ hR1) ja ?_;refine zn ?_;refine ji (hUs _ _ _ _ _ hR1) ja ?_;refine zch ?_;refine zch ?_;refine zW ?_;refine ze ?_;refine zb3 ?_;refine zmn ?_;refine zeE ?_;rintro _ _ ⟨rfl,y2,hR2,rfl⟩
  by_cases he0:e=0
  ·(refine KL.e rfl (Eff.alloc rfl) ?_;rintro _ _ ⟨b16,rfl,rfl⟩)
   refine zbb ?_;refine zjT ?_;refine zJ ?_;refine zd7 ?_;refine zd7 ?_;refine zf1 ?_;refine zdb ?_;exact zaT
  ·by_cases he1:e=100
   ·(refine KL.e rfl (Eff.alloc rfl) ?_;rintro _ _ ⟨b16,rfl,rfl⟩)
    refine zbb ?_;refine zjT ?_;refine zG ?_;refine zbg ?_;refine zJ ?_;refine zC ?_;refine zd7 ?_;refine zf1 ?_;refine zdb ?_;exact zaT
   ·by_cases he2:e=131
    ·(refine KL.e rfl (Eff.alloc rfl) ?_;rintro _ _ ⟨b16,rfl,rfl⟩)
     refine zbb ?_;refine zjT ?_;refine zG ?_;refine zbg ?_;refine zbz ?_;refine zbg ?_;refine zJ ?_;refine zC ?_;refine zf1 ?_;refine zdb ?_;exact zaT
    ·obtain⟨hn1,rfl,rfl,rfl⟩:=hno he0 he1 he2
     have hs9:h9.s=h1.s:=by rw[hn1]
     have hw9:h9.wk=0:=by rw[hn1]
     have hA9:allW D h9=allW D h1:=by unfold allW;rw [hs9]
     clear hn1 hno;rw[hs9] at hus
     have hfl:(allW D h1).length≤4294967296:=by have:=hR1.p.p.bo.m.n;rw [hR1.R] at this;unfold allW;omega
     have qAll:=fun A=>hAll A y2 h9 _ _ hR2
     have qLiv:=fun A=>hLiv A y2 h9 _ _ hR2
     have qFre:=fun A=>hFre A y2 h9 _ _ hR2
     have qPha:=fun A=>hPha A y2 h9 _ _ hR2
     have qUs:=fun A=>hUs A y2 h9 _ _ hR2
     have qWk:=fun A=>hWk A y2 h9
     simp only[hA9] at qAll;simp only[hs9] at qLiv qFre qPha qUs;simp only[hw9] at qWk;subst hus;refine zgM ?_;intro b16;refine zG ?_;refine zbg ?_;refine zbz ?_;refine zbg ?_;refine zbz ?_;refine zz ?_;refine zF ?_;refine zJ ?_;refine zL ?_;refine zeA ?_;refine zJ ?_;refine zbw ?_;refine zd9 ?_;refine zf6 ?_;refine ji (qWk _) ja ?_;refine zi ?_;refine zf6 ?_;refine j4 (qAll _) ja ?_;rintro _ _ ⟨ob,kob,rfl,rfl⟩;refine zeC ?_;refine zq fun T hT=>?_;refine(CallV.fn (jik (l:=allW D h1) (m:=allW D h1) (Sli.own jn kob rfl) (Sli.own jn koa rfl) hfl)).mono ?_;rw[decide_eq_true (rfl:allW D h1=allW D h1)];rintro _ _ ⟨rfl,rfl⟩;refine zd ?_;clear hT T;refine zb1 ?_;refine zn ?_;refine ji (qLiv _) ja ?_;refine zeC ?_;refine zf6 ?_;refine ji (qFre _) ja ?_;refine zeC ?_;refine zf6 ?_;refine ji (hCyc _ _ _) ja ?_;refine zdk ?_;refine ji (qPha _) ja ?_;refine zeC ?_;refine zf6 ?_;refine ji (hCyc _ _ _) ja ?_;refine zdk ?_;refine ji (hAr _ _ _ _ _ hR2) ja ?_;refine zdk ?_;refine ji (qUs _) ja ?_;refine zeC ?_;refine zJ ?_;refine zbw ?_;refine zah ?_;refine zai ?_;refine zL ?_;refine zJ ?_;refine zbw ?_;refine zn ?_;refine zdb ?_;exact zdl
end
open Go.RowKit Go.ChangeShapes Go.WideShapes Go.ChangeAt Go.Deep Go.Joins
set_option maxRecDepth 100000
theorem jdB {H:Type} {enc:TypeId × Value→H} {W:World} {base:Nat} {v:Value} {d:DataW H} {p:List MemPlace} (ho:Value.okWide Tryz.prog W .any base 26 v) (h:DataW.Trod enc Tryz.prog W 0 (fun _=>true) true 26 v d p):
  ∃ l:List jU,SlW W haE v l∧ ∀ x∈l,J7 x:=slice_sl (P:=Tryz.prog) (E:=haE) Tryz.underlying26 (by kernel_rfl) (by decide) ho h J7 (fun fuel cs x hx hl=>hact_in hx hl)
theorem hact_v {H:Type} {enc:TypeId × Value→H} {W:World} {base:Nat} {v:Value} {d:DataW H} {p:List MemPlace} (ho:Value.okWide Tryz.prog W .any base 37 v) (h:DataW.Trod enc Tryz.prog W 0 (fun _=>true) true 37 v d p):
  ∃ x:jU,v= .agg (acL x).toArray∧J7 x:=by
 obtain⟨cs,rfl,hs⟩:=okWide_struct Tryz.underlying37 ho
 have k6:(Tryz.prog).cellsOf 37=10:=by kernel_rfl
 rw[k6] at hs
 obtain⟨fuel,hf⟩:=h
 obtain⟨l⟩:=cs
 obtain⟨y,hy,hok⟩:=hact_in (cs:=l) (by simpa [Value.cells] using hf) hs
 exact⟨y,by rw[hy];rfl,hok⟩
end Go.Proofs.YtpcgafhgfjlkmaaGreatDoor.Sw
