/-What the law needs of its own,part 1. -/
import Derived.Test.YtpcgafhgfjlkmaaGreatDoorD1
import Derived.WalkKit
import Derived.ProofKit
import Derived.RangeFuncNested
import Derived.RangeFuncBound
import Derived.RangeFuncCalls
import Derived.RangeFuncLeaves
import Derived.Lib.Hide
import Derived.Sort.BigQuietIn
import Derived.Deep.Quiet
import Derived.StillTailTactics
import Derived.Deep.LoopGhost
import Derived.Laws.Cells
import Derived.OrdersIn
import Derived.Deep.OwnRows
import Derived.Laws.CopyOwn
import Derived.IntWalk
import Derived.ArgAppend
import Derived.Deep.Slices
import Derived.Deep.Fields
import Derived.Laws.IdiomStrings
import Derived.Laws.StructEq
import Derived.Maps.RangeRun
import Derived.Laws.Externs
import Derived.Laws.FloatArith
import Derived.Laws.NewFold
import Derived.RecoverIn
import Derived.Shelf.Strconv.Itoa0
import Derived.Shelf.Bits.Mul64
import Derived.Shelf.Slices.Turned
import Derived.Test.YtpcgafhgfjlkmaaGreatDoorProg
import Derived.SizedLaws
import Derived.Lib.SmallJoins
import Derived.ChangeMaps5
import Derived.Lib.TrailingZeros
import Derived.Lib.BitFns
import Derived.Shelf.Spec.TrailingZeros
import Derived.Test.YtpcgafhgfjlkmaaGreatDoorRows
import Derived.OpenShut
import Derived.LaidMore
import Derived.Lay
import Derived.LaidHandle
import Derived.Test.YtpcgafhgfjlkmaaGreatDoorJ39
set_option linter.unusedVariables false set_option linter.unusedSimpArgs false namespace Go.Proofs.YtpcgafhgfjlkmaaGreatDoor
set_option maxHeartbeats 8000000
open Go.RowKit Go.ChangeShapes Go.WideShapes Go.ChangeAt Go.Deep
variable {P : Program}
theorem slice_sl {α:Type} {E:Enc α} {H:Type} {enc:TypeId × Value→H} {W:World} {base:Nat} {t e:TypeId} (ht:P.underlying t=some (.slice e)) (hk:P.cellsOf e=E.sz) (hk0:0<E.sz) {v:Value} {d:DataW H} {p:List MemPlace}
  (ho:Value.okWide P W .any base t v) (h:DataW.Trod enc P W 0 (fun _=>true) true t v d p) (Ok:α→Prop)
  (hR: ∀ fuel cs x,DataW.trod enc P W 0 (fun _=>true) true fuel e cs=some x→cs.length=E.sz→ ∃ y,cs=E.enc y∧Ok y):
  ∃ ys:List α,SlW W E v ys∧ ∀ y∈ys,Ok y:=by
 obtain⟨a,len,cap,rfl⟩:=okWide_slice ht ho
 obtain⟨fuel,hf⟩:=h
 rcases open_slice ht hf with⟨hcs,_⟩|⟨a',len',cap',m,n,D,Pl,hcs,_,hl,hm,hmm,_,hx⟩
 ·simp[Value.cells] at hcs
  obtain⟨rfl,rfl,rfl⟩:=hcs
  exact⟨[],SlW.nil W E,fun y hy=>by cases hy⟩
 ·simp[Value.cells] at hcs
  obtain⟨rfl,rfl,rfl⟩:=hcs
  simp only[if_true] at hmm;subst hmm
  have key: ∀ i,i<len→ ∃ y,Ok y∧ ∀ j,j<E.sz→W.cell? (a'.add (i*E.sz+j))=(E.enc y)[j]? :=by
   intro i hi
   obtain⟨cs',h1,h2⟩:=hx i (by omega)
   rw[hk] at h1
   obtain⟨_,hlen,hat⟩:=World.cells?_some h1
   obtain⟨y,rfl,hy⟩:=hR _ _ _ h2 hlen
   exact zkP
  obtain⟨ys,hys,hall⟩:=jgC len (fun i y=>Ok y∧ ∀ j,j<E.sz→W.cell? (a'.add (i*E.sz+j))=(E.enc y)[j]?) key
  subst hys
  have hspot:0<ys.length→ ∃ b off,a'=⟨b,off,none⟩:=by
   intro hpos
   obtain⟨b,off,spot⟩:=a'
   obtain⟨y0,_,hc0⟩:=key 0 hpos
   have h1:=hc0 0 hk0
   rw[List.getElem?_eq_getElem (by rw[E.len];exact hk0)] at h1
   have hsp:spot=none:=by simpa [Addr.add] using World.cell?_spot h1
   subst hsp;exact⟨b,off,rfl⟩
  refine⟨ys,⟨⟨some a',m,rfl,hl,hm,fun hne=>?_⟩,?_⟩,?_⟩
  ·obtain⟨b,off,rfl⟩:=hspot (List.length_pos_iff.2 hne)
   exact⟨b,off,rfl⟩
  ·intro i y hy j u hu
   have hi:=(List.getElem?_eq_some_iff.1 hy).1
   obtain⟨b,off,rfl⟩:=hspot (by omega)
   have hj:j<E.sz:=by have:=(List.getElem?_eq_some_iff.1 hu).1;rwa[E.len] at this
   have:=(hall i y hy).2 j hj
   rw[jbb,hu] at this
   simpa [adr] using this
  ·intro y hy
   obtain⟨i,hi⟩:=List.getElem?_of_mem hy
   exact(hall i y hi).1
open Go.RowKit Go.ChangeShapes Go.WideShapes Go.ChangeAt Go.Deep Go.Joins
set_option linter.unusedVariables false
set_option maxRecDepth 100000
def jaJ (z:Int):Prop:=0≤z∧z≤18446744073709551615
def u8ok (z:Int):Prop:=0≤z∧z≤255
theorem jbF {z:Int} (h:(Lit.int .u64 z).wf=true):jaJ z:=by simpa [Lit.wf,IntKind.min,IntKind.max,IntKind.signed,IntKind.bits,jaJ] using h
theorem wf_u8 {z:Int} (h:(Lit.int .u8 z).wf=true):u8ok z:=by simpa [Lit.wf,IntKind.min,IntKind.max,IntKind.signed,IntKind.bits,u8ok] using h
end Go.Proofs.YtpcgafhgfjlkmaaGreatDoor
set_option linter.unusedSimpArgs false
namespace Go.Proofs.YtpcgafhgfjlkmaaGreatDoor.Sw
open Go.Proofs.YtpcgafhgfjlkmaaGreatDoor renaming lo → qL, hi → qH
open Go.RowKit
set_option maxRecDepth 10000
section
variable {C : HpC} {wr : Bool} {h h' : HpP} {s s' : CyP} {n : Nat}
theorem jaQ {op:OpP}:(hpDo C h op).1.e=(jt C {h with wk:=0} op).1.e:=by
 unfold hpDo ja1
 split<;>rfl
end
set_option maxRecDepth 10000
section
variable {w0 : World} {D : HpD} {nf nk n : Nat} {y y' : CyM} {h : HpP} {s s' : CyP} {F G : jb} {op : OpP} {z : jg}
theorem jbC:Call Tryz.prog w0 17 [.pointer (some ⟨D.b,0,none⟩)] (hpH D y h++F) (fun r H'=>r= .pointer (some ⟨D.yb,0,none⟩)∧H'=hpH D y h++F):=by
 have hnone:=fun A=>jb5 (w0:=w0) (D:=D) (y:=y) (h:=h) (F:=A)
 refine zfX ?_;refine zfN ?_;refine za2 ?_;exact zfM
end
set_option maxRecDepth 10000
theorem jdy {T:List Int} {i:Int} {d:Nat} (h: ¬(0≤i∧0<T.length)):pickT T i d=d:=if_neg h
section
variable {w0 : World} {F : jb} {x : jU} {T : List Int} {v : Value}
set_option maxHeartbeats 1000000 in
theorem op_K (hx:J7 x) (hS:Sli w0 F uE v T) (hT:u64s T):Call Tryz.prog w0 15 [.agg (acL x).toArray,v] F (fun r H'=>r=opV (opA x T)∧H'=F):=by
 obtain⟨⟨c,h,a,b,vv⟩,H,V,wk,k,u⟩:=x
 unfold acL opV opA;dsimp only
 by_cases hl:0<T.length
 ·have hl0:((T.length:Nat):Int)>0:=by omega
  have hl1: ¬((T.length:Nat):Int)=0:=by omega
  by_cases hH:0≤H
  ·have hH':H≥0:=hH
   obtain⟨i,e,i1,i2,i3,i4⟩:=pick_at hT hH hl h
   have i3':T[((i:Nat):Int).toNat]?=some ((e:Nat):Int):=i3
   rw[i4]
   by_cases hV:0≤V
   ·have hV':V≥0:=hV
    obtain⟨j,f,j1q,j2,j3q,j4q⟩:=pick_at hT hV hl vv
    have j3':T[((j:Nat):Int).toNat]?=some ((f:Nat):Int):=j3q
    rw[j4q];refine Call.enter2 (n:=43) (by kernel_rfl) Tryz.func15 rfl rfl rfl ?_;refine zit ?_;intro b2 b4;refine zaZ ?_;refine z3 ?_;refine zfd ?_;intro b5;refine zdH ?_;refine zca ?_;refine zp ?_;refine zaz ?_;refine zA ?_;refine zcx ?_;refine zbs ?_;refine zw ?_;refine zcI ?_;refine zdC ?_
    (first|(refine KL.v rfl (Val.fieldSl (k:=5) rfl rfl) ?_)|(refine KL.v rfl (Val.fieldAddr0 (k:=5) rfl rfl) ?_)|(refine KL.v rfl (Val.fieldAddrZ rfl rfl) ?_)|(refine KL.v rfl (Val.fieldAddr (k:=5) rfl rfl) ?_))
    refine zbo ?_;refine ze ?_;refine zjO ?_
    (first|(refine KL.v rfl (Val.remN rfl rfl (by omega)) ?_)|(refine KL.v rfl (Val.rem rfl rfl (by omega)) ?_))
    rw[i1];refine zk1 ?_;refine zbo ?_;refine zc7 ?_;refine zfW ?_;refine zdH ?_;refine zbI ?_;refine zp ?_;refine zaz ?_;refine zA ?_;refine zcx ?_;refine zbs ?_;refine zw ?_;refine zcI ?_;refine zdC ?_
    (first|(refine KL.v rfl (Val.fieldSl (k:=6) rfl rfl) ?_)|(refine KL.v rfl (Val.fieldAddr0 (k:=6) rfl rfl) ?_)|(refine KL.v rfl (Val.fieldAddrZ rfl rfl) ?_)|(refine KL.v rfl (Val.fieldAddr (k:=6) rfl rfl) ?_))
    refine zbo ?_;refine ze ?_;refine zjO ?_
    (first|(refine KL.v rfl (Val.remN rfl rfl (by omega)) ?_)|(refine KL.v rfl (Val.rem rfl rfl (by omega)) ?_))
    rw[j1q];refine zk1 ?_;refine zbo ?_
    (first|(refine KL.v rfl (Val.fieldSl (k:=4) rfl rfl) ?_)|(refine KL.v rfl (Val.fieldAddr0 (k:=4) rfl rfl) ?_)|(refine KL.v rfl (Val.fieldAddrZ rfl rfl) ?_)|(refine KL.v rfl (Val.fieldAddr (k:=4) rfl rfl) ?_))
    refine zfW ?_;refine zW ?_;refine zlh ?_;exact zZ
   ·have hV': ¬V≥0:=hV
    rw[jdy (i:=V) (fun q=>hV q.1)];refine Call.enter2 (n:=43) (by kernel_rfl) Tryz.func15 rfl rfl rfl ?_;refine zit ?_;intro b2 b4;refine zaZ ?_;refine z3 ?_;refine zfd ?_;intro b5;refine zdH ?_;refine zca ?_;refine zp ?_;refine zaz ?_;refine zA ?_;refine zcx ?_;refine zbs ?_;refine zw ?_;refine zcI ?_;refine zdC ?_
    (first|(refine KL.v rfl (Val.fieldSl (k:=5) rfl rfl) ?_)|(refine KL.v rfl (Val.fieldAddr0 (k:=5) rfl rfl) ?_)|(refine KL.v rfl (Val.fieldAddrZ rfl rfl) ?_)|(refine KL.v rfl (Val.fieldAddr (k:=5) rfl rfl) ?_))
    refine zbo ?_;refine ze ?_;refine zjO ?_
    (first|(refine KL.v rfl (Val.remN rfl rfl (by omega)) ?_)|(refine KL.v rfl (Val.rem rfl rfl (by omega)) ?_))
    rw[i1];refine zk1 ?_;refine zbo ?_;refine zc7 ?_;refine zfW ?_;refine zdH ?_;refine zbI ?_;refine zp ?_;refine zbO ?_;refine zax ?_;refine zz ?_;refine zlh ?_;exact zZ
  ·have hH': ¬H≥0:=hH
   rw[jdy (i:=H) (fun q=>hH q.1)]
   by_cases hV:0≤V
   ·have hV':V≥0:=hV
    obtain⟨j,f,j1q,j2,j3q,j4q⟩:=pick_at hT hV hl vv
    have j3':T[((j:Nat):Int).toNat]?=some ((f:Nat):Int):=j3q
    rw[j4q];refine Call.enter2 (n:=43) (by kernel_rfl) Tryz.func15 rfl rfl rfl ?_;refine zit ?_;intro b2 b4;refine zaZ ?_;refine z3 ?_;refine zfd ?_;intro b5;refine zdH ?_;refine zca ?_;refine zp ?_;refine zbO ?_;refine zax ?_;refine z9 ?_;refine zbI ?_;refine zp ?_;refine zaz ?_;refine zA ?_;refine zcx ?_;refine zbs ?_;refine zw ?_;refine zcI ?_;refine zdC ?_
    (first|(refine KL.v rfl (Val.fieldSl (k:=6) rfl rfl) ?_)|(refine KL.v rfl (Val.fieldAddr0 (k:=6) rfl rfl) ?_)|(refine KL.v rfl (Val.fieldAddrZ rfl rfl) ?_)|(refine KL.v rfl (Val.fieldAddr (k:=6) rfl rfl) ?_))
    refine zbo ?_;refine ze ?_;refine zjO ?_
    (first|(refine KL.v rfl (Val.remN rfl rfl (by omega)) ?_)|(refine KL.v rfl (Val.rem rfl rfl (by omega)) ?_))
    rw[j1q];refine zk1 ?_;refine zbo ?_
    (first|(refine KL.v rfl (Val.fieldSl (k:=4) rfl rfl) ?_)|(refine KL.v rfl (Val.fieldAddr0 (k:=4) rfl rfl) ?_)|(refine KL.v rfl (Val.fieldAddrZ rfl rfl) ?_)|(refine KL.v rfl (Val.fieldAddr (k:=4) rfl rfl) ?_))
    refine zfW ?_;refine zW ?_;refine zlh ?_;exact zZ
   ·have hV': ¬V≥0:=hV
    rw[jdy (i:=V) (fun q=>hV q.1)];refine Call.enter2 (n:=43) (by kernel_rfl) Tryz.func15 rfl rfl rfl ?_;refine zit ?_;intro b2 b4;refine zaZ ?_;refine z3 ?_;refine zfd ?_;intro b5;refine zdH ?_;refine zca ?_;refine zp ?_;refine zbO ?_;refine zax ?_;refine z9 ?_;refine zbI ?_;refine zp ?_;refine zbO ?_;refine zax ?_;refine zz ?_;refine zlh ?_;exact zZ
 ·have hl0: ¬((T.length:Nat):Int)>0:=by omega
  rw[jdy (i:=H) (fun q=>hl q.2),jdy (i:=V) (fun q=>hl q.2)]
  by_cases hH:0≤H
  ·have hH':H≥0:=hH
   by_cases hV:0≤V
   ·have hV':V≥0:=hV
    refine Call.enter2 (n:=43) (by kernel_rfl) Tryz.func15 rfl rfl rfl ?_;refine zit ?_;intro b2 b4;refine zaZ ?_;refine z3 ?_;refine zfd ?_;intro b5;refine zdH ?_;refine zca ?_;refine zp ?_;refine zaz ?_;refine zA ?_;refine zcx ?_;refine zcq ?_;refine zw ?_;refine z9 ?_;refine zbI ?_;refine zp ?_;refine zaz ?_;refine zA ?_;refine zcx ?_;refine zcq ?_;refine zw ?_;refine zz ?_;refine zlh ?_;exact zZ
   ·have hV': ¬V≥0:=hV
    refine Call.enter2 (n:=43) (by kernel_rfl) Tryz.func15 rfl rfl rfl ?_;refine zit ?_;intro b2 b4;refine zaZ ?_;refine z3 ?_;refine zfd ?_;intro b5;refine zdH ?_;refine zca ?_;refine zp ?_;refine zaz ?_;refine zA ?_;refine zcx ?_;refine zcq ?_;refine zw ?_;refine z9 ?_;refine zbI ?_;refine zp ?_;refine zbO ?_;refine zax ?_;refine zz ?_;refine zlh ?_;exact zZ
  ·have hH': ¬H≥0:=hH
   by_cases hV:0≤V
   ·have hV':V≥0:=hV
    refine Call.enter2 (n:=43) (by kernel_rfl) Tryz.func15 rfl rfl rfl ?_;refine zit ?_;intro b2 b4;refine zaZ ?_;refine z3 ?_;refine zfd ?_;intro b5;refine zdH ?_;refine zca ?_;refine zp ?_;refine zbO ?_;refine zax ?_;refine z9 ?_;refine zbI ?_;refine zp ?_;refine zaz ?_;refine zA ?_;refine zcx ?_;refine zcq ?_;refine zw ?_;refine zz ?_;refine zlh ?_;exact zZ
   ·have hV': ¬V≥0:=hV
    refine Call.enter2 (n:=43) (by kernel_rfl) Tryz.func15 rfl rfl rfl ?_;refine zit ?_;intro b2 b4;refine zaZ ?_;refine z3 ?_;refine zfd ?_;intro b5;refine zdH ?_;refine zca ?_;refine zp ?_;refine zbO ?_;refine zax ?_;refine z9 ?_;refine zbI ?_;refine zp ?_;refine zbO ?_;refine zax ?_;refine zz ?_;refine zlh ?_;exact zZ
end
open Go.RowKit
set_option maxRecDepth 10000
def haE:Enc jU:=⟨acL,10,fun _=>rfl,by intro x v hv;simp[acL] at hv;rcases hv with rfl|rfl|rfl|rfl|rfl|rfl|rfl|rfl|rfl|rfl<;>rfl⟩
section
variable {C : HpC} {h h' : HpP} {T G : List Int} {op : OpP}
theorem wk_mvs (n:Nat):j8 C true h {h with wk:=n}:=HpMv.one (.free rfl fun h=>h)
theorem StI.new0 (hC:jk C):StI C (newH C) [] []:=⟨HeI.new hC,fun x hx=>(by cases hx),fun x hx=>(by cases hx)⟩
end
open Go.RowKit Go.ChangeShapes Go.WideShapes Go.ChangeAt Go.Deep Go.Joins
set_option maxRecDepth 100000
section
variable {H : Type} {enc : TypeId × Value → H} {W : World}
theorem jdL {fuel:Nat} {cs:List Value} {x:DataW H × List MemPlace} (hx:DataW.trod enc Tryz.prog W 0 (fun _=>true) true fuel 35 cs=some x) (hlen:cs.length=5): ∃ y:OpP,cs=[.int .u8 (y.c:Nat), .int .u64 (y.h:Nat), .int .i64 y.a, .int .i64 y.b, .int .u64 (y.v:Nat)]∧JN y:=by
 obtain⟨c0,c1,c2,c3,c4,rfl⟩: ∃ c0 c1 c2 c3 c4,cs=[c0,c1,c2,c3,c4]:=by
  match cs,hlen with
  | [c0,c1,c2,c3,c4],_=>exact⟨c0,c1,c2,c3,c4,rfl⟩
 obtain⟨xs,n,_,rfl,hl,hxl,hf⟩:=DataW.trod_struct Tryz.underlying35 hx
 have k8:(Tryz.prog).cellsOf 5=1:=by kernel_rfl
 have ku:(Tryz.prog).cellsOf 33=1:=by kernel_rfl
 have ki:(Tryz.prog).cellsOf 3=1:=by kernel_rfl
 match xs,hxl with
 | [y0,y1,y2,y3,y4],_=>
  have h0:=hf 0 _ rfl
  have h1:=hf 1 _ rfl
  have h2:=hf 2 _ rfl
  have h3:=hf 3 _ rfl
  have h4:=hf 4 _ rfl
  obtain⟨a0,e0,-,w0⟩:=DataW.trod_int Tryz.underlying5 (by simpa [k8,ku,ki] using h0)
  obtain⟨a1,e1,-,w1⟩:=DataW.trod_int Tryz.underlying33 (by simpa [k8,ku,ki] using h1)
  obtain⟨a2,e2,-,w2⟩:=DataW.trod_int Tryz.underlying3 (by simpa [k8,ku,ki] using h2)
  obtain⟨a3,e3,-,w3⟩:=DataW.trod_int Tryz.underlying3 (by simpa [k8,ku,ki] using h3)
  obtain⟨a4,e4,-,w4⟩:=DataW.trod_int Tryz.underlying33 (by simpa [k8,ku,ki] using h4)
  simp at e0 e1 e2 e3 e4
  have hu0:=wf_u8 w0
  have hu1:=jbF w1
  have hu4:=jbF w4
  unfold u8ok at hu0;unfold jaJ at hu1 hu4
  obtain⟨n0,rfl⟩: ∃ n0:Nat,a0=n0:=⟨a0.toNat,by omega⟩
  obtain⟨n1,rfl⟩: ∃ n1:Nat,a1=n1:=⟨a1.toNat,by omega⟩
  obtain⟨n4,rfl⟩: ∃ n4:Nat,a4=n4:=⟨a4.toNat,by omega⟩
  subst e0 e1 e2 e3 e4;exact zjM
theorem hact_in {fuel:Nat} {cs:List Value} {x:DataW H × List MemPlace} (hx:DataW.trod enc Tryz.prog W 0 (fun _=>true) true fuel 37 cs=some x) (hlen:cs.length=10): ∃ y:jU,cs=haE.enc y∧J7 y:=by
 obtain⟨c0,c1,c2,c3,c4,c5,c6,c7,c8,c9,rfl⟩: ∃ c0 c1 c2 c3 c4 c5 c6 c7 c8 c9,cs=[c0,c1,c2,c3,c4,c5,c6,c7,c8,c9]:=by
  match cs,hlen with
  | [c0,c1,c2,c3,c4,c5,c6,c7,c8,c9],_=>exact⟨c0,c1,c2,c3,c4,c5,c6,c7,c8,c9,rfl⟩
 obtain⟨xs,n,hn,rfl,hl,hxl,hf⟩:=DataW.trod_struct Tryz.underlying37 hx
 have k8:(Tryz.prog).cellsOf 5=1:=by kernel_rfl
 have kb:(Tryz.prog).cellsOf 4=1:=by kernel_rfl
 have ki:(Tryz.prog).cellsOf 3=1:=by kernel_rfl
 have ko:(Tryz.prog).cellsOf 35=5:=by kernel_rfl
 match xs,hxl with
 | [y0,y1,y2,y3,y4,y5],_=>
  have h0:=hf 0 _ rfl
  have h1:=hf 1 _ rfl
  have h2:=hf 2 _ rfl
  have h3:=hf 3 _ rfl
  have h4:=hf 4 _ rfl
  have h5:=hf 5 _ rfl
  obtain⟨o,eo,ho⟩:=jdL (cs:=[c0,c1,c2,c3,c4]) (by simpa [k8,kb,ki,ko] using h0) rfl
  obtain⟨a1,e1,-,w1⟩:=DataW.trod_int Tryz.underlying3 (by simpa [k8,kb,ki,ko] using h1)
  obtain⟨a2,e2,-,w2⟩:=DataW.trod_int Tryz.underlying3 (by simpa [k8,kb,ki,ko] using h2)
  obtain⟨a3,e3,-⟩:=DataW.trod_bool Tryz.underlying4 (by simpa [k8,kb,ki,ko] using h3)
  obtain⟨a4,e4,-,w4⟩:=DataW.trod_int Tryz.underlying3 (by simpa [k8,kb,ki,ko] using h4)
  obtain⟨a5,e5,-,w5⟩:=DataW.trod_int Tryz.underlying5 (by simpa [k8,kb,ki,ko] using h5)
  simp at eo e1 e2 e3 e4 e5
  have hu:=wf_u8 w5
  unfold u8ok at hu
  obtain⟨n5,rfl⟩: ∃ n5:Nat,a5=n5:=⟨a5.toNat,by omega⟩
  obtain⟨q0,q1,q2,q3,q4⟩:=eo
  subst q0 q1 q2 q3 q4 e1 e2 e3 e4 e5;exact zkQ
end
open Go.RowKit
set_option maxRecDepth 10000
structure RnS where
 i:Nat
 f:Nat
 y:CyM
 h:HpP
 T:List Int
 oT:Own
section
variable {w0 : World} {F : jb} {v : Value} {l : List jU} {D : HpD} {y : CyM} {h : HpP} {f0 : Nat} {I : HpP → List Int → Prop}
theorem run_K (hG:js w0) (hD:HpDok D) (hR0:HpR D f0 400000000 y h) (hf0:f0≤500000) (hI:RunI D.C l I) (h0:I h []) (hl:Sli w0 F haE v l) (hlo: ∀ x∈l,J7 x):Call Tryz.prog w0 31 [.pointer (some ⟨D.b,0,none⟩),v] (hpH D y h++F) (fun r H'=> ∃ f1 y1 h1 T oT,HpR D f1 400000000 y1 h1∧f1≤f0+160∧I h1 T∧oOk uE T oT∧T.length≤80∧r=oV oT T.length∧H'=hpH D y1 h1++(oH uE 33 T oT++F)):=by
 have hC:=hD.C
 refine zkT ?_;refine z7 ?_;refine zcn ?_;refine zkU ?_;rintro⟨i,f,y,h,tl,otl⟩ ⟨hi,hi8,hR1,hf,hIt,hTl,kT⟩;dsimp only at hi hi8 hR1 hf hIt hTl kT⊢
 by_cases hc1:i<l.length
 ·have hc1':((i:Nat):Int)<((l.length:Nat):Int):=by omega
  by_cases hc2:i<80
  ·have hc2':((i:Nat):Int)<80:=by omega
   obtain⟨x,hx⟩:=jA hc1
   have hxm:=List.mem_of_getElem? hx
   have hxo:=hlo x hxm
   obtain⟨hHI,hu⟩:=hI.ok _ _ hIt
   have hop:=fun A v (hS:Sli w0 A uE v tl)=>op_K (w0:=w0) (F:=A) hxo hS hu
   have hzo:=jc3 hxo hu
   have hid:=hI.d h tl x hIt hxm
   have his:=fun k u=>hI.s h tl k u hIt
   obtain⟨z,hz⟩: ∃ z,opA x tl=z:=⟨_,rfl⟩
   rw[hz] at hop hzo hid
   have hdo:=fun A=>jcf (w0:=w0) (F:=A) hG hD hHI hR1 (by omega) hzo
   have hstp:=fun A (k:Int) (u:Nat) (hu:u<256)=>jdq (w0:=w0) (F:=A) (k:=k) (u:=((u:Nat):Int)) hG hD hR1 (by omega)
   obtain⟨⟨e,hh,w,addr,us,si,cy,ac⟩,h9,hv⟩: ∃ (q:SnP) (h9:HpP),hpDo D.C h z=(q,h9):=⟨_,_,rfl⟩
   rw[hv] at hid;simp only[hv] at hdo
   obtain⟨zc,zh,za,zb,zv⟩:=z
   unfold opV snV HpQ at hdo;unfold opV at hop;unfold HpQ at hstp;dsimp only at hid hdo hop;clear hv hz
   obtain⟨xo,xH,xV,wk,xk,xu⟩:=x
   have hxu:xu<256:=hxo.u
   cases wk with
   |true=>
    have hst2:=his xk ((xu:Nat):Int)
    have hstp2:=fun A=>hstp A xk xu hxu
    refine zfn ?_;refine zhi ?_;refine zim ?_;refine zbf ?_;refine zcC ?_;refine zin ?_;refine zaF ?_;refine zhu ?_;refine zio ?_;refine zaF ?_;refine zl fun T hT=>?_;refine(CallV.part (CallV.fn (hstp2 _)) ja).mono ?_;rintro _ _ ⟨rfl,y1,h2,rfl⟩;refine zg ?_;clear hT T;refine zD ?_;refine zbG ?_;refine zk4 ?_;refine ziL ?_;refine zek ?_;refine zdY ?_;exact zkW
   |false=>
    have hid2:=hid rfl
    unfold tell at hid2
    by_cases hh0:hh=0
    ·have hh0':((hh:Nat):Int)=0:=by omega
     rw[if_pos hh0] at hid2;refine zfn ?_;refine zaG ?_;refine zmJ ?_;refine zgU ?_;refine zeE ?_;rintro _ _ ⟨rfl,y1,h2,rfl⟩;refine zaH ?_;intro b7;refine zF ?_;refine zaE ?_;refine zeD ?_;exact zkX
    ·have hh0': ¬((hh:Nat):Int)=0:=by omega
     rw[if_neg hh0] at hid2
     have hbd:(tl++ [((hh:Nat):Int)]).length≤4294967296:=by simp;omega
     refine zfn ?_;refine zaG ?_;refine zmJ ?_;refine zgU ?_;refine zeE ?_;rintro _ _ ⟨rfl,y1,h2,rfl⟩;refine zaH ?_;intro b7;refine zF ?_;refine zd5 ?_;refine ze ?_;refine zF ?_;refine zaj ?_;intro b49;refine KL.e rfl (Eff.appZ (ys:=[_]) rfl rfl rfl rfl rfl rfl jn (by assumption) (by first|exact Sli.blk jF rfl (by first|decide|simp) (by first|decide|(unfold maxLen;omega)) rfl|exact Sli.old (by assumption)|exact Sli.own jn (by assumption) j6|assumption|exact Sli.part (by assumption) ja) rfl (by first|assumption|omega|(simp<;>fail)|(simp;omega)) rfl) ?_;rintro _ _ ⟨o50,ok50,rfl,rfl⟩;refine zgV ?_;exact zkY
  ·have hc2': ¬((i:Nat):Int)<80:=by omega
   refine zla ?_;refine zT ?_;refine zw ?_;refine zdh ?_;refine za8 ?_;exact zhp
 ·have hc1': ¬((i:Nat):Int)<((l.length:Nat):Int):=by omega
  refine za4 ?_;refine zdi ?_;refine zaO ?_;refine zdh ?_;refine za8 ?_;exact zhp
end
open Go.RowKit Go.ChangeShapes Go.WideShapes Go.ChangeAt Go.Deep Go.Joins
set_option maxRecDepth 100000
theorem jdB {H:Type} {enc:TypeId × Value→H} {W:World} {base:Nat} {v:Value} {d:DataW H} {p:List MemPlace} (ho:Value.okWide Tryz.prog W .any base 26 v) (h:DataW.Trod enc Tryz.prog W 0 (fun _=>true) true 26 v d p):
  ∃ l:List jU,SlW W haE v l∧ ∀ x∈l,J7 x:=slice_sl (P:=Tryz.prog) (E:=haE) Tryz.underlying26 (by kernel_rfl) (by decide) ho h J7 (fun fuel cs x hx hl=>hact_in hx hl)
theorem hact_v {H:Type} {enc:TypeId × Value→H} {W:World} {base:Nat} {v:Value} {d:DataW H} {p:List MemPlace} (ho:Value.okWide Tryz.prog W .any base 37 v) (h:DataW.Trod enc Tryz.prog W 0 (fun _=>true) true 37 v d p):
  ∃ x:jU,v= .agg (acL x).toArray∧J7 x:=by
 obtain⟨cs,rfl,hs⟩:=okWide_struct Tryz.underlying37 ho
 have k6:(Tryz.prog).cellsOf 37=10:=by kernel_rfl
 rw[k6] at hs
 obtain⟨fuel,hf⟩:=h
 obtain⟨l⟩:=cs
 obtain⟨y,hy,hok⟩:=hact_in (cs:=l) (by simpa [Value.cells] using hf) hs
 exact⟨y,by rw[hy];rfl,hok⟩
set_option maxRecDepth 10000
section
variable {C : HpC} {h : HpP} {w j v : Nat} {a b : Int} {y : jg} {hd : HdP}
theorem jfy {x:List Int} {i:Int} (hh:headP x y=some hd) (h1:0≤i) (h2:i<hd.r+hd.w):JR x y i=(decide (i<hd.r),0):=by
 unfold JR jaO;rw[hh];dsimp only[Option.getD_some];rw[if_pos (jaD (jaY hh).2).1,if_neg (by omega)]
theorem jmm {x:List Int} {i:Int} (hh:headP x y=some hd) (h2:hd.r+hd.w≤i):JR x y i=(false,110):=by
 unfold JR jaO;rw[hh];dsimp only[Option.getD_some];rw[if_pos (jaD (jaY hh).2).1,if_pos (by omega)]
theorem jdM {x:List Int} {i:Int} {r:Bool} (hh:headP x y=some hd) (h1:0≤i) (h2:i<hd.r+hd.w) (hr:decide (i<hd.r)=r):fldP x y r i=0:=by
 grind[fldP]
theorem jcs {op:OpP} (hc:op.c≠1) (h1: ¬(op.c<1∨7<op.c)) (hs:hpSlot C.tn h.s.W.T op.h=some ((j:Nat):Int)) (hy:C.g.L[j]?=some y):jt C h op=({(hpOp C h op (j:Nat)).1 with addr:=(y.addr:Nat)},(hpOp C h op (j:Nat)).2):=by
 grind[jt,h1,jC]
theorem fold_some (hs:hpSlot C.tn h.s.W.T w=some ((j:Nat):Int)) (hy:C.g.L[j]?=some y):hpDo C h ⟨7,w,a,b,v⟩=(ja1 C {h with wk:=0} {told 0 with w:=Go.Proofs.YtpcgafhgfjlkmaaGreatDoor.sumP (jaG h.s.W.x y),addr:=(y.addr:Nat)},{h with wk:=0}):=by
 unfold hpDo;rw[jcs (h:={h with wk:=0}) (by grind) (by grind) hs hy];rw[←jC hy]
 rfl
theorem fold_none (hs:hpSlot C.tn h.s.W.T w=none):(hpDo C h ⟨7,w,a,b,v⟩).1.e=130:=by
 grind[jt,told,jaQ]
theorem read_word (hs:hpSlot C.tn h.s.W.T w=some ((j:Nat):Int)) (hy:C.g.L[j]?=some y) (hh:headP h.s.W.x y=some hd) {i:Int} (h1:hd.r≤i) (h2:i<hd.r+hd.w):
  (hpDo C h ⟨2,w,i,b,v⟩).1.e=0∧(hpDo C h ⟨2,w,i,b,v⟩).1.h=0∧(hpDo C h ⟨2,w,i,b,v⟩).1.w=wAt h.s.W.x (fAt y i)∧(hpDo C h ⟨2,w,i,b,v⟩).2={h with wk:=0}:=by
 have hm:=jbm (jaD (jaY hh).2).1
 have hr:hpOp C {h with wk:=0} ⟨2,w,i,b,v⟩ (j:Nat)=({told 0 with w:=wAt h.s.W.x (fAt y i)},{h with wk:=0}):=by
  unfold hpOp JF;dsimp only;rw[if_pos rfl,jC hy,jfy hh (by omega) h2];dsimp only;rw[if_neg (fun q=>q rfl),if_pos (decide_eq_false (by omega))];unfold wordP;rw[if_pos (jdM hh (by omega) h2 (decide_eq_false (by omega)))]
 have e:=jcs (h:={h with wk:=0}) (op:=⟨2,w,i,b,v⟩) (by show 2≠1;decide) (by show ¬(2<1∨7<2);decide) hs hy
 rw[hr] at e;unfold hpDo;rw[e];exact⟨rfl,rfl,rfl,rfl⟩
theorem jiS (hs:hpSlot C.tn h.s.W.T w=some ((j:Nat):Int)) (hy:C.g.L[j]?=some y) (hh:headP h.s.W.x y=some hd) {i:Int} (h1:hd.r≤i) (h2:i<hd.r+hd.w):
  (hpDo C h ⟨3,w,i,b,v⟩).1.e=0∧(hpDo C h ⟨3,w,i,b,v⟩).2=⟨JT C.g h.s (j:Nat) i (v:Nat),h.p,0⟩:=by
 have hm:=jbm (jaD (jaY hh).2).1
 have hf:=jdM hh (r:=false) (by omega) h2 (decide_eq_false (by omega))
 have hr:hpOp C {h with wk:=0} ⟨3,w,i,b,v⟩ (j:Nat)=(told 0,⟨JT C.g h.s (j:Nat) i (v:Nat),h.p,0⟩):=by
  unfold hpOp JZ;dsimp only;rw[if_neg (by decide),if_pos rfl,jC hy,jfy hh (by omega) h2];dsimp only;rw[if_neg (fun q=>q rfl),if_pos (decide_eq_false (by omega))];unfold Jk;rw[if_pos hf]
 have e:=jcs (h:={h with wk:=0}) (op:=⟨3,w,i,b,v⟩) (by show 3≠1;decide) (by show ¬(3<1∨7<3);decide) hs hy
 rw[hr] at e;unfold hpDo;rw[e];exact⟨rfl,rfl⟩
theorem write_out (hs:hpSlot C.tn h.s.W.T w=some ((j:Nat):Int)) (hy:C.g.L[j]?=some y) (hh:headP h.s.W.x y=some hd) {i:Int} (h2:hd.r+hd.w≤i):
  (hpDo C h ⟨3,w,i,b,v⟩).1.e=110:=by
 have hr:hpOp C {h with wk:=0} ⟨3,w,i,b,v⟩ (j:Nat)=(told 110,{h with wk:=0}):=by
  grind[hpOp,JZ,jC,jmm,h2]
 have e:=jcs (h:={h with wk:=0}) (op:=⟨3,w,i,b,v⟩) (by grind) (by grind) hs hy
 rw[hr] at e;rw[jaQ,e]
 rfl
theorem write_h (hs:hpSlot C.tn h.s.W.T w=some ((j:Nat):Int)) (hy:C.g.L[j]?=some y) {i:Int} (h0:(hpDo C h ⟨3,w,i,b,v⟩).1.e=0):
  (hpDo C h ⟨3,w,i,b,v⟩).1.h=0∧(hpDo C h ⟨3,w,i,b,v⟩).1.w=0∧(hpDo C h ⟨3,w,i,b,v⟩).1.addr=(y.addr:Nat):=by
 have e:=jcs (h:={h with wk:=0}) (op:=⟨3,w,i,b,v⟩) (by grind) (by grind) hs hy
 have hw: ∀ (g:HpP) (sl a:Int),(JZ C g sl a v).1.h=0∧(JZ C g sl a v).1.w=0:=fun g sl a=>by
  unfold JZ
  repeat' split
  all_goals exact⟨rfl,rfl⟩
 grind[hpOp,JZ,hpDo,ja1,jaQ]
theorem wordsX_at {x:List Int} (hh:headP x y=some hd):jaG x y=(List.range hd.w.toNat).map fun i=>wAt x (fAt y (hd.r+((i:Nat):Int))):=by
 have hm:=jbm (jaD (jaY hh).2).1
 unfold jaG;rw[hh]
 refine List.map_congr_left fun i hi=>?_
 grind[hi,wordP,jdM]
theorem jiT (hC:jk C) (hI:HeI C h) (hy:C.g.L[j]?=some y) (hh:headP h.s.W.x y=some hd) {i:Int} (h1:hd.r≤i) (h2:i<hd.r+hd.w):(JT C.g h.s (j:Nat) i (v:Nat)).W.T=h.s.W.T∧headP (JT C.g h.s (j:Nat) i (v:Nat)).W.x y=some hd∧wAt (JT C.g h.s (j:Nat) i (v:Nat)).W.x (fAt y i)=(v:Nat):=by
 have hm:=jbm (jaD (jaY hh).2).1
 have hf:=jdM hh (r:=false) (by omega) h2 (decide_eq_false (by omega))
 have hin:=JQ hf
 have hfit:=hC.g.fits hy
 have hx:=hI.ok.w.x
 refine⟨rfl,?_,?_⟩
 ·show headP (Jk h.s.W.x (ju C.g (j:Nat)) i (v:Nat)).2 y=_
  rw[jC hy,jdg (jev hC.g hy hy)];omega
 ·show wAt (Jk h.s.W.x (ju C.g (j:Nat)) i (v:Nat)).2 _=_
  grind[Jk,jC,jd4]
end
open Go.RowKit
set_option maxRecDepth 10000
structure AdS where
 i:Nat
 A:jb
theorem jh5 {g:PlG} (ok:jc g) {s:Nat} {x:jg} (h:g.L[s]?=some x): ∃ c j i:Nat,c<g.m∧j<g.pgs c∧x.page=g.page c+j∧x.size=g.y c∧i<g.mp (g.page c+j)∧s=g.fp (g.page c+j)+i∧x.addr=(g.page c+j)*g.pg+i*g.y c:=by
 obtain⟨k,d,hk,hd,rfl,rfl⟩:=L_at h
 have h2:=ok.inpg hk hd
 have h3:=ok.per hk
 have h4:=Nat.div_add_mod d (g.per k)
 have h5:=Nat.mod_lt d (show 0<g.per k by omega)
 rw[Nat.mul_comm] at h4;refine⟨k,d/g.per k,d%g.per k,hk,h2,rfl,rfl,?_,?_,rfl⟩
 ·rw[mp_at hk h2]
  omega
 ·rw[jdS hk h2]
  omega
section
variable {w0 : World} {F : jb}
theorem jhR {H:jb} {b:Nat} {k:Int}:
  Call Tryz.prog w0 115 [.pointer (some ⟨b,0,none⟩), .int .i64 k] H (fun u H'=> ∃ c1 c2,u= .func (.func 158) #[] [.pointer (some ⟨c1,0,none⟩), .pointer (some ⟨c2,0,none⟩)].toArray∧H'=(c1,cells [.pointer (some ⟨b,0,none⟩)] 102)::(c2,cells [.int .i64 k] 3)::H):=by
 refine Call.enter2 (n:=6) (by kernel_rfl) Tryz.func115 rfl rfl rfl ?_;refine zaU ?_;intro b2 b3;refine zu ?_;refine zbF ?_;refine zf ?_;exact KE.fin je rfl jd ja ⟨b2,b3,rfl,rfl⟩
set_option maxHeartbeats 2000000 in
theorem jhQ {A0:jb} {p:jQ} {c1 c2 c j k:Nat} {yv:Value} (ok:J6 p) (hc:c<p.g.m) (hj:j<p.g.pgs c) (hk:k=p.g.page c+j) (J:Nat→jb→Prop) (E:jb→Prop)
  (hy: ∀ i A F,J i A→i<p.g.mp k→CallV Tryz.prog w0 yv [.int .i64 (p.g.fp k+i:Nat), .int .i64 (k*p.g.pg+i*p.g.y c:Nat)] (A++F)
   (fun u H'=>(u= .bool true∧ ∃ A',J (i+1) A'∧H'=A'++F)∨(u= .bool false∧ ∃ A',E A'∧H'=A'++F)))
  (h0:J 0 A0):
  Call Tryz.prog w0 158 [yv, .pointer (some ⟨c1,0,none⟩), .pointer (some ⟨c2,0,none⟩)] (A0++((c1,cells [.pointer (some ⟨p.b,0,none⟩)] 102)::(c2,cells [.int .i64 (k:Nat)] 3)::(planH p++F)))
   (fun _ H'=> ∃ A',H'=A'++((c1,cells [.pointer (some ⟨p.b,0,none⟩)] 102)::(c2,cells [.int .i64 (k:Nat)] 3)::(planH p++F))∧(J (p.g.mp k) A'∨E A')):=by
 have hkp:k<p.g.pages:=by
  have hpp:=jbD (n:=p.g.pgs) hc
  subst hk
  show _<jz p.g.pgs p.g.m
  have:jz p.g.pgs c=p.g.page c:=rfl
  omega
 have hpb:=ok.g.pages
 have hmb:=jcB ok.g hkp
 have hpg:=ok.g.pg
 have hyc:=ok.g.y c hc
 have hin:=fun A=>pin_K (w0:=w0) (F:=A) ok hc hj
 have hIn:=fun A=>In_K (w0:=w0) (F:=A) ok hkp
 rw[←hk] at hin
 have hfb:p.g.fp k≤20000:=by
  have h1:=ok.g.first (Nat.le_of_lt hc)
  have h2:=ok.g.n hc
  have h3:=(jeU ok.g hc).1 hj
  rw[hk,jdS hc hj]
  omega
 obtain⟨m,hm⟩: ∃ m,p.g.mp k=m:=⟨_,rfl⟩
 obtain⟨f,hf⟩: ∃ f,p.g.fp k=f:=⟨_,rfl⟩
 obtain⟨m1,hm1⟩: ∃ q,q=k*p.g.pg:=⟨_,rfl⟩
 have e1:((k:Nat):Int)*((p.g.pg:Nat):Int)=((m1:Nat):Int):=by rw[hm1];rfl
 have hm1b:m1≤1048576:=by rw[hm1];exact Nat.le_trans (Nat.mul_le_mul (show k≤16384 by omega) hpg) (by decide)
 rw[←hm1] at hy;simp only[hm] at hy hIn hmb⊢;simp only[hf] at hy hIn hfb
 obtain⟨pt,hpt⟩: ∃ pt,pt=p.g.pt c:=⟨_,rfl⟩
 have hp1:pt.size=p.g.y c:=by rw[hpt];rfl
 rw[←hpt] at hin;rw[←hp1] at hy hyc
 obtain⟨sz,fi,ma,pa,pe⟩:=pt
 unfold jck at hin;dsimp only at hin hy hyc;clear hpt hp1 hm hf hm1;refine Call.enter3 (n:=45) (by kernel_rfl) Tryz.func158 rfl rfl rfl ?_;refine zy ?_;refine zp ?_;refine zV ?_;refine ji (hIn _) ja ?_;refine za9 ?_;refine zu ?_;refine zp ?_;refine zV ?_;refine ji (hin _) ja ?_;refine zaX ?_;intro b7;refine zcA ?_;refine zcH ?_;refine zmy ?_;rintro⟨i,A⟩ ⟨hJ,hi⟩;dsimp only at hJ hi⊢
 by_cases hlt:i<m
 ·have hlt':((i:Nat):Int)<((m:Nat):Int):=by omega
  obtain⟨m2,hm2⟩: ∃ q,q=i*sz:=⟨_,rfl⟩
  have e2:((i:Nat):Int)*((sz:Nat):Int)=((m2:Nat):Int):=by rw[hm2];rfl
  have hm2b:m2≤1048576:=by rw[hm2];exact Nat.le_trans (Nat.mul_le_mul (show i≤64 by omega) (show sz≤64 by omega)) (by decide)
  have e3:((f:Nat):Int)+((i:Nat):Int)=((f+i:Nat):Int):=by omega
  have e4:((m1:Nat):Int)+((m2:Nat):Int)=((m1+m2:Nat):Int):=by omega
  have hyi:=fun F=>hy i A F hJ hlt
  rw[←hm2] at hyi;simp only[jO];refine zaN ?_;refine zbe ?_;refine zcW ?_;refine zmz ?_;refine zbf ?_;refine zj ?_;refine zgx ?_;refine zS ?_;refine zS ?_;refine zbd ?_;refine zew ?_;refine zS ?_;refine zhr ?_;refine zj ?_;refine zfa ?_;refine zS ?_;refine zhr ?_;refine zgx ?_;refine zl fun T hT=>?_;rw[e1,e2,e3,e4];refine(hyi _).mono ?_;rintro _ _ (⟨rfl,A',hJ',rfl⟩|⟨rfl,A',hE',rfl⟩)
  ·refine zg ?_;clear hT T;refine zmA ?_;refine zD ?_;refine zbH ?_;refine zcS ?_;exact zmB
  ·refine zg ?_;clear hT T
   --nothing is left
   refine ze3 ?_;refine zD ?_;refine KE.next (K.condT rfl ?_);refine zdr ?_;refine zbE ?_;refine zbS ?_;exact zmC
 ·have hge: ¬((i:Nat):Int)<((m:Nat):Int):=by omega
  obtain rfl:i=m:=by omega
  refine ziA ?_;exact KE.finN je rfl jd ja ⟨A,rfl, .inl hJ⟩
set_option maxHeartbeats 2000000 in
theorem At0_K {p:jQ} {s:Nat} {x:jg} (ok:J6 p) (hx:p.g.L[s]?=some x):
  Call Tryz.prog w0 75 [.pointer (some ⟨p.b,0,none⟩), .int .i64 (x.addr:Nat)] (planH p++F) (fun r H'=>r= .tuple [.int .i64 (s:Nat), .int .i64 0].toArray∧H'=planH p++F):=by
 obtain⟨f1,f2,f3,f4,f5,f6,f7⟩:=ok.g.fits hx
 have hwb:=ok.g.words
 have hpg:=ok.g.pg
 have hpg1:=ok.g.pg1
 obtain⟨c,j,i0,hc,hj,hpa,hsz,hi0,hs,ha⟩:=jh5 ok.g hx
 have hyc:=ok.g.y c hc
 obtain⟨k,hk⟩: ∃ k,k=p.g.page c+j:=⟨_,rfl⟩
 rw[←hk] at hpa hi0 hs ha
 have hdiv:x.addr/p.g.pg=k:=by
  rw[hpa] at f5 f6;exact Nat.div_eq_of_lt_le (by rw[Nat.mul_comm];rw [Nat.mul_comm] at f5;exact f5) (by omega)
 have hdiv':((x.addr:Nat):Int)/((p.g.pg:Nat):Int)=((k:Nat):Int):=by rw[←hdiv];rfl
 have hne0: ¬((p.g.pg:Nat):Int)=0:=by omega
 have hnem: ¬((p.g.pg:Nat):Int)= -1:=by omega
 have hlo: ¬((x.addr:Nat):Int)<0:=by omega
 have hhi: ¬((x.addr:Nat):Int)≥((p.g.words:Nat):Int):=by omega
 obtain⟨ad,had⟩: ∃ ad,x.addr=ad:=⟨_,rfl⟩
 simp only[had] at hdiv' hlo hhi ha⊢;refine Call.enter2 (n:=34) (by kernel_rfl) Tryz.func75 rfl rfl rfl ?_;refine zdX ?_;intro b3 b4;refine zaD ?_;intro b5;refine zaP ?_;refine ji (jfK ok) ja ?_;refine zk ?_;refine zg3 ?_;refine zmD ?_;refine zP ?_;refine zjY ?_;refine zhc ?_;refine zbt ?_;refine zcb fun T hT=>?_;refine(CallV.part (CallV.fn (jhT ok)) ja).mono ?_;rintro _ _ ⟨rfl,rfl⟩;refine zg ?_;clear hT T;simp only[jO];refine ziW ?_;refine zbV ?_;refine zb0 ?_;refine zbH ?_;refine zbD ?_;refine KE.next (K.seq (K.seq ?_));refine zmE ?_;refine zj ?_;refine zP ?_;refine zdD ?_;refine KD.v0 rfl rfl (Val.quoN rfl rfl (by simp only[qL,qH];omega)) ?_;refine zl fun T hT=>?_;rw[hdiv'];refine(CallV.fn (jhR)).mono ?_;rintro _ _ ⟨c1,c2,rfl,rfl⟩;refine zg ?_;clear hT T;refine zD ?_;refine KE.next (K.block ?_);refine K.rangeFunc (lb:=[.pointer (some ⟨c1,0,none⟩), .pointer (some ⟨c2,0,none⟩)]) rfl
  (fun D G=>False)
  (fun D c G=>c= .ret∧G=(D, .deferred (some []))::(b5,cells [.int .i64 0] 40)::(b4,cells [.int .i64 (s:Nat)] 3)::(b3,cells [.int .i64 (ad:Nat)] 3)::(planH p++F)) ?_ ?_ ?_
 ·intro l D rc hyl
  refine(Call.part (jhQ (F:=F) (c1:=c1) (c2:=c2) ok hc hj hk
   (fun i A=>A=(l, .loop (rc .ready none))::(D, .deferred (some []))::(b5,cells [.int .i64 0] 40)::(b4,cells [.int .i64 0] 3)::(b3,cells [.int .i64 (ad:Nat)] 3)::[]∧i≤i0)
   (fun A=>A=(l, .loop (rc .done (some .ret)))::(D, .deferred (some []))::(b5,cells [.int .i64 0] 40)::(b4,cells [.int .i64 (s:Nat)] 3)::(b3,cells [.int .i64 (ad:Nat)] 3)::[])
   (A0:=(l, .loop (rc .ready none))::(D, .deferred (some []))::(b5,cells [.int .i64 0] 40)::(b4,cells [.int .i64 0] 3)::(b3,cells [.int .i64 (ad:Nat)] 3)::[]) ?_ ⟨rfl,Nat.zero_le _⟩) (by simp only[List.cons_append,List.nil_append,jO];exact ja)).mono ?_
  ·rintro i A F ⟨rfl,hi⟩ him;refine ziz ?_;refine ziD ?_;refine zge ?_;refine K.block ?_
   by_cases hii:i=i0
   ·subst hii;rw[←ha,←hs];refine za7 ?_;refine zp ?_;refine zJ ?_;refine zf9 ?_;refine zO ?_;refine zcl ?_;refine zbS ?_;refine zmF ?_;exact KE.roundR j3.head (.inr ⟨rfl,_,rfl,rfl⟩)
   ·have hmul:i*p.g.y c+p.g.y c≤i0*p.g.y c:=by
     rw[←Nat.succ_mul];exact Nat.mul_le_mul_right _ (by omega)
    have hnea: ¬((k*p.g.pg+i*p.g.y c:Nat):Int)=((ad:Nat):Int):=by omega
    refine za7 ?_;refine zeK ?_;refine zis ?_;refine zmG ?_;exact KE.roundN j3.head (.inl ⟨rfl,_,⟨rfl,by omega⟩,rfl⟩)
  ·rintro _ _ ⟨A',rfl,(⟨rfl,hi⟩|rfl)⟩
   ·omega
   ·refine .inr ⟨.ret,_,?_,rfl,rfl⟩;exact zf0
 ·rintro D G h;exact h.elim
 ·rintro D c G ⟨rfl,rfl⟩;refine zdr ?_;exact zhX
end
set_option maxRecDepth 10000
section
variable {w0 : World} {F : jb} {D : HpD} {y : CyM} {h : HpP} {nf nk n : Nat} {z : jg}
theorem cAt_K {g:PlG} {long:Nat} {s:CyP} (h:CpR g long y s) (hz:g.L[n]?=some z):Call Tryz.prog w0 75 [.pointer (some ⟨y.B.p.b,0,none⟩), .int .i64 (z.addr:Nat)] (cycH y++F) (fun r H'=>r= .tuple [.int .i64 (n:Nat), .int .i64 0].toArray∧H'=cycH y++F):=
 Call.ro (w0:=w0) (A:=planH y.B.p) (H:=cycH y++F) (fun F=>At0_K (F:=F) h.p.bo.p (by rw[h.eg];exact hz)) (by rw[cycH_app];exact ja)
theorem hyAt_K (h1:HpR D nf nk y h) (hz:D.C.g.L[n]?=some z):Call Tryz.prog w0 75 [.pointer (some ⟨D.pb,0,none⟩), .int .i64 (z.addr:Nat)] (hpH D y h++F) (fun r H'=>r= .tuple [.int .i64 (n:Nat), .int .i64 0].toArray∧H'=hpH D y h++F):=
 h1.lift0 fun A=>by have:=cAt_K (w0:=w0) (F:=A) h1.p hz;rw [h1.pl] at this;exact this
theorem jmi (h1:HpR D nf nk y h) (hz:D.C.g.L[n]?=some z):Call Tryz.prog w0 41 [.pointer (some ⟨D.b,0,none⟩), .int .i64 (z.addr:Nat)] (hpH D y h++F) (fun r H'=>r= .int .i64 (n:Nat)∧H'=hpH D y h++F):=by
 refine Call.enter2 (n:=18) (by kernel_rfl) Tryz.func41 rfl rfl rfl ?_;refine zbB ?_;refine ji (jbC (D:=D) (y:=y) (h:=h)) ja ?_;refine zn ?_;refine ji (jcv h1) ja ?_;refine zo ?_;refine ji (hyAt_K h1 hz) ja ?_;refine zbA ?_;refine zaG ?_;exact zt
end
open Go.RowKit
set_option maxRecDepth 10000
theorem fl_kind (n:Nat):fl n=none↔n/4503599627370496%2048=2047∧n%4503599627370496≠0:=by
 rw[fl_none];omega
theorem Kind_K {w0:World} {H:jb} {n:Nat} (hn:n<18446744073709551616):
  Call Tryz.prog w0 161 [.int .u64 n] H (fun r H'=> ∃ (k:Int) (b:Bool),(k=0↔fl n=none)∧r= .tuple [.int .u8 k, .bool b].toArray∧H'=H):=by
 have hsh:(n:Int).fdiv (2^(min (Int.toNat 52) IntKind.u64.bits))=((n/4503599627370496:Nat):Int):=by
  have e:(2:Int)^min (Int.toNat 52) IntKind.u64.bits=4503599627370496:=by decide
  rw[e,Int.fdiv_eq_ediv_of_nonneg _ (by omega)];omega
 have hsh0:0≤(n:Int).fdiv (2^(min (Int.toNat 52) IntKind.u64.bits)):=by rw[hsh];omega
 have hk:=fl_kind n
 obtain⟨e,he⟩: ∃ e:Nat,e=n/4503599627370496%2048:=⟨_,rfl⟩
 obtain⟨m,hm⟩: ∃ m:Nat,m=n%4503599627370496:=⟨_,rfl⟩
 have he':((n/4503599627370496:Nat):Int)%2048=(e:Int):=by omega
 have hm':(n:Int)%4503599627370496=(m:Int):=by omega
 rw[←he,←hm] at hk;refine Call.enter1 (n:=32) (by kernel_rfl) Tryz.func161 rfl rfl rfl ?_;refine za6 ?_;refine ze ?_;refine zdK ?_;refine KL.v rfl (Val.eql rfl rfl) ?_;refine zcA ?_;refine zdK ?_;refine KL.v rfl (Val.remN rfl rfl (by omega)) ?_;refine ze ?_;refine KL.v rfl (Val.remN rfl rfl (by omega)) ?_;refine zch ?_;refine zaY ?_;rw[hsh,he',hm']
 by_cases h1:(e:Int)=2047
 ·by_cases h2:(m:Int)=0
  ·have h2': ¬(m:Int)≠0:=by omega
   refine zaA ?_;refine zd8 ?_;refine zaE ?_;refine zw ?_;refine zfr ?_;refine zJ ?_;refine zgP ?_;refine zas ?_;exact KE.fin je rfl jd ja ⟨1,_,⟨fun h=>by omega,fun h=>by have:=(hk.1 h).2;omega⟩,rfl,rfl⟩
  ·have h2':(m:Int)≠0:=h2
   refine zaA ?_;refine zd8 ?_;refine zag ?_;refine zw ?_;refine zgP ?_;refine zas ?_;exact KE.fin je rfl jd ja ⟨0,_,⟨fun _=>hk.2 ⟨by omega,by omega⟩,fun _=>rfl⟩,rfl,rfl⟩
 ·have hnn:fl n≠none:=fun h=>by have:=(hk.1 h).1;omega
  by_cases h3:(e:Int)≠0
  ·refine K.seq ?_;refine za7 ?_;refine zG ?_;refine zaO ?_;refine zfr ?_;refine zG ?_;refine zfr ?_;refine zdy ?_;refine zas ?_;exact KE.fin je rfl jd ja ⟨2,_,⟨fun h=>by omega,fun h=>absurd h hnn⟩,rfl,rfl⟩
  ·by_cases h4:(m:Int)≠0
   ·refine K.seq ?_;refine za7 ?_;refine zG ?_;refine zaO ?_;refine zfr ?_;refine zG ?_;refine zfr ?_;refine zaE ?_;refine zfr ?_;refine zdy ?_;refine zas ?_;exact KE.fin je rfl jd ja ⟨3,_,⟨fun h=>by omega,fun h=>absurd h hnn⟩,rfl,rfl⟩
   ·refine K.seq ?_;refine za7 ?_;refine zG ?_;refine zaO ?_;refine zfr ?_;refine zG ?_;refine zfr ?_;refine zaE ?_;refine zfr ?_;refine zaE ?_;refine zaG ?_;refine zaI ?_;exact KE.fin je rfl jd ja ⟨4,_,⟨fun h=>by omega,fun h=>absurd h hnn⟩,rfl,rfl⟩
theorem nan_K {w0:World} {H:jb} {n:Nat} (hn:n<18446744073709551616):
  Call Tryz.prog w0 116 [.int .u64 n] H (fun r H'=>r= .bool (fl n).isNone∧H'=H):=by
 refine Call.enter1 (n:=12) (by kernel_rfl) Tryz.func116 rfl rfl rfl ?_;refine zf2 ?_;refine zq fun T hT=>?_;refine(CallV.fn (Kind_K hn)).mono ?_;rintro _ _ ⟨k,b,hk,rfl,rfl⟩
 by_cases h0:k=0
 ·have:(fl n).isNone=true:=by rw[hk.1 h0];rfl
  refine zd ?_;clear hT T;refine zcZ ?_;refine zfu ?_;refine zk3 ?_;exact KE.fin je rfl jd ja ⟨by rw[this];rfl,rfl⟩
 ·have:(fl n).isNone=false:=by
   cases h:fl n with
   |none=>exact absurd (hk.2 h) h0
   |some c=>rfl
  refine zd ?_;clear hT T;refine zcZ ?_;refine zG ?_;refine zf ?_;exact KE.fin je rfl jd ja ⟨by rw[this];rfl,rfl⟩
theorem RCanon_K {w0:World} {H:jb} {n:Nat} (hn:n<18446744073709551616):
  Call Tryz.prog w0 77 [.int .u64 n] H (fun r H'=>r= .int .u64 (canonN (fl n))∧H'=H):=by
 refine Call.enter1 (n:=6) (by kernel_rfl) Tryz.func77 rfl rfl rfl ?_;refine zaa ?_;refine zq fun T hT=>?_;refine(CallV.fn (nan_K hn)).mono ?_;rintro _ _ ⟨rfl,rfl⟩
 cases hf:fl n with
 |none=>
  refine zd ?_;clear hT T;exact zf7
 |some c=>
  have hc:=jf9 hf
  subst hc;refine zd ?_;clear hT T;refine zaG ?_;refine zf ?_;exact ze4
structure RSuS where
 k:Nat
 r:Nat
theorem RSum_K {w0:World} {H:jb} {v:Value} {l:List Int} (hS:Sli w0 H uE v l) (hl:l.length≤1000000) (hb: ∀ x∈l,0≤x∧x<18446744073709551616):
  Call Tryz.prog w0 42 [v] H (fun r H'=>r= .int .u64 (Go.Proofs.YtpcgafhgfjlkmaaGreatDoor.sumP l)∧H'=H):=by
 refine Call.enter1 (n:=28) (by kernel_rfl) Tryz.func42 rfl rfl rfl ?_
 cases l with
 |nil=>
  have h0:((List.length ([]:List Int):Nat):Int)=0:=rfl
  refine zfF ?_;refine zJ ?_;exact zdv
 |cons x l=>
  have hx:(x::l)[0]?=some x:=rfl
  have hx0:(x::l)[Int.toNat 0]?=some x:=rfl
  have hne: ¬(((x::l).length:Nat):Int)=0:=by simp only[List.length_cons];omega
  have hl':l.length≤1000000:=by simp only[List.length_cons] at hl;omega
  have hxb:=hb x (.head _)
  refine zfF ?_;refine zG ?_;refine zaG ?_;refine zhK ?_;refine z8 ?_;refine zq fun T hT=>?_;refine(jgN x).mono ?_;rintro _ H ⟨rfl,rfl⟩;refine zd ?_;clear hT T;refine zcn ?_;refine K.loopT (σ:=RSuS) [(0,_)] (fun s kp_=>(4, .int .i64 (s.k:Nat))::(3, .float .f64 s.r)::kp_) (fun s=>H) (fun s=>1≤s.k∧s.k≤(x::l).length∧s.r<18446744073709551616∧fl s.r=(l.take (s.k-1)).foldl (fun a w=>addF a (fl w.toNat)) (fl x.toNat)) (fun s=>(x::l).length-s.k) (⟨1,x.toNat⟩) jj ja (⟨by simp,by simp,by dsimp only;omega,by simp⟩) ?_;rintro⟨k,r⟩ ⟨hk1,hk,hrb,hr⟩;dsimp only at hk1 hk hrb hr⊢
  by_cases hlt:k<(x::l).length
  ·obtain⟨y,hy⟩:=jA hlt
   have hy2:l[k-1]?=some y:=by rw[show k=(k-1)+1 by omega] at hy;simpa using hy
   refine zde ?_;refine zkd ?_;refine zeG ?_;refine z8 ?_;refine zq fun T hT=>?_;refine(jgN y).mono ?_;rintro _ H ⟨rfl,rfl⟩;refine zd ?_;clear hT T;refine KL.e rfl (Eff.fadd rfl rfl) ?_;rintro _ _ ⟨f24,fb24,fe24,rfl,rfl⟩;refine zgV ?_;exact KE.again ⟨k+1,f24⟩ jj ja ⟨by show 1≤k+1;omega,by show k+1≤_;omega,fb24,by show fl f24=(l.take (k+1-1)).foldl _ _;rw [fe24,hr,show k+1-1=(k-1)+1 by omega,jca hy2,List.foldl_append];rfl⟩ (by show(x::l).length-(k+1)<(x::l).length-k;omega)
  ·have hkl:l.take (k-1)=l:=List.take_of_length_le (by simp only[List.length_cons] at hlt;omega)
   rw[hkl] at hr;refine za4 ?_;refine zcV ?_;refine zx fun T hT=>?_;refine(bits_V r).mono ?_;rintro _ H ⟨rfl,rfl⟩;refine zd ?_;clear hT T;refine zq fun T hT=>?_;refine(CallV.fn (RCanon_K hrb)).mono ?_;rintro _ H ⟨rfl,rfl⟩;refine zd ?_;clear hT T;refine zf ?_;exact KE.fin je rfl jd ja ⟨by rw[hr];rfl,rfl⟩
end Go.Proofs.YtpcgafhgfjlkmaaGreatDoor.Sw
