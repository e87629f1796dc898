/-What the law needs of its own,part 1. -/
import Derived.Test.YtpcgafhgfjlkmaaGreatDoorD1
import Derived.WalkKit
import Derived.ProofKit
import Derived.RangeFuncNested
import Derived.RangeFuncBound
import Derived.RangeFuncCalls
import Derived.RangeFuncLeaves
import Derived.Lib.Hide
import Derived.Sort.BigQuietIn
import Derived.Deep.Quiet
import Derived.StillTailTactics
import Derived.Deep.LoopGhost
import Derived.Laws.Cells
import Derived.OrdersIn
import Derived.Deep.OwnRows
import Derived.Laws.CopyOwn
import Derived.IntWalk
import Derived.ArgAppend
import Derived.Deep.Slices
import Derived.Deep.Fields
import Derived.Laws.IdiomStrings
import Derived.Laws.StructEq
import Derived.Maps.RangeRun
import Derived.Laws.Externs
import Derived.Laws.FloatArith
import Derived.Laws.NewFold
import Derived.RecoverIn
import Derived.Shelf.Strconv.Itoa0
import Derived.Shelf.Bits.Mul64
import Derived.Shelf.Slices.Turned
import Derived.Test.YtpcgafhgfjlkmaaGreatDoorProg
import Derived.SizedLaws
import Derived.Lib.SmallJoins
import Derived.ChangeMaps5
import Derived.Lib.TrailingZeros
import Derived.Lib.BitFns
import Derived.Shelf.Spec.TrailingZeros
import Derived.Test.YtpcgafhgfjlkmaaGreatDoorRows
import Derived.OpenShut
import Derived.LaidMore
import Derived.Lay
import Derived.LaidHandle
import Derived.Test.YtpcgafhgfjlkmaaGreatDoorJ39
set_option linter.unusedVariables false set_option linter.unusedSimpArgs false namespace Go.Proofs.YtpcgafhgfjlkmaaGreatDoor
set_option maxHeartbeats 8000000
open Go.RowKit Go.ChangeShapes Go.WideShapes Go.ChangeAt Go.Deep Go.Joins
set_option linter.unusedVariables false
set_option maxRecDepth 100000
def jaJ (z:Int):Prop:=0≤z∧z≤18446744073709551615
def u8ok (z:Int):Prop:=0≤z∧z≤255
theorem jbF {z:Int} (h:(Lit.int .u64 z).wf=true):jaJ z:=by simpa [Lit.wf,IntKind.min,IntKind.max,IntKind.signed,IntKind.bits,jaJ] using h
theorem wf_u8 {z:Int} (h:(Lit.int .u8 z).wf=true):u8ok z:=by simpa [Lit.wf,IntKind.min,IntKind.max,IntKind.signed,IntKind.bits,u8ok] using h
end Go.Proofs.YtpcgafhgfjlkmaaGreatDoor
set_option linter.unusedSimpArgs false
namespace Go.Proofs.YtpcgafhgfjlkmaaGreatDoor.Sw
open Go.Proofs.YtpcgafhgfjlkmaaGreatDoor renaming lo → qL, hi → qH
open Go.RowKit
set_option maxRecDepth 10000
section
variable {C : HpC} {wr : Bool} {h h' : HpP} {s s' : CyP} {n : Nat}
theorem jaQ {op:OpP}:(hpDo C h op).1.e=(jt C {h with wk:=0} op).1.e:=by
 unfold hpDo ja1
 split<;>rfl
end
set_option maxRecDepth 10000
section
variable {w0 : World} {F : jb} {t : TbM}
theorem jgE (ok:TbOk t):Call Tryz.prog w0 64 [.pointer (some ⟨t.b,0,none⟩), .int .i64 1] (jy t++F) (fun r H'=>r= .int .i64 (cntP 1 t.l:Nat)∧H'=jy t++F):=by
 refine Call.enter2 (n:=13) (by rfl) Tryz.func64 rfl rfl rfl ?_;refine zY ?_;refine zcL ?_;refine zhE ?_;refine zbn ?_;refine ze1 ?_;refine zcQ ?_;exact zaK
theorem jhk (ok:TbOk t):Call Tryz.prog w0 32 [.pointer (some ⟨t.b,0,none⟩)] (jy t++F) (fun r H'=>r= .int .i64 (cntP 1 t.l:Nat)∧H'=jy t++F):=by
 refine Call.enter1 (n:=5) (by rfl) Tryz.func32 rfl rfl rfl ?_;refine zbB ?_;refine ji (jgE ok) ja ?_;refine zf ?_;exact zaK
end
set_option maxRecDepth 10000
section
variable {w0 : World} {F : jb} {t : TbM}
theorem jlr (ok:TbOk t):Call Tryz.prog w0 33 [.pointer (some ⟨t.b,0,none⟩)] (jy t++F) (fun r H'=>r= .int .i64 (cntP 3 t.l:Nat)∧H'=jy t++F):=by
 refine Call.enter1 (n:=5) (by kernel_rfl) Tryz.func33 rfl rfl rfl ?_;refine zbB ?_;refine ji (jk6 (k:=3) ok (by decide)) ja ?_;refine zf ?_;exact zaK
end
open Go.RowKit
set_option maxRecDepth 10000
section
variable {w0 : World} {D : HpD} {nf nk n : Nat} {y y' : CyM} {h : HpP} {s s' : CyP} {F G : jb} {op : OpP} {z : jg}
theorem jbC:Call Tryz.prog w0 17 [.pointer (some ⟨D.b,0,none⟩)] (hpH D y h++F) (fun r H'=>r= .pointer (some ⟨D.yb,0,none⟩)∧H'=hpH D y h++F):=by
 have hnone:=fun A=>jb5 (w0:=w0) (D:=D) (y:=y) (h:=h) (F:=A)
 refine zfX ?_;refine zfN ?_;refine za2 ?_;exact zfM
end
set_option maxRecDepth 10000
theorem jdy {T:List Int} {i:Int} {d:Nat} (h: ¬(0≤i∧0<T.length)):pickT T i d=d:=if_neg h
section
variable {w0 : World} {F : jb} {x : jU} {T : List Int} {v : Value}
set_option maxHeartbeats 1000000 in
theorem op_K (hx:J7 x) (hS:Sli w0 F uE v T) (hT:u64s T):Call Tryz.prog w0 15 [.agg (acL x).toArray,v] F (fun r H'=>r=opV (opA x T)∧H'=F):=by
 obtain⟨⟨c,h,a,b,vv⟩,H,V,wk,k,u⟩:=x
 unfold acL opV opA;dsimp only
 by_cases hl:0<T.length
 ·have hl0:((T.length:Nat):Int)>0:=by omega
  have hl1: ¬((T.length:Nat):Int)=0:=by omega
  by_cases hH:0≤H
  ·have hH':H≥0:=hH
   obtain⟨i,e,i1,i2,i3,i4⟩:=pick_at hT hH hl h
   have i3':T[((i:Nat):Int).toNat]?=some ((e:Nat):Int):=i3
   rw[i4]
   by_cases hV:0≤V
   ·have hV':V≥0:=hV
    obtain⟨j,f,j1q,j2,j3q,j4q⟩:=pick_at hT hV hl vv
    have j3':T[((j:Nat):Int).toNat]?=some ((f:Nat):Int):=j3q
    rw[j4q];refine Call.enter2 (n:=43) (by kernel_rfl) Tryz.func15 rfl rfl rfl ?_;refine zit ?_;intro b2 b4;refine zaZ ?_;refine z3 ?_;refine zfd ?_;intro b5;refine zdH ?_;refine zca ?_;refine zp ?_;refine zaz ?_;refine zA ?_;refine zcx ?_;refine zbs ?_;refine zw ?_;refine zcI ?_;refine zdC ?_
    (first|(refine KL.v rfl (Val.fieldSl (k:=5) rfl rfl) ?_)|(refine KL.v rfl (Val.fieldAddr0 (k:=5) rfl rfl) ?_)|(refine KL.v rfl (Val.fieldAddrZ rfl rfl) ?_)|(refine KL.v rfl (Val.fieldAddr (k:=5) rfl rfl) ?_))
    refine zbo ?_;refine ze ?_;refine zjO ?_
    (first|(refine KL.v rfl (Val.remN rfl rfl (by omega)) ?_)|(refine KL.v rfl (Val.rem rfl rfl (by omega)) ?_))
    rw[i1];refine zk1 ?_;refine zbo ?_;refine zc7 ?_;refine zfW ?_;refine zdH ?_;refine zbI ?_;refine zp ?_;refine zaz ?_;refine zA ?_;refine zcx ?_;refine zbs ?_;refine zw ?_;refine zcI ?_;refine zdC ?_
    (first|(refine KL.v rfl (Val.fieldSl (k:=6) rfl rfl) ?_)|(refine KL.v rfl (Val.fieldAddr0 (k:=6) rfl rfl) ?_)|(refine KL.v rfl (Val.fieldAddrZ rfl rfl) ?_)|(refine KL.v rfl (Val.fieldAddr (k:=6) rfl rfl) ?_))
    refine zbo ?_;refine ze ?_;refine zjO ?_
    (first|(refine KL.v rfl (Val.remN rfl rfl (by omega)) ?_)|(refine KL.v rfl (Val.rem rfl rfl (by omega)) ?_))
    rw[j1q];refine zk1 ?_;refine zbo ?_
    (first|(refine KL.v rfl (Val.fieldSl (k:=4) rfl rfl) ?_)|(refine KL.v rfl (Val.fieldAddr0 (k:=4) rfl rfl) ?_)|(refine KL.v rfl (Val.fieldAddrZ rfl rfl) ?_)|(refine KL.v rfl (Val.fieldAddr (k:=4) rfl rfl) ?_))
    refine zfW ?_;refine zW ?_;refine zlh ?_;exact zZ
   ·have hV': ¬V≥0:=hV
    rw[jdy (i:=V) (fun q=>hV q.1)];refine Call.enter2 (n:=43) (by kernel_rfl) Tryz.func15 rfl rfl rfl ?_;refine zit ?_;intro b2 b4;refine zaZ ?_;refine z3 ?_;refine zfd ?_;intro b5;refine zdH ?_;refine zca ?_;refine zp ?_;refine zaz ?_;refine zA ?_;refine zcx ?_;refine zbs ?_;refine zw ?_;refine zcI ?_;refine zdC ?_
    (first|(refine KL.v rfl (Val.fieldSl (k:=5) rfl rfl) ?_)|(refine KL.v rfl (Val.fieldAddr0 (k:=5) rfl rfl) ?_)|(refine KL.v rfl (Val.fieldAddrZ rfl rfl) ?_)|(refine KL.v rfl (Val.fieldAddr (k:=5) rfl rfl) ?_))
    refine zbo ?_;refine ze ?_;refine zjO ?_
    (first|(refine KL.v rfl (Val.remN rfl rfl (by omega)) ?_)|(refine KL.v rfl (Val.rem rfl rfl (by omega)) ?_))
    rw[i1];refine zk1 ?_;refine zbo ?_;refine zc7 ?_;refine zfW ?_;refine zdH ?_;refine zbI ?_;refine zp ?_;refine zbO ?_;refine zax ?_;refine zz ?_;refine zlh ?_;exact zZ
  ·have hH': ¬H≥0:=hH
   rw[jdy (i:=H) (fun q=>hH q.1)]
   by_cases hV:0≤V
   ·have hV':V≥0:=hV
    obtain⟨j,f,j1q,j2,j3q,j4q⟩:=pick_at hT hV hl vv
    have j3':T[((j:Nat):Int).toNat]?=some ((f:Nat):Int):=j3q
    rw[j4q];refine Call.enter2 (n:=43) (by kernel_rfl) Tryz.func15 rfl rfl rfl ?_;refine zit ?_;intro b2 b4;refine zaZ ?_;refine z3 ?_;refine zfd ?_;intro b5;refine zdH ?_;refine zca ?_;refine zp ?_;refine zbO ?_;refine zax ?_;refine z9 ?_;refine zbI ?_;refine zp ?_;refine zaz ?_;refine zA ?_;refine zcx ?_;refine zbs ?_;refine zw ?_;refine zcI ?_;refine zdC ?_
    (first|(refine KL.v rfl (Val.fieldSl (k:=6) rfl rfl) ?_)|(refine KL.v rfl (Val.fieldAddr0 (k:=6) rfl rfl) ?_)|(refine KL.v rfl (Val.fieldAddrZ rfl rfl) ?_)|(refine KL.v rfl (Val.fieldAddr (k:=6) rfl rfl) ?_))
    refine zbo ?_;refine ze ?_;refine zjO ?_
    (first|(refine KL.v rfl (Val.remN rfl rfl (by omega)) ?_)|(refine KL.v rfl (Val.rem rfl rfl (by omega)) ?_))
    rw[j1q];refine zk1 ?_;refine zbo ?_
    (first|(refine KL.v rfl (Val.fieldSl (k:=4) rfl rfl) ?_)|(refine KL.v rfl (Val.fieldAddr0 (k:=4) rfl rfl) ?_)|(refine KL.v rfl (Val.fieldAddrZ rfl rfl) ?_)|(refine KL.v rfl (Val.fieldAddr (k:=4) rfl rfl) ?_))
    refine zfW ?_;refine zW ?_;refine zlh ?_;exact zZ
   ·have hV': ¬V≥0:=hV
    rw[jdy (i:=V) (fun q=>hV q.1)];refine Call.enter2 (n:=43) (by kernel_rfl) Tryz.func15 rfl rfl rfl ?_;refine zit ?_;intro b2 b4;refine zaZ ?_;refine z3 ?_;refine zfd ?_;intro b5;refine zdH ?_;refine zca ?_;refine zp ?_;refine zbO ?_;refine zax ?_;refine z9 ?_;refine zbI ?_;refine zp ?_;refine zbO ?_;refine zax ?_;refine zz ?_;refine zlh ?_;exact zZ
 ·have hl0: ¬((T.length:Nat):Int)>0:=by omega
  rw[jdy (i:=H) (fun q=>hl q.2),jdy (i:=V) (fun q=>hl q.2)]
  by_cases hH:0≤H
  ·have hH':H≥0:=hH
   by_cases hV:0≤V
   ·have hV':V≥0:=hV
    refine Call.enter2 (n:=43) (by kernel_rfl) Tryz.func15 rfl rfl rfl ?_;refine zit ?_;intro b2 b4;refine zaZ ?_;refine z3 ?_;refine zfd ?_;intro b5;refine zdH ?_;refine zca ?_;refine zp ?_;refine zaz ?_;refine zA ?_;refine zcx ?_;refine zcq ?_;refine zw ?_;refine z9 ?_;refine zbI ?_;refine zp ?_;refine zaz ?_;refine zA ?_;refine zcx ?_;refine zcq ?_;refine zw ?_;refine zz ?_;refine zlh ?_;exact zZ
   ·have hV': ¬V≥0:=hV
    refine Call.enter2 (n:=43) (by kernel_rfl) Tryz.func15 rfl rfl rfl ?_;refine zit ?_;intro b2 b4;refine zaZ ?_;refine z3 ?_;refine zfd ?_;intro b5;refine zdH ?_;refine zca ?_;refine zp ?_;refine zaz ?_;refine zA ?_;refine zcx ?_;refine zcq ?_;refine zw ?_;refine z9 ?_;refine zbI ?_;refine zp ?_;refine zbO ?_;refine zax ?_;refine zz ?_;refine zlh ?_;exact zZ
  ·have hH': ¬H≥0:=hH
   by_cases hV:0≤V
   ·have hV':V≥0:=hV
    refine Call.enter2 (n:=43) (by kernel_rfl) Tryz.func15 rfl rfl rfl ?_;refine zit ?_;intro b2 b4;refine zaZ ?_;refine z3 ?_;refine zfd ?_;intro b5;refine zdH ?_;refine zca ?_;refine zp ?_;refine zbO ?_;refine zax ?_;refine z9 ?_;refine zbI ?_;refine zp ?_;refine zaz ?_;refine zA ?_;refine zcx ?_;refine zcq ?_;refine zw ?_;refine zz ?_;refine zlh ?_;exact zZ
   ·have hV': ¬V≥0:=hV
    refine Call.enter2 (n:=43) (by kernel_rfl) Tryz.func15 rfl rfl rfl ?_;refine zit ?_;intro b2 b4;refine zaZ ?_;refine z3 ?_;refine zfd ?_;intro b5;refine zdH ?_;refine zca ?_;refine zp ?_;refine zbO ?_;refine zax ?_;refine z9 ?_;refine zbI ?_;refine zp ?_;refine zbO ?_;refine zax ?_;refine zz ?_;refine zlh ?_;exact zZ
end
set_option maxRecDepth 10000
def haE:Enc jU:=⟨acL,10,fun _=>rfl,by intro x v hv;simp[acL] at hv;rcases hv with rfl|rfl|rfl|rfl|rfl|rfl|rfl|rfl|rfl|rfl<;>rfl⟩
open Go.RowKit Go.ChangeShapes Go.WideShapes Go.ChangeAt Go.Deep Go.Joins
set_option maxRecDepth 100000
section
variable {H : Type} {enc : TypeId × Value → H} {W : World}
theorem jdL {fuel:Nat} {cs:List Value} {x:DataW H × List MemPlace} (hx:DataW.trod enc Tryz.prog W 0 (fun _=>true) true fuel 35 cs=some x) (hlen:cs.length=5): ∃ y:OpP,cs=[.int .u8 (y.c:Nat), .int .u64 (y.h:Nat), .int .i64 y.a, .int .i64 y.b, .int .u64 (y.v:Nat)]∧JN y:=by
 obtain⟨c0,c1,c2,c3,c4,rfl⟩: ∃ c0 c1 c2 c3 c4,cs=[c0,c1,c2,c3,c4]:=by
  match cs,hlen with
  | [c0,c1,c2,c3,c4],_=>exact⟨c0,c1,c2,c3,c4,rfl⟩
 obtain⟨xs,n,_,rfl,hl,hxl,hf⟩:=DataW.trod_struct Tryz.underlying35 hx
 have k8:(Tryz.prog).cellsOf 5=1:=by kernel_rfl
 have ku:(Tryz.prog).cellsOf 33=1:=by kernel_rfl
 have ki:(Tryz.prog).cellsOf 3=1:=by kernel_rfl
 match xs,hxl with
 | [y0,y1,y2,y3,y4],_=>
  have h0:=hf 0 _ rfl
  have h1:=hf 1 _ rfl
  have h2:=hf 2 _ rfl
  have h3:=hf 3 _ rfl
  have h4:=hf 4 _ rfl
  obtain⟨a0,e0,-,w0⟩:=DataW.trod_int Tryz.underlying5 (by simpa [k8,ku,ki] using h0)
  obtain⟨a1,e1,-,w1⟩:=DataW.trod_int Tryz.underlying33 (by simpa [k8,ku,ki] using h1)
  obtain⟨a2,e2,-,w2⟩:=DataW.trod_int Tryz.underlying3 (by simpa [k8,ku,ki] using h2)
  obtain⟨a3,e3,-,w3⟩:=DataW.trod_int Tryz.underlying3 (by simpa [k8,ku,ki] using h3)
  obtain⟨a4,e4,-,w4⟩:=DataW.trod_int Tryz.underlying33 (by simpa [k8,ku,ki] using h4)
  simp at e0 e1 e2 e3 e4
  have hu0:=wf_u8 w0
  have hu1:=jbF w1
  have hu4:=jbF w4
  unfold u8ok at hu0;unfold jaJ at hu1 hu4
  obtain⟨n0,rfl⟩: ∃ n0:Nat,a0=n0:=⟨a0.toNat,by omega⟩
  obtain⟨n1,rfl⟩: ∃ n1:Nat,a1=n1:=⟨a1.toNat,by omega⟩
  obtain⟨n4,rfl⟩: ∃ n4:Nat,a4=n4:=⟨a4.toNat,by omega⟩
  subst e0 e1 e2 e3 e4;exact zjM
theorem hact_in {fuel:Nat} {cs:List Value} {x:DataW H × List MemPlace} (hx:DataW.trod enc Tryz.prog W 0 (fun _=>true) true fuel 37 cs=some x) (hlen:cs.length=10): ∃ y:jU,cs=haE.enc y∧J7 y:=by
 obtain⟨c0,c1,c2,c3,c4,c5,c6,c7,c8,c9,rfl⟩: ∃ c0 c1 c2 c3 c4 c5 c6 c7 c8 c9,cs=[c0,c1,c2,c3,c4,c5,c6,c7,c8,c9]:=by
  match cs,hlen with
  | [c0,c1,c2,c3,c4,c5,c6,c7,c8,c9],_=>exact⟨c0,c1,c2,c3,c4,c5,c6,c7,c8,c9,rfl⟩
 obtain⟨xs,n,hn,rfl,hl,hxl,hf⟩:=DataW.trod_struct Tryz.underlying37 hx
 have k8:(Tryz.prog).cellsOf 5=1:=by kernel_rfl
 have kb:(Tryz.prog).cellsOf 4=1:=by kernel_rfl
 have ki:(Tryz.prog).cellsOf 3=1:=by kernel_rfl
 have ko:(Tryz.prog).cellsOf 35=5:=by kernel_rfl
 match xs,hxl with
 | [y0,y1,y2,y3,y4,y5],_=>
  have h0:=hf 0 _ rfl
  have h1:=hf 1 _ rfl
  have h2:=hf 2 _ rfl
  have h3:=hf 3 _ rfl
  have h4:=hf 4 _ rfl
  have h5:=hf 5 _ rfl
  obtain⟨o,eo,ho⟩:=jdL (cs:=[c0,c1,c2,c3,c4]) (by simpa [k8,kb,ki,ko] using h0) rfl
  obtain⟨a1,e1,-,w1⟩:=DataW.trod_int Tryz.underlying3 (by simpa [k8,kb,ki,ko] using h1)
  obtain⟨a2,e2,-,w2⟩:=DataW.trod_int Tryz.underlying3 (by simpa [k8,kb,ki,ko] using h2)
  obtain⟨a3,e3,-⟩:=DataW.trod_bool Tryz.underlying4 (by simpa [k8,kb,ki,ko] using h3)
  obtain⟨a4,e4,-,w4⟩:=DataW.trod_int Tryz.underlying3 (by simpa [k8,kb,ki,ko] using h4)
  obtain⟨a5,e5,-,w5⟩:=DataW.trod_int Tryz.underlying5 (by simpa [k8,kb,ki,ko] using h5)
  simp at eo e1 e2 e3 e4 e5
  have hu:=wf_u8 w5
  unfold u8ok at hu
  obtain⟨n5,rfl⟩: ∃ n5:Nat,a5=n5:=⟨a5.toNat,by omega⟩
  obtain⟨q0,q1,q2,q3,q4⟩:=eo
  subst q0 q1 q2 q3 q4 e1 e2 e3 e4 e5;exact zkQ
end
open Go.RowKit
set_option maxRecDepth 10000
structure RnS where
 i:Nat
 f:Nat
 y:CyM
 h:HpP
 T:List Int
 oT:Own
section
variable {w0 : World} {F : jb} {v : Value} {l : List jU} {D : HpD} {y : CyM} {h : HpP} {f0 : Nat} {I : HpP → List Int → Prop}
theorem run_K (hG:js w0) (hD:HpDok D) (hR0:HpR D f0 400000000 y h) (hf0:f0≤500000) (hI:RunI D.C l I) (h0:I h []) (hl:Sli w0 F haE v l) (hlo: ∀ x∈l,J7 x):Call Tryz.prog w0 31 [.pointer (some ⟨D.b,0,none⟩),v] (hpH D y h++F) (fun r H'=> ∃ f1 y1 h1 T oT,HpR D f1 400000000 y1 h1∧f1≤f0+160∧I h1 T∧oOk uE T oT∧T.length≤80∧r=oV oT T.length∧H'=hpH D y1 h1++(oH uE 33 T oT++F)):=by
 have hC:=hD.C
 refine zkT ?_;refine z7 ?_;refine zcn ?_;refine zkU ?_;rintro⟨i,f,y,h,tl,otl⟩ ⟨hi,hi8,hR1,hf,hIt,hTl,kT⟩;dsimp only at hi hi8 hR1 hf hIt hTl kT⊢
 by_cases hc1:i<l.length
 ·have hc1':((i:Nat):Int)<((l.length:Nat):Int):=by omega
  by_cases hc2:i<80
  ·have hc2':((i:Nat):Int)<80:=by omega
   obtain⟨x,hx⟩:=jA hc1
   have hxm:=List.mem_of_getElem? hx
   have hxo:=hlo x hxm
   obtain⟨hHI,hu⟩:=hI.ok _ _ hIt
   have hop:=fun A v (hS:Sli w0 A uE v tl)=>op_K (w0:=w0) (F:=A) hxo hS hu
   have hzo:=jc3 hxo hu
   have hid:=hI.d h tl x hIt hxm
   have his:=fun k u=>hI.s h tl k u hIt
   obtain⟨z,hz⟩: ∃ z,opA x tl=z:=⟨_,rfl⟩
   rw[hz] at hop hzo hid
   have hdo:=fun A=>jcf (w0:=w0) (F:=A) hG hD hHI hR1 (by omega) hzo
   have hstp:=fun A (k:Int) (u:Nat) (hu:u<256)=>jdq (w0:=w0) (F:=A) (k:=k) (u:=((u:Nat):Int)) hG hD hR1 (by omega)
   obtain⟨⟨e,hh,w,addr,us,si,cy,ac⟩,h9,hv⟩: ∃ (q:SnP) (h9:HpP),hpDo D.C h z=(q,h9):=⟨_,_,rfl⟩
   rw[hv] at hid;simp only[hv] at hdo
   obtain⟨zc,zh,za,zb,zv⟩:=z
   unfold opV snV HpQ at hdo;unfold opV at hop;unfold HpQ at hstp;dsimp only at hid hdo hop;clear hv hz
   obtain⟨xo,xH,xV,wk,xk,xu⟩:=x
   have hxu:xu<256:=hxo.u
   cases wk with
   |true=>
    have hst2:=his xk ((xu:Nat):Int)
    have hstp2:=fun A=>hstp A xk xu hxu
    refine zfn ?_;refine zhi ?_;refine zim ?_;refine zbf ?_;refine zcC ?_;refine zin ?_;refine zaF ?_;refine zhu ?_;refine zio ?_;refine zaF ?_;refine zl fun T hT=>?_;refine(CallV.part (CallV.fn (hstp2 _)) ja).mono ?_;rintro _ _ ⟨rfl,y1,h2,rfl⟩;refine zg ?_;clear hT T;refine zD ?_;refine zbG ?_;refine zk4 ?_;refine ziL ?_;refine zek ?_;refine zdY ?_;exact zkW
   |false=>
    have hid2:=hid rfl
    unfold tell at hid2
    by_cases hh0:hh=0
    ·have hh0':((hh:Nat):Int)=0:=by omega
     rw[if_pos hh0] at hid2;refine zfn ?_;refine zaG ?_;refine zmJ ?_;refine zgU ?_;refine zeE ?_;rintro _ _ ⟨rfl,y1,h2,rfl⟩;refine zaH ?_;intro b7;refine zF ?_;refine zaE ?_;refine zeD ?_;exact zkX
    ·have hh0': ¬((hh:Nat):Int)=0:=by omega
     rw[if_neg hh0] at hid2
     have hbd:(tl++ [((hh:Nat):Int)]).length≤4294967296:=by simp;omega
     refine zfn ?_;refine zaG ?_;refine zmJ ?_;refine zgU ?_;refine zeE ?_;rintro _ _ ⟨rfl,y1,h2,rfl⟩;refine zaH ?_;intro b7;refine zF ?_;refine zd5 ?_;refine ze ?_;refine zF ?_;refine zaj ?_;intro b49;refine KL.e rfl (Eff.appZ (ys:=[_]) rfl rfl rfl rfl rfl rfl jn (by assumption) (by first|exact Sli.blk jF rfl (by first|decide|simp) (by first|decide|(unfold maxLen;omega)) rfl|exact Sli.old (by assumption)|exact Sli.own jn (by assumption) j6|assumption|exact Sli.part (by assumption) ja) rfl (by first|assumption|omega|(simp<;>fail)|(simp;omega)) rfl) ?_;rintro _ _ ⟨o50,ok50,rfl,rfl⟩;refine zgV ?_;exact zkY
  ·have hc2': ¬((i:Nat):Int)<80:=by omega
   refine zla ?_;refine zT ?_;refine zw ?_;refine zdh ?_;refine za8 ?_;exact zhp
 ·have hc1': ¬((i:Nat):Int)<((l.length:Nat):Int):=by omega
  refine za4 ?_;refine zdi ?_;refine zaO ?_;refine zdh ?_;refine za8 ?_;exact zhp
end
set_option maxRecDepth 10000
section
variable {w0 : World} {F : jb} {D : HpD} {y : CyM} {h : HpP} {nf nk : Nat}
theorem jin {g:PlG} {long:Nat} {s:CyP} (h:CpR g long y s):Call Tryz.prog w0 32 [.pointer (some ⟨y.T.b,0,none⟩)] (cycH y++F) (fun r H'=>r= .int .i64 (cntP 1 s.W.T:Nat)∧H'=cycH y++F):=by
 have hc:=Call.ro (w0:=w0) (A:=jy y.T) (H:=cycH y++F) (fun F=>jhk (F:=F) h.p.tb) (by rw[cycH_app];exact ja)
 rw[h.p.eT] at hc;exact hc
theorem jhI (h1:HpR D nf nk y h):Call Tryz.prog w0 32 [.pointer (some ⟨D.Tb,0,none⟩)] (hpH D y h++F) (fun r H'=>r= .int .i64 (cntP 1 h.s.W.T:Nat)∧H'=hpH D y h++F):=
 h1.lift0 fun A=>by have:=jin (w0:=w0) (F:=A) h1.p;rw [h1.T] at this;exact this
theorem jga {C:HpC} {op:OpP}:(hpDo C h op).1.used=(usedL C.g.L (hpDo C h op).2.s.A:Nat):=rfl
variable {c : Cfg} {vc vt v : Value} {l : List jU} {x : jU}
end
open Go.RowKit
set_option maxRecDepth 10000
theorem jjz: ∀ (T:List jh),(JM T).length=cntP 1 T
 | []=>rfl
 |e::T=>by
  have ih:=jjz T
  grind[cntP,jdW]
theorem jjy {t:Nat} {n:Int}: ∀ {T:List jh} {i:Nat} {e:jh},T[i]?=some e→e.st≠1→(JM (T.set i ⟨1,(t:Nat),n⟩)).Perm (t::JM T)
 |x::T,0,e,h,h1=>by
  simp only[List.getElem?_cons_zero,Option.some.injEq] at h;subst h;rw[List.set_cons_zero,jdW,jdW,if_pos rfl,if_neg h1];exact .refl _
 |x::T,i+1,e,h,h1=>by
  simp only[List.getElem?_cons_succ] at h
  have ih:=jjy (t:=t) (n:=n) h h1
  rw[List.set_cons_succ,jdW,jdW]
  split
  ·exact(ih.cons _).trans (.swap _ _ _)
  ·exact ih
 | [],i,e,h,_=>by simp at h
theorem jl9 {T:List jh} {t:Nat} (hf:(Ju T).isSome=true):(JM (jK T (t:Nat))).Perm (t::JM T):=by
 grind[hi,g1,g2,jK,ja7,jjy]
theorem jk4 {l:List jg} {z:Nat}: ∀ {S:List Nat} {A:List Bool},S.Nodup→(∀ t∈S,A[t]?=some true∧ ∃ y,l[t]?=some y∧y.size=z)→S.length*z≤usedL l A
 | [],A,_,_=>by simp
 |t::S,A,hn,h=>by
  obtain⟨h1,y,h2,h3⟩:=h t (.head _)
  have hl:=jx h1
  have hs:=jdn (A:=A) false h2 hl
  rw[List.nodup_cons] at hn
  have ih:=jk4 (l:=l) (z:=z) (S:=S) (A:=A.set t false) hn.2 fun q hq=>by
   grind
  rw[List.length_cons,Nat.succ_mul]
  grind
section
variable {C : HpC} {wr : Bool} {h h' : HpP} {s s' : CyP} {n z : Nat}
theorem DqI.ge (d:DqI C z n h):n*z≤usedL C.g.L h.s.A:=by
 rw[←d.n]
 refine jk4 d.nd fun t ht=>⟨d.I.rch (jfM d.I ht),?_⟩
 obtain⟨y,h1,h2,_⟩:=d.o t ht
 grind
theorem dq_alloc (hC:jk C) (d:DqI C z n h) (hz:2≤z∧z≤64) (hk: ¬classI C.g (z:Nat)=C.g.cl.length) (hy:C.g.y (classI C.g (z:Nat))=z):
  ((jE C h 0 ((z:Nat)-1)).1.e=0∧DqI C z (n+1) (jE C h 0 ((z:Nat)-1)).2)∨
  ((jE C h 0 ((z:Nat)-1)).1.e=100∧DqI C z n (jE C h 0 ((z:Nat)-1)).2∧n=C.g.q/z∧usedL C.g.L (jE C h 0 ((z:Nat)-1)).2.s.A=n*z)∨
  ((jE C h 0 ((z:Nat)-1)).1.e=131∧DqI C z n (jE C h 0 ((z:Nat)-1)).2∧n≤C.g.q/z∧cntP 0 (jE C h 0 ((z:Nat)-1)).2.s.W.T=0∧cntP 2 (jE C h 0 ((z:Nat)-1)).2.s.W.T=0):=by
 have hm:Jd ⟨0,0,(z:Nat)-1⟩=true:=by
  unfold Jd;refine decide_eq_true ?_;dsimp only;omega
 have hneed:(0:Int)+((z:Nat)-1)+1=((z:Nat):Int):=by omega
 obtain⟨is,his⟩: ∃ is:CyP→Bool,is=fun s=>fitsB C.g z s&&j5 s:=⟨_,rfl⟩
 have eR:allocR C h (classI C.g (z:Nat))=Jz C is h:=by unfold allocR;rw [hy,his]
 unfold jE;rw[if_neg (by rw[hm];decide),hneed,if_neg hk,eR,hy]
 have hmr:=jcS (wr:=true) hC d.I (is:=is)
 have d1:=d.next hC (jdH hC d.I (is:=is)) hmr
 have hfail:is (Jz C is h).s=false→usedL C.g.L (Jz C is h).s.A=n*z∧cntP 2 (Jz C is h).s.W.T=0:=by
  by_cases c:is (JC C is h).s=true
  ·have e:Jz C is h=JC C is h:=if_pos c
   intro hf;rw[e,c] at hf;cases hf
  ·have e:Jz C is h=jas C (jaE C (JC C is h)):=if_neg c
   intro _;rw[e]
   have dr:=d.next hC (jh8 hC d.I (is:=is)) (jeC hC d.I)
   exact(dr.whole hC (jd5 c)).2
 revert hmr d1 hfail
 generalize Jz C is h=h1
 intro hmr d1 hfail
 have hisb:is h1.s=(fitsB C.g z h1.s&&j5 h1.s):=by rw[his]
 rw[hisb] at hfail
 by_cases c1:fitsB C.g z h1.s=false
 ·rw[if_pos c1]
  right;left
  obtain⟨f1,f2⟩:=hfail (by rw[c1];rfl)
  refine⟨rfl,d1,?_,f1⟩
  have hu:=d1.u
  unfold UsI at hu
  have hnf: ¬usedL C.g.L h1.s.A+z≤C.g.q:=of_decide_eq_false c1
  rw[f1] at hu hnf
  symm
  exact(Nat.div_eq_iff (by omega)).2 ⟨hu,by rw[Nat.mul_comm] at*;omega⟩
 ·rw[if_neg c1]
  by_cases c2:j5 h1.s=false
  ·rw[if_pos c2]
   right;right
   obtain⟨f1,f2⟩:=hfail (by rw[c2,Bool.and_false])
   have hu:=d1.u
   unfold UsI at hu;rw[f1] at hu;refine⟨rfl,d1,(Nat.le_div_iff_mul_le (by omega)).2 hu,?_,f2⟩
   have: ¬0<cntP 0 h1.s.W.T:=of_decide_eq_false c2
   show cntP 0 h1.s.W.T=0
   omega
  ·rw[if_neg c2]
   left
   refine⟨rfl,?_⟩
   have e1:fitsB C.g (C.g.y (classI C.g (0+((z:Nat)-1)+1))) h1.s=true:=by rw[hneed,hy];exact not_false' c1
   have hk': ¬classI C.g (0+((z:Nat)-1)+1)=C.g.cl.length:=by rw[hneed];exact hk
   obtain⟨j,y,ht,g3,hyL,hcl,hsz,hmay2,hlies⟩:=jcy hC d1.I hm hk' e1
   have m2:HpMv C true h1 _:=jbV hC d1.I hm hk' e1 (not_false' c2)
   rw[hneed] at ht hsz hmay2 hlies m2;rw[hy] at hsz
   have hI2:=d1.I.mv hC m2
   obtain⟨q1,q2,q3⟩:=jeN hC.g d1.I.ok.w.x hyL (d1.I.zr g3) hlies
   have hs2:(mkC C.g h1.s (classI C.g (z:Nat):Nat) ⟨(classI C.g (z:Nat):Nat),0,(z:Nat)-1⟩).W={h1.s.W with T:=jK h1.s.W.T (j:Nat),x:=(makeP h1.s.W.x y ⟨(classI C.g (z:Nat):Nat),0,(z:Nat)-1⟩).2}:=by
    unfold mkC;rw [ht];dsimp only;rw [jC hyL]
   have hp:=jl9 (t:=j) (freeB_some (not_false' c2))
   have hnm:j∉JM h1.s.W.T:=fun hj=>by
    have:=d1.I.rch (jfM d1.I hj)
    rw[g3] at this;cases this
   have d2:DqI C z (n+1) {h1 with s:=mkC C.g h1.s (classI C.g (z:Nat):Nat) ⟨(classI C.g (z:Nat):Nat),0,(z:Nat)-1⟩}:=by
    refine⟨hI2,d1.u.mv hC d1.I m2,d1.N,?_,?_,fun t ht'=>?_⟩
    ·show(JM (mkC C.g h1.s _ _).W.T).Nodup
     rw[hs2];exact hp.nodup_iff.2 (List.nodup_cons.2 ⟨hnm,d1.nd⟩)
    ·show(JM (mkC C.g h1.s _ _).W.T).length=_
     rw[hs2];rw[show(JM (jK h1.s.W.T ((j:Nat):Int))).length=(j::JM h1.s.W.T).length from hp.length_eq,List.length_cons,d1.n]
    ·have ht2:t∈JM (mkC C.g h1.s (classI C.g (z:Nat):Nat) ⟨(classI C.g (z:Nat):Nat),0,(z:Nat)-1⟩).W.T:=ht'
     rw[hs2] at ht2
     rcases List.mem_cons.1 (hp.mem_iff.1 ht2) with e|e
     ·subst e;refine⟨y,hyL,hsz,fun i=>?_⟩
      show refO C.g (mkC C.g h1.s _ _).W.x _ i=none
      rw[hs2]
      exact jfp hC.g fun q hq k k1 k2=>by rw[hyL] at hq;cases hq;exact q3 k k1 k2
     ·obtain⟨y',a1,a2,a3⟩:=d1.o t e
      refine⟨y',a1,a2,fun i=>?_⟩
      show refO C.g (mkC C.g h1.s _ _).W.x _ i=none
      rw[hs2];dsimp only;rw[jbA hC.g (jcM hC.g d1.I.ok.w.x hyL _ fun e'=>hnm (e'▸e))];exact a3 i
   exact d2.next hC (jcU hC hI2) (jg5 hC hI2)
end
set_option maxRecDepth 10000
theorem jmd {c:Cfg} {t:Int} (hc:jX c=true): ∃ z:Nat,c.cl[c.cl.length-1]?=some ((z:Nat):Int)∧2≤z∧z≤64∧ ¬classI (gOf c t) ((z:Nat):Int)=(gOf c t).cl.length∧(gOf c t).y (classI (gOf c t) ((z:Nat):Int))=z:=by
 have hcfg:=ja2 hc
 have hl:=hcfg.cl
 obtain⟨L,hL⟩:=jA (l:=c.cl) (k:=c.cl.length-1) (by omega)
 have htop:jbL c.cl=L:=by unfold jbL;rw [List.getLast?_eq_getElem?,hL];rfl
 have h1:=hcfg.el L (List.mem_of_getElem? hL)
 have h2:=hcfg.page
 obtain⟨z,rfl⟩: ∃ z:Nat,L=z:=⟨L.toNat,by omega⟩
 have hlt:classI (gOf c t) ((z:Nat):Int)<(gOf c t).cl.length:=by
  unfold classI;refine List.findIdx_lt_length_of_exists ⟨z,?_,by simp⟩;exact List.mem_map.2 ⟨_,List.mem_of_getElem? hL,by simp⟩
 have hne: ¬classI (gOf c t) ((z:Nat):Int)=(gOf c t).cl.length:=by omega
 refine⟨z,hL,by omega,by omega,hne,?_⟩
 have hf:=ji7 hne
 have hk:classI (gOf c t) ((z:Nat):Int)<c.cl.length:=by rw[←gOf_m (c:=c) (t:=t)];exact hlt
 obtain⟨y,hy⟩:=jA hk
 have hyb:=hcfg.el y (List.mem_of_getElem? hy)
 rw[gOf_y hy] at hf⊢
 omega
section
variable {C : HpC} {h h' : HpP} {z n : Nat} {T : List Int}
theorem DqI.cnt (d:DqI C z n h):cntP 1 h.s.W.T=n:=by rw[←jjz];exact d.n
theorem alloc_is {z:Nat}:jt C {h with wk:=0} ⟨1,0,0,((z:Nat):Int)-1,0⟩=jE C {h with wk:=0} 0 (((z:Nat):Int)-1):=by
 rfl
theorem dq_do (hC:jk C) (d:DqI C z n h) (hz:2≤z∧z≤64) (hk: ¬classI C.g (z:Nat)=C.g.cl.length) (hy:C.g.y (classI C.g (z:Nat))=z):
  ((hpDo C h ⟨1,0,0,((z:Nat):Int)-1,0⟩).1.e=0∧DqI C z (n+1) (hpDo C h ⟨1,0,0,((z:Nat):Int)-1,0⟩).2)∨
  ((hpDo C h ⟨1,0,0,((z:Nat):Int)-1,0⟩).1.e=100∧n=C.g.q/z∧usedL C.g.L (hpDo C h ⟨1,0,0,((z:Nat):Int)-1,0⟩).2.s.A=n*z)∨
  ((hpDo C h ⟨1,0,0,((z:Nat):Int)-1,0⟩).1.e=131∧n≤C.g.q/z∧cntP 0 (hpDo C h ⟨1,0,0,((z:Nat):Int)-1,0⟩).2.s.W.T=0∧cntP 2 (hpDo C h ⟨1,0,0,((z:Nat):Int)-1,0⟩).2.s.W.T=0∧cntP 1 (hpDo C h ⟨1,0,0,((z:Nat):Int)-1,0⟩).2.s.W.T=n):=by
 have e2:(hpDo C h ⟨1,0,0,((z:Nat):Int)-1,0⟩).2=(jE C {h with wk:=0} 0 (((z:Nat):Int)-1)).2:=by
  rfl
 rw[jaQ,e2,alloc_is]
 rcases dq_alloc hC d.wk0 hz hk hy with⟨a,b⟩|⟨a,b,cc,dd⟩|⟨a,b,cc,dd,ee⟩
 ·grind
 ·omega
 ·exact .inr (.inr ⟨a,cc,dd,ee,b.cnt⟩)
theorem DqI.n_le (d:DqI C z n h):n*z≤C.g.q:=Nat.le_trans d.ge d.u
theorem cnt_all: ∀ {T:List jh},(∀ e∈T,0≤e.st∧e.st≤3)→cntP 0 T+cntP 1 T+cntP 2 T+cntP 3 T=T.length
 | [],_=>rfl
 |e::T,h=>by
  have ih:=cnt_all (T:=T) fun q hq=>h q (List.mem_cons_of_mem _ hq)
  unfold cntP at ih⊢;simp only[List.countP_cons,List.length_cons]
  grind
end
end Go.Proofs.YtpcgafhgfjlkmaaGreatDoor.Sw
namespace Go.Proofs.YtpcgafhgfjlkmaaGreatDoor
open Go.RowKit
section
variable {P : Program} {w0 : World} {m : jl} {H F : jb} {ty : TypeId} {α : Type} {E : Enc α} {v : Value} {xs ys : List α} {o : Own} {e : TypeId}
theorem Eff.appOB {x y:Operand} {t:TypeId} {z v2:Value} {bytes:Nat} (hx:evO m x=some (oV o xs.length)) (hy:evO m y=some v2) (ht:Jp P t=some e)
  (hinfo:(P.info? e).map (fun i=>(i.zero,i.size,i.bytes))=some (some z,E.sz,bytes)) (hzs:z.cells.size=E.sz) (h0:Nat.blt 0 E.sz=true) (hT:Jn (oH E e xs o) H F) (ok:oOk E xs o) (hs:Sli w0 H E v2 ys)
  (hm:xs.length+ys.length≤maxLen) (hb:(xs.length+ys.length)*bytes≤140737488355328):
  Eff P w0 H m ty (.call {callee:= .builtin .append,args:= #[x,y],argTypes:= #[t,t]}) (fun v H'=> ∃ o',oOk E (xs++ys) o'∧v=oV o' (xs.length+ys.length)∧H'=oH E e (xs++ys) o'++F):=by
 refine⟨by grind[jB,jbE,cov],fun w d pos af g hw0=>?_⟩
 have hw:=hw0.takeL hT
 have h0':0<E.sz:=Nat.le_of_ble_eq_true h0
 have hsl:=hw.ownSl ok
 have hS:=hs w hw0
 have hu:P.underlying t=some (.slice e):=by grind[Jp]
 obtain⟨a2,c2,rfl,hc1,hc2,hne⟩:=hS.shape
 by_cases hys:ys=[]
 ·subst hys;simp only[List.append_nil,List.length_nil,Nat.add_zero] at hm hb⊢
  have e1:(Builtin.append_ #[t,t] ty #[oV o xs.length, .slice a2 0 c2]).run P w= .ok (oV o xs.length) w:=by
   obtain⟨i,hi,_⟩:=Option.map_eq_some_iff.1 hinfo
   have hsz:(sizeOf e).run P w= .ok i.size w:=jaN w (by simp[Jr,hi])
   have fc:(Builtin.firstCells i.size 0 (.slice a2 0 c2)).run P w= .ok #[] w:=by
    cases a2 with
    |none=>rfl
    |some a=>simp[Builtin.firstCells,loadCells,loadCellsFrom]
   cases o with
   |none=>simp[Builtin.append_,oV,Jw w hu,hsz,Builtin.lenOf,fc]
   |some o=>simp[Builtin.append_,oV,Jw w hu,hsz,Builtin.lenOf,fc,ok.1,storeCells]
  have e2:(execOp (evS m) ⟨d, .call {callee:= .builtin .append,args:= #[x,y],argTypes:= #[t,t]},ty,pos,af,g⟩).run P w= .ok (.value (oV o xs.length)) w:=by
   simp[execOp,resolve,invoke,builtin,evS,hx,hy,e1]
  rw[e2];exact⟨_,hw,o,ok,rfl,rfl⟩
 ·obtain⟨b2,o2,rfl⟩:=hne hys
  have hpos:0<ys.length:=List.length_pos_iff.2 hys
  obtain⟨g',cap',w',hr,h2,h3,h4⟩:=jiC (P:=P) t ty e z E.sz bytes hu hinfo hzs h0' hsl ⟨b2,o2,none⟩ ys.length c2 (jD E ys) (ja9 ys)
   (fun j u hj=>by rw[jbb];exact hS.row hj) (jfP ys) hpos hm hb
  have e2:(execOp (evS m) ⟨d, .call {callee:= .builtin .append,args:= #[x,y],argTypes:= #[t,t]},ty,pos,af,g⟩).run P w= .ok (.value (.slice (some ⟨g',0,none⟩) (xs.length+ys.length) cap')) w':=by
   simp[execOp,resolve,invoke,builtin,evS,hx,hy,hr]
  rw[e2]
  rcases h2.shape with⟨h5,_⟩|⟨g2,cap,cur,h5,hB,hn,hcm,hcs,htk⟩
  ·omega
  ·cases h5
   have hcur:cur=((jD E (xs++ys))++cur.toList.drop ((xs.length+ys.length)*E.sz)).toArray:=by
    grind[jb2]
   have hblk: ∀ k,k∈blk (oV o xs.length)→k∈(oH E e xs o).map Prod.fst:=by
    intro k hk
    cases o with
    |none=>simp[oV,jip] at hk
    |some o=>simpa [oV,jd9,oH] using hk
   refine⟨oH E e (xs++ys) (some ⟨g',cap',cur.toList.drop ((xs.length+ys.length)*E.sz)⟩)++F,?_,some ⟨g',cap',cur.toList.drop ((xs.length+ys.length)*E.sz)⟩,?_,rfl,rfl⟩
   ·refine hw.only h3 hblk ?_ ?_ ?_
    ·intro p hp;simp only[oH,List.mem_singleton] at hp;subst hp
     have:=hB
     unfold Blk at this;simp only[cells];rw[←hcur];exact this
    ·simp[oH]
    ·intro p hp;simp only[oH,List.mem_singleton] at hp;subst hp
     rcases h4 with h4|h4
     ·exact .inl (hblk _ h4)
     ·exact .inr h4
   ·refine⟨by simpa using hn,hcm,?_⟩;simp only[List.length_append,List.length_drop,Array.length_toList,hcs]
    have:=Nat.mul_le_mul_right E.sz hn
    omega
theorem Eff.appZB {x y:Operand} {t:TypeId} {z v2:Value} {bytes:Nat} {zs:List α} (hx:evO m x=some (oV o xs.length)) (hy:evO m y=some v2) (ht:Jp P t=some e)
  (hinfo:(P.info? e).map (fun i=>(i.zero,i.size,i.bytes))=some (some z,E.sz,bytes)) (hzs:z.cells.size=E.sz) (h0:Nat.blt 0 E.sz=true) (hT:Jn (oH E e xs o) H F) (ok:oOk E xs o) (hs:Sli w0 H E v2 ys)
  (hz:xs++ys=zs) (hm:zs.length≤maxLen) (hb:zs.length*bytes≤140737488355328):
  Eff P w0 H m ty (.call {callee:= .builtin .append,args:= #[x,y],argTypes:= #[t,t]}) (fun v H'=> ∃ o',oOk E zs o'∧v=oV o' zs.length∧H'=oH E e zs o'++F):=by
 subst hz;rw[List.length_append] at hm hb⊢;exact Eff.appOB hx hy ht hinfo hzs h0 hT ok hs hm hb
end
end Go.Proofs.YtpcgafhgfjlkmaaGreatDoor
namespace Go.Proofs.YtpcgafhgfjlkmaaGreatDoor.Sw
open Go.Proofs.YtpcgafhgfjlkmaaGreatDoor renaming lo → qL, hi → qH
set_option maxRecDepth 100000
structure DrA where
 i:Nat
 S:List jU
 oS:Own
structure DrB where
 k:Nat
 f:Nat
 y:CyM
 h:HpP
section
variable {w0 : World} {F : jb} {D : HpD} {y : CyM} {h : HpP} {nf nk : Nat}
theorem cRet_K {g:PlG} {long:Nat} {s:CyP} (h:CpR g long y s):Call Tryz.prog w0 33 [.pointer (some ⟨y.T.b,0,none⟩)] (cycH y++F) (fun r H'=>r= .int .i64 (cntP 3 s.W.T:Nat)∧H'=cycH y++F):=by
 have hc:=Call.ro (w0:=w0) (A:=jy y.T) (H:=cycH y++F) (fun F=>jlr (F:=F) h.p.tb) (by rw[cycH_app];exact ja)
 rw[h.p.eT] at hc;exact hc
theorem hyRet_K (h1:HpR D nf nk y h):Call Tryz.prog w0 33 [.pointer (some ⟨D.Tb,0,none⟩)] (hpH D y h++F) (fun r H'=>r= .int .i64 (cntP 3 h.s.W.T:Nat)∧H'=hpH D y h++F):=
 h1.lift0 fun A=>by have:=cRet_K (w0:=w0) (F:=A) h1.p;rw [h1.T] at this;exact this
theorem cLen_K {g:PlG} {long:Nat} {s:CyP} (h:CpR g long y s):Call Tryz.prog w0 28 [.pointer (some ⟨y.T.b,0,none⟩)] (cycH y++F) (fun r H'=>r= .int .i64 (s.W.T.length:Nat)∧H'=cycH y++F):=by
 have hc:=Call.ro (w0:=w0) (A:=jy y.T) (H:=cycH y++F) (fun F=>jeS (F:=F) h.p.tb) (by rw[cycH_app];exact ja)
 rw[h.p.eT] at hc;exact hc
theorem hyLen_K (h1:HpR D nf nk y h):Call Tryz.prog w0 28 [.pointer (some ⟨D.Tb,0,none⟩)] (hpH D y h++F) (fun r H'=>r= .int .i64 (h.s.W.T.length:Nat)∧H'=hpH D y h++F):=
 h1.lift0 fun A=>by have:=cLen_K (w0:=w0) (F:=A) h1.p;rw [h1.T] at this;exact this
variable {c : Cfg} {vc vt v : Value} {l : List jU}
set_option maxHeartbeats 8000000 in
theorem heapDrains_K (hG:js w0) (hR:Jo w0 F c vc vt) (hl:Sli w0 F haE v l) (hlo: ∀ x∈l,J7 x) (hll:l.length*80≤140737488355328):Call Tryz.prog w0 6 [jw c vc vt,v] F (fun r H'=>r= .bool true∧H'=F):=by
 have haw:=fun A=>jgd (w0:=w0) (F:=A) hG
 have hmn:=fun A (hp:Part A F) (hno:okS c 0=false)=>jf1 (t:=0) (hR.part hp) hno
 have hmd:=fun A (hp:Part A F) (hok:okS c 0=true)=>je8 (t:=0) hG (hR.part hp) hok
 have hfa:okS c 0=true→ ∃ (z:Nat) (x:Tn),c.tn[0]?=some x∧c.cl[c.cl.length-1]?=some ((z:Nat):Int)∧2≤z∧z≤64∧ ¬classI (gOf c ((0:Nat):Int)) ((z:Nat):Int)=(gOf c ((0:Nat):Int)).cl.length∧(gOf c ((0:Nat):Int)).y (classI (gOf c ((0:Nat):Int)) ((z:Nat):Int))=z∧x.quota=((gOf c ((0:Nat):Int)).q:Nat)∧1≤c.cl.length:=fun h=>by
  obtain⟨hc,_,x,hx,_⟩:=okS_cfg h
  obtain⟨z,a1,a2,a3,a4,a5⟩:=jmd (t:=((0:Nat):Int)) hc
  exact⟨z,x,hx,a1,a2,a3,a4,a5,gOf_q hc hx,(ja2 hc).cl.1⟩
 obtain⟨hS,hT',o1,o2,l1,l2⟩:=hR
 obtain⟨ok,hok⟩: ∃ ok,okS c 0=ok:=⟨_,rfl⟩
 simp only[hok] at hmn hmd hfa
 cases ok with
 |false=>
  obtain⟨cl,page,tns,workers,grey,gens⟩:=c
  dsimp only at hS hT' l1 l2;simp only[jw,jT] at hmn hmd⊢;refine Call.enter2 (n:=155) (by kernel_rfl) Tryz.func6 rfl rfl rfl ?_;refine zcX ?_;intro b2;refine jq (hmn _ ja trivial) ?_;refine zfG ?_;refine zf1 ?_;refine zdb ?_;exact zaT
 |true=>
  obtain⟨z,x,hx,hz,z2,z64,hk,hy,hq,hcl⟩:=hfa rfl
  obtain⟨gg,hgg⟩: ∃ gg,gOf c ((0:Nat):Int)=gg:=⟨_,rfl⟩
  rw[hgg] at hk hy hq
  have hgD: ∀ D y,HMade c 0 D y→D.C.g=gg:=fun D y hM=>by
   obtain⟨x1,g1,g2⟩:=hM.eC
   rw[g2];exact hgg
  clear hfa hgg hok
  obtain⟨cl,page,tns,workers,grey,gens⟩:=c
  obtain⟨x1,x2,x3,x4⟩:=x
  dsimp only at hS hT' l1 l2 hx hz hcl hq;simp only[jw,jT] at hmn hmd⊢
  have eL:((cl.length:Nat):Int)-1=((cl.length-1:Nat):Int):=by omega
  have hclt:cl.length-1<cl.length:=by omega
  have hx':tns[Int.toNat 0]?=some ⟨x1,x2,x3,x4⟩:=hx
  have h0l:=jx hx
  refine Call.enter2 (n:=155) (by kernel_rfl) Tryz.func6 rfl rfl rfl ?_;refine zcN ?_;intro b2;refine zc2 fun T hT=>?_;refine(CallV.fn (hmd _ ja trivial)).mono ?_;rintro _ _ ⟨D,y0,hM,rfl,rfl⟩
  have hD:=hM.ok
  have hC:=hD.C
  have hR0:=hM.R
  have hgD':=hgD D y0 hM
  have hq4:gg.q≤4096:=by have:=hC.g.q;rw [hgD'] at this;exact this
  rw[←hgD'] at hk hy;refine zd ?_;clear hT T;refine zfG ?_;refine zz ?_;refine zcn ?_;refine K.loopT (σ:=DrA) [(1,_),(2,_),(5,_)] (fun s kp_=>(8, .int .i64 (s.i:Nat))::(7,oV s.oS s.S.length)::kp_) (fun s=>hpH D y0 (newH D.C)++(oH haE 37 s.S s.oS++((b2,cells [vc, .int .i64 page,vt, .int .i64 workers, .int .i64 grey, .int .i64 gens] 25)::F))) (fun s=>s.i≤l.length∧s.S.length≤s.i∧oOk haE s.S s.oS∧(∀ x∈s.S,J7 x∧(x.work=false→x.o.c≠4))) (fun s=>l.length-s.i) (⟨0,[],none⟩) jj ja (⟨Nat.zero_le _,Nat.le_refl _,rfl,(fun x hx=>(by cases hx))⟩) ?_;rintro⟨i,S,oS⟩ ⟨hi,hSl,kS,hSo⟩;dsimp only at hi hSl kS hSo⊢
  by_cases hc1:i<l.length
  ·have hc1':((i:Nat):Int)<((l.length:Nat):Int):=by omega
   obtain⟨x,hx9⟩:=jA hc1
   have hxo:=hlo x (List.mem_of_getElem? hx9)
   have hapl:(S++ [x]).length=S.length+1:=by simp
   have hapm:(S++ [x]).length≤maxLen:=by rw[hapl];unfold maxLen;omega
   have hapb:(S++ [x]).length*80≤140737488355328:=by rw[hapl];omega
   clear hapl
   have happ:(x.work=false→x.o.c≠4)→ ∀ y∈S++ [x],J7 y∧(y.work=false→y.o.c≠4):=fun h4 y hy=>by
    rcases List.mem_append.1 hy with hy|hy
    ·exact hSo y hy
    ·obtain rfl:=List.mem_singleton.1 hy;exact⟨hxo,h4⟩
   obtain⟨⟨xc,xh,xa,xb,xv⟩,xH,xV,xw,xk,xu⟩:=x
   dsimp only at happ
   cases xw with
   |true=>
    have happ2:=happ (fun q=>by cases q)
    refine zde ?_;refine zbc ?_;refine zhz ?_;refine zfy ?_;refine zcI ?_;refine zbm ?_;refine ze ?_;refine zk1 ?_;refine zmq ?_;refine zaj ?_;intro b49;refine KL.e rfl (Eff.appZB (E:=haE) (xs:=S) (o:=oS) (ys:=[⟨⟨xc,xh,xa,xb,xv⟩,xH,xV,true,xk,xu⟩]) (zs:=S++ [⟨⟨xc,xh,xa,xb,xv⟩,xH,xV,true,xk,xu⟩]) rfl rfl rfl rfl rfl rfl jn (by assumption) (by first|exact Sli.blk jF rfl (by first|decide|simp) (by first|decide|(unfold maxLen;omega)) rfl|exact Sli.old (by assumption)|exact Sli.own jn (by assumption) j6|assumption|exact Sli.part (by assumption) ja) (rfl) (by assumption) (by assumption)) ?_;rintro _ _ ⟨o',ok',rfl,rfl⟩;refine zgV ?_;exact zmr
   |false=>
    by_cases h4:xc=4
    ·have h4': ¬((xc:Nat):Int)≠4:=by omega
     refine zde ?_;refine zbc ?_;refine zhz ?_;refine zbM ?_;refine zbr ?_;refine zfq ?_;refine zfq ?_;refine zfm ?_;refine zi ?_;refine zed ?_;refine zeD ?_;exact KE.again ⟨i+1,S,oS⟩ jj ja ⟨hc1,(by show S.length≤i+1;omega),kS,hSo⟩ (by show l.length-(i+1)<l.length-i;omega)
    ·have h4':((xc:Nat):Int)≠4:=by omega
     have happ2:=happ (fun _=>h4)
     refine zde ?_;refine zbc ?_;refine zhz ?_;refine zbM ?_;refine zbr ?_;refine zfq ?_;refine zfq ?_;refine zfm ?_;refine zi ?_;refine zag ?_;refine zC ?_;refine zcI ?_;refine zbm ?_;refine ze ?_;refine zk1 ?_;refine zmq ?_;refine zaj ?_;intro b49;refine KL.e rfl (Eff.appZB (E:=haE) (xs:=S) (o:=oS) (ys:=[⟨⟨xc,xh,xa,xb,xv⟩,xH,xV,false,xk,xu⟩]) (zs:=S++ [⟨⟨xc,xh,xa,xb,xv⟩,xH,xV,false,xk,xu⟩]) rfl rfl rfl rfl rfl rfl jn (by assumption) (by first|exact Sli.blk jF rfl (by first|decide|simp) (by first|decide|(unfold maxLen;omega)) rfl|exact Sli.old (by assumption)|exact Sli.own jn (by assumption) j6|assumption|exact Sli.part (by assumption) ja) (rfl) (by assumption) (by assumption)) ?_;rintro _ _ ⟨o',ok',rfl,rfl⟩;refine zgV ?_;exact zmr
  ·have hc1': ¬((i:Nat):Int)<((l.length:Nat):Int):=by omega
   refine za4 ?_;refine zcV ?_;refine zat ?_;refine j4 (run_K (F:=oH haE 37 S oS++((b2,cells [vc, .int .i64 page,vt, .int .i64 workers, .int .i64 grey, .int .i64 gens] 25)::F)) hG hD (hR0.mono (Nat.le_refl _) (by decide)) (by decide) (DrI.run hC (fun x hx=>(hSo x hx).1) (fun x hx=>(hSo x hx).2)) (DrI.new hC) (Sli.own jn kS rfl) (fun x hx=>(hSo x hx).1)) ja ?_;rintro _ _ ⟨f1,y1,h1,tl,otl,hR1,hf1,hDr,kT,hTl,rfl,rfl⟩;refine zcn ?_;refine K.loopT (σ:=DrB) [(2,_),(5,_),(9,_)] (fun s kp_=>(10, .int .i64 (s.k:Nat))::kp_) (fun s=>hpH D s.y s.h++(oH uE 33 tl otl++((b2,cells [vc, .int .i64 page,vt, .int .i64 workers, .int .i64 grey, .int .i64 gens] 25)::F))) (fun s=>s.k≤tl.length∧HpR D s.f 400000000 s.y s.h∧s.f≤200+s.k*2∧DrI D.C s.h (tl.drop s.k)) (fun s=>tl.length-s.k) (⟨0,f1,y1,h1⟩) jj ja (⟨Nat.zero_le _,hR1,(by show f1≤200+0*2;omega),hDr⟩) ?_;rintro⟨k,f2,y2,h2⟩ ⟨hk1,hR2,hf2,hDk⟩;dsimp only at hk1 hR2 hf2 hDk⊢
   by_cases hc2:k<tl.length
   ·have hc2':((k:Nat):Int)<((tl.length:Nat):Int):=by omega
    obtain⟨e0,he0⟩:=jA hc2
    rw[List.drop_eq_getElem_cons hc2,show tl[k]=e0 from(List.getElem?_eq_some_iff.1 he0).2] at hDk
    obtain⟨w,rfl,hw,hDn⟩:=hDk.drop hC
    have hdo:=fun A=>jcf (w0:=w0) (F:=A) hG hD hDk.I hR2 (by omega) (op:=⟨6,w,0,0,0⟩) ⟨(by show(6:Nat)<256;decide),hw,(by show(0:Nat)<18446744073709551616;decide)⟩
    obtain⟨⟨e7,hh7,w77,addr7,us7,si7,cy7,ac7⟩,h8,hv7⟩: ∃ (q:SnP) (h9:HpP),hpDo D.C h2 ⟨6,w,0,0,0⟩=(q,h9):=⟨_,_,rfl⟩
    rw[hv7] at hDn;simp only[hv7] at hdo;unfold opV snV HpQ at hdo;dsimp only at hdo hDn;refine za4 ?_;refine zbW ?_;refine zab ?_;refine zkd ?_;refine zm ?_;refine ze ?_;refine ze8 ?_;refine zjx ?_;refine zM ?_;refine zeE ?_;rintro _ _ ⟨rfl,y3,h3,rfl⟩;refine zdm ?_;refine zek ?_;refine zdY ?_;exact KE.again ⟨k+1,f2+2,y3,h8⟩ jj ja ⟨hc2,h3,(by show f2+2≤200+(k+1)*2;omega),hDn⟩ (by show tl.length-(k+1)<tl.length-k;omega)
   ·have hc2': ¬((k:Nat):Int)<((tl.length:Nat):Int):=by omega
    rw[List.drop_eq_nil_of_le (by omega)] at hDk
    have hdq:=hDk.nil (z:=z)
    have hcyc:=fun A=>jbC (w0:=w0) (F:=A) (D:=D) (y:=y2) (h:=h2)
    have htab:=fun A=>jd0 (w0:=w0) (F:=A) hR2
    refine za4 ?_;refine zbW ?_;refine zT ?_;refine zcf ?_;refine zgT ?_;refine zfR ?_;refine zbo ?_;refine zfR ?_;refine zbo ?_;refine zjO ?_
    (first|(refine KL.v rfl (Val.sub rfl rfl (by simp only[qL,qH];omega)) ?_)|(refine KL.v rfl (Val.subW rfl rfl) ?_))
    rw[eL];refine zk1 ?_;refine zbo ?_;refine zcA ?_;refine zn ?_;refine ji (hcyc _) ja ?_;refine zn ?_;refine ji (htab _) ja ?_;refine zch ?_;refine zdH ?_;refine zcO ?_;refine K.loopT (σ:=DrB) [(2,_),(5,_),(11,_),(13,_)] (fun s kp_=>(12, .int .i64 (s.k:Nat))::(14, .int .i64 (s.k:Nat))::kp_) (fun s=>hpH D s.y s.h++((b2,cells [vc, .int .i64 page,vt, .int .i64 workers, .int .i64 grey, .int .i64 gens] 25)::F)) (fun s=>HpR D s.f 400000000 s.y s.h∧s.f≤400+s.k*2∧DqI D.C z s.k s.h) (fun s=>5000-s.k) (⟨0,f2,y2,h2⟩) jj ja (⟨hR2,(by show f2≤400+0*2;omega),hdq⟩) ?_;rintro⟨n,f3,y3,h3⟩ ⟨hR3,hf3,hDn⟩;dsimp only at hR3 hf3 hDn⊢
    have hnq:=hDn.n_le
    rw[hgD'] at hnq
    have hn2:n*2≤n*z:=Nat.mul_le_mul_left n z2
    have hn5:((n:Nat):Int)<5000:=by omega
    have hdo:=fun A=>jcf (w0:=w0) (F:=A) hG hD hDn.I hR3 (by omega) (op:=⟨1,0,0,((z:Nat):Int)-1,0⟩) ⟨(by show(1:Nat)<256;decide),(by show(0:Nat)<18446744073709551616;decide),(by show(0:Nat)<18446744073709551616;decide)⟩
    have hcs:=dq_do hC hDn ⟨z2,z64⟩ hk hy
    have hus:=jga (C:=D.C) (h:=h3) (op:=⟨1,0,0,((z:Nat):Int)-1,0⟩)
    obtain⟨⟨e,hh,w,addr,us,si,cy,ac⟩,h9,hv⟩: ∃ (q:SnP) (h9:HpP),hpDo D.C h3 ⟨1,0,0,((z:Nat):Int)-1,0⟩=(q,h9):=⟨_,_,rfl⟩
    rw[hv] at hcs hus;simp only[hv] at hdo;unfold opV snV HpQ at hdo;dsimp only at hdo hcs hus;clear hv
    rcases hcs with⟨rfl,hd2⟩|⟨rfl,hnz,husz⟩|⟨rfl,hnz,c0,c2,c1⟩
    ·have hge:=hd2.ge
     have hle:=hd2.n_le
     rw[hgD'] at hle
     have p0:(((n:Nat):Int)+1)*((z:Nat):Int)=(((n+1)*z:Nat):Int):=by push_cast;rfl
     have p1:0≤(((n:Nat):Int)+1)*((z:Nat):Int)∧(((n:Nat):Int)+1)*((z:Nat):Int)≤4096:=by rw[p0];omega
     have p2: ¬us<(((n:Nat):Int)+1)*((z:Nat):Int):=by rw[p0,hus];omega
     refine zaA ?_;refine zab ?_;refine zbc ?_;refine zm ?_;refine zdO ?_;refine zM ?_;refine zeE ?_;rintro _ _ ⟨rfl,y4,h4,rfl⟩;refine zgM ?_;intro b15;refine zG ?_;refine z9 ?_;refine zB ?_;refine zG ?_;refine z9 ?_;refine zB ?_;refine zaE ?_;refine zL ?_;refine zah ?_;refine zai ?_;refine zL ?_;refine zbT ?_;refine zeC ?_;refine ziM ?_;refine zi ?_;refine zT ?_;refine zC ?_;refine zj9 ?_;refine zdY ?_;refine zcg ?_;exact KE.again ⟨n+1,f3+2,y4,h9⟩ jj ja ⟨h4,(by show f3+2≤400+(n+1)*2;omega),hd2⟩ (by show 5000-(n+1)<5000-n;omega)
    ·rw[hgD'] at hnz
     have p3:((n:Nat):Int)=x1/((z:Nat):Int):=by rw[hq,hnz];exact Int.natCast_ediv ..
     have p0:((n:Nat):Int)*((z:Nat):Int)=((n*z:Nat):Int):=by push_cast;rfl
     have p1:0≤((n:Nat):Int)*((z:Nat):Int)∧((n:Nat):Int)*((z:Nat):Int)≤4096:=by rw[p0];omega
     have p2:us=((n:Nat):Int)*((z:Nat):Int):=by rw[p0,hus,husz]
     have p4:0≤x1∧x1≤4096:=by omega
     refine zaA ?_;refine zab ?_;refine zbc ?_;refine zm ?_;refine zdO ?_;refine zM ?_;refine zeE ?_;rintro _ _ ⟨rfl,y4,h4,rfl⟩;refine zgM ?_;intro b15;refine zJ ?_;refine zf9 ?_;refine zI ?_;refine zbr ?_;refine ziZ ?_;refine z8 ?_;refine ze ?_;refine KL.v rfl (Val.quoN rfl rfl (by simp only[qL,qH];omega)) ?_;refine zJ ?_;refine zL ?_;refine zah ?_;refine zai ?_;refine zA ?_;refine ziM ?_;refine zi ?_;refine zJ ?_;refine zbw ?_;refine zn ?_;refine zdb ?_;refine zcE ?_;refine ziu ?_;refine ziu ?_;exact zZ
    ·rw[hgD'] at hnz
     have p3:((n:Nat):Int)≤x1/((z:Nat):Int):=by rw[hq,←Int.natCast_ediv];omega
     have p4:0≤x1∧x1≤4096:=by omega
     refine zaA ?_;refine zab ?_;refine zbc ?_;refine zm ?_;refine zdO ?_;refine zM ?_;refine zq fun T hT=>?_;refine(CallV.part (CallV.fn (hdo _)) ja).mono ?_;rintro _ _ ⟨rfl,y4,h4,rfl⟩
     have hliv:=fun A=>jhI (w0:=w0) (F:=A) h4
     have hret:=fun A=>hyRet_K (w0:=w0) (F:=A) h4
     have hlen:=fun A=>hyLen_K (w0:=w0) (F:=A) h4
     have hsum:=cnt_all (T:=h9.s.W.T) fun e he=>by
      have:=h4.p.p.tb.e e (by rw[h4.p.p.eT];exact he)
      omega
     rw[c0,c1,c2] at hsum;simp only[c1] at hliv
     obtain⟨c3,hc3⟩: ∃ c3,cntP 3 h9.s.W.T=c3:=⟨_,rfl⟩
     rw[hc3] at hsum;simp only[hc3] at hret
     have hT1024:=h4.p.T1024
     have hsum':((n:Nat):Int)+((c3:Nat):Int)=((h9.s.W.T.length:Nat):Int):=by omega
     refine zd ?_;clear hT T;refine zgM ?_;intro b15;refine zG ?_;refine z9 ?_;refine zB ?_;refine zJ ?_;refine zf9 ?_;refine zI ?_;refine zbr ?_;refine ziZ ?_;refine z8 ?_;refine ze ?_;refine KL.v rfl (Val.quoN rfl rfl (by simp only[qL,qH];omega)) ?_;refine zam ?_;refine zeT ?_;refine ji (hliv _) ja ?_;refine zgf ?_;refine ji (hret _) ja ?_;refine zi ?_;refine zbT ?_;refine zgf ?_;refine ji (hlen _) ja ?_;refine zi ?_;refine zf6 ?_;refine ji (hliv _) ja ?_;refine zeC ?_;refine zJ ?_;refine zbw ?_;refine zn ?_;refine zdb ?_;refine zcE ?_;refine ziu ?_;refine ziu ?_;exact zZ
end
end Go.Proofs.YtpcgafhgfjlkmaaGreatDoor.Sw
