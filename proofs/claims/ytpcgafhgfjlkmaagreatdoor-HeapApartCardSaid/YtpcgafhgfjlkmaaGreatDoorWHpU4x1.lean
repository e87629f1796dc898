/-What the law needs of its own,part 1. -/
import Derived.Test.YtpcgafhgfjlkmaaGreatDoorD1
import Derived.WalkKit
import Derived.ProofKit
import Derived.RangeFuncNested
import Derived.RangeFuncBound
import Derived.RangeFuncCalls
import Derived.RangeFuncLeaves
import Derived.Lib.Hide
import Derived.Sort.BigQuietIn
import Derived.Deep.Quiet
import Derived.StillTailTactics
import Derived.Deep.LoopGhost
import Derived.Laws.Cells
import Derived.OrdersIn
import Derived.Deep.OwnRows
import Derived.Laws.CopyOwn
import Derived.IntWalk
import Derived.ArgAppend
import Derived.Deep.Slices
import Derived.Deep.Fields
import Derived.Laws.IdiomStrings
import Derived.Laws.StructEq
import Derived.Maps.RangeRun
import Derived.Laws.Externs
import Derived.Laws.FloatArith
import Derived.Laws.NewFold
import Derived.RecoverIn
import Derived.Shelf.Strconv.Itoa0
import Derived.Shelf.Bits.Mul64
import Derived.Shelf.Slices.Turned
import Derived.Test.YtpcgafhgfjlkmaaGreatDoorProg
import Derived.SizedLaws
import Derived.Lib.SmallJoins
import Derived.ChangeMaps5
import Derived.Lib.TrailingZeros
import Derived.Lib.BitFns
import Derived.Shelf.Spec.TrailingZeros
import Derived.Test.YtpcgafhgfjlkmaaGreatDoorRows
import Derived.OpenShut
import Derived.LaidMore
import Derived.Lay
import Derived.LaidHandle
import Derived.Test.YtpcgafhgfjlkmaaGreatDoorJ39
set_option linter.unusedVariables false set_option linter.unusedSimpArgs false namespace Go.Proofs.YtpcgafhgfjlkmaaGreatDoor
set_option maxHeartbeats 8000000
open Go.RowKit
set_option linter.unusedVariables false
set_option linter.unusedSimpArgs false
section
variable {P : Program} {w0 : World} {m : jl} {H F : jb} {ty : TypeId} {v : Value}
theorem Val.neqA {t u:TypeId} {x y:Operand} {xs ys:List Value} {r:Bool} (hx:evO m x=some (.agg xs.toArray)) (hy:evO m y=some (.agg ys.toArray)) (hg:P.eqGuardType P.depth t=false) (h:EqV P (9999+1) t (.agg xs.toArray) (.agg ys.toArray) r):Val P w0 H m ty (.binOp .neq t x y u) (.bool (!r)):=
 ⟨by simp[jB,cov,hx,hy],fun w d pos af g _=>by
  have e1:=run_eqGuard_agg (P:=P) w .neq t x y xs.toArray ys.toArray hg
  have e2:=eqV_run _ h w
  simp[execOp,evS,hx,hy,e1,binOp,jdl,e2]⟩
theorem Val.neqAE {t u:TypeId} {x y:Operand} {xs ys:List Value} {r:Bool} (hx:evO m x=some (.agg xs.toArray)) (hy:evO m y=some (.agg ys.toArray)) (hg:P.eqGuardType P.depth t=false) (h:EqV P (9999+1) t (.agg xs.toArray) (.agg ys.toArray) r) (hr:r=true):Val P w0 H m ty (.binOp .neq t x y u) (.bool false):=
 Val.isB (Val.neqA hx hy hg h) (by rw[hr];rfl)
theorem Val.neqAN {t u:TypeId} {x y:Operand} {xs ys:List Value} {r:Bool} (hx:evO m x=some (.agg xs.toArray)) (hy:evO m y=some (.agg ys.toArray)) (hg:P.eqGuardType P.depth t=false) (h:EqV P (9999+1) t (.agg xs.toArray) (.agg ys.toArray) r) (hr:r=false):Val P w0 H m ty (.binOp .neq t x y u) (.bool true):=
 Val.isB (Val.neqA hx hy hg h) (by rw[hr];rfl)
end
open Go.RowKit Go.ChangeShapes Go.WideShapes
set_option autoImplicit false
theorem byBlk {G G':Prop} (k:G') (h:G'→G:=by intro k;((repeat (refine KE.next ?_));(first|refine K.block ?_|refine K.seq (K.block ?_)));exact k):G:=h k
open Go.RowKit Go.ChangeShapes Go.WideShapes Go.ChangeAt Go.Deep
variable {P : Program}
theorem slice_sl {α:Type} {E:Enc α} {H:Type} {enc:TypeId × Value→H} {W:World} {base:Nat} {t e:TypeId} (ht:P.underlying t=some (.slice e)) (hk:P.cellsOf e=E.sz) (hk0:0<E.sz) {v:Value} {d:DataW H} {p:List MemPlace}
  (ho:Value.okWide P W .any base t v) (h:DataW.Trod enc P W 0 (fun _=>true) true t v d p) (Ok:α→Prop)
  (hR: ∀ fuel cs x,DataW.trod enc P W 0 (fun _=>true) true fuel e cs=some x→cs.length=E.sz→ ∃ y,cs=E.enc y∧Ok y):
  ∃ ys:List α,SlW W E v ys∧ ∀ y∈ys,Ok y:=by
 obtain⟨a,len,cap,rfl⟩:=okWide_slice ht ho
 obtain⟨fuel,hf⟩:=h
 rcases open_slice ht hf with⟨hcs,_⟩|⟨a',len',cap',m,n,D,Pl,hcs,_,hl,hm,hmm,_,hx⟩
 ·simp[Value.cells] at hcs
  obtain⟨rfl,rfl,rfl⟩:=hcs
  exact⟨[],SlW.nil W E,fun y hy=>by cases hy⟩
 ·simp[Value.cells] at hcs
  obtain⟨rfl,rfl,rfl⟩:=hcs
  simp only[if_true] at hmm;subst hmm
  have key: ∀ i,i<len→ ∃ y,Ok y∧ ∀ j,j<E.sz→W.cell? (a'.add (i*E.sz+j))=(E.enc y)[j]? :=by
   intro i hi
   obtain⟨cs',h1,h2⟩:=hx i (by omega)
   rw[hk] at h1
   obtain⟨_,hlen,hat⟩:=World.cells?_some h1
   obtain⟨y,rfl,hy⟩:=hR _ _ _ h2 hlen
   exact zkP
  obtain⟨ys,hys,hall⟩:=jgC len (fun i y=>Ok y∧ ∀ j,j<E.sz→W.cell? (a'.add (i*E.sz+j))=(E.enc y)[j]?) key
  subst hys
  have hspot:0<ys.length→ ∃ b off,a'=⟨b,off,none⟩:=by
   intro hpos
   obtain⟨b,off,spot⟩:=a'
   obtain⟨y0,_,hc0⟩:=key 0 hpos
   have h1:=hc0 0 hk0
   rw[List.getElem?_eq_getElem (by rw[E.len];exact hk0)] at h1
   have hsp:spot=none:=by simpa [Addr.add] using World.cell?_spot h1
   subst hsp;exact⟨b,off,rfl⟩
  refine⟨ys,⟨⟨some a',m,rfl,hl,hm,fun hne=>?_⟩,?_⟩,?_⟩
  ·obtain⟨b,off,rfl⟩:=hspot (List.length_pos_iff.2 hne)
   exact⟨b,off,rfl⟩
  ·intro i y hy j u hu
   have hi:=(List.getElem?_eq_some_iff.1 hy).1
   obtain⟨b,off,rfl⟩:=hspot (by omega)
   have hj:j<E.sz:=by have:=(List.getElem?_eq_some_iff.1 hu).1;rwa[E.len] at this
   have:=(hall i y hy).2 j hj
   rw[jbb,hu] at this
   simpa [adr] using this
  ·intro y hy
   obtain⟨i,hi⟩:=List.getElem?_of_mem hy
   exact(hall i y hi).1
open Go.RowKit Go.ChangeShapes Go.WideShapes Go.ChangeAt Go.Deep Go.Joins
set_option maxRecDepth 100000
def jaJ (z:Int):Prop:=0≤z∧z≤18446744073709551615
def u8ok (z:Int):Prop:=0≤z∧z≤255
theorem jbF {z:Int} (h:(Lit.int .u64 z).wf=true):jaJ z:=by simpa [Lit.wf,IntKind.min,IntKind.max,IntKind.signed,IntKind.bits,jaJ] using h
theorem wf_u8 {z:Int} (h:(Lit.int .u8 z).wf=true):u8ok z:=by simpa [Lit.wf,IntKind.min,IntKind.max,IntKind.signed,IntKind.bits,u8ok] using h
end Go.Proofs.YtpcgafhgfjlkmaaGreatDoor
namespace Go.Proofs.YtpcgafhgfjlkmaaGreatDoor.Sw
open Go.Proofs.YtpcgafhgfjlkmaaGreatDoor renaming lo → qL, hi → qH
open Go.RowKit
set_option maxRecDepth 10000
section
variable {g : PlG} {x x' : List Int} {t : Nat} {y : jg}
theorem jiU (ok:jc g) (h:jJ g x x' t) (hy:g.L[t]?=some y) {i:Int}:wordP x' y i=wordP x y i:=by
 grind[wordP,jeP,jkF]
end
set_option maxRecDepth 10000
section
variable {w0 : World} {F : jb} {y : CyM} {s : CyP} {g : PlG} {long : Nat}
theorem cAll_K (h:CpR g long y s):Call Tryz.prog w0 20 [.pointer (some ⟨y.B.m.b,0,none⟩)] (cycH y++F)
  (fun r H'=> ∃ o,oOk uE y.B.m.R.flatten o∧r=oV o y.B.m.R.flatten.length∧H'=oH uE 33 y.B.m.R.flatten o++(cycH y++F)):=by
 refine Call.at_ (All_K h.p.bo.m) (by simp only[cycH_app];exact ja) ?_;rintro _ _ ⟨o,ko,rfl,rfl⟩;exact zkR
end
open Go.RowKit
set_option maxRecDepth 10000
section
variable {w0 : World} {D : HpD} {nf nk n : Nat} {y y' : CyM} {h : HpP} {s s' : CyP} {F G : jb} {op : OpP} {z : jg}
theorem jbC:Call Tryz.prog w0 17 [.pointer (some ⟨D.b,0,none⟩)] (hpH D y h++F) (fun r H'=>r= .pointer (some ⟨D.yb,0,none⟩)∧H'=hpH D y h++F):=by
 have hnone:=fun A=>jb5 (w0:=w0) (D:=D) (y:=y) (h:=h) (F:=A)
 refine zfX ?_;refine zfN ?_;refine za2 ?_;exact zfM
end
set_option maxRecDepth 10000
theorem jdy {T:List Int} {i:Int} {d:Nat} (h: ¬(0≤i∧0<T.length)):pickT T i d=d:=if_neg h
section
variable {w0 : World} {F : jb} {x : jU} {T : List Int} {v : Value}
set_option maxHeartbeats 1000000 in
theorem op_K (hx:J7 x) (hS:Sli w0 F uE v T) (hT:u64s T):Call Tryz.prog w0 15 [.agg (acL x).toArray,v] F (fun r H'=>r=opV (opA x T)∧H'=F):=by
 obtain⟨⟨c,h,a,b,vv⟩,H,V,wk,k,u⟩:=x
 unfold acL opV opA;dsimp only
 by_cases hl:0<T.length
 ·have hl0:((T.length:Nat):Int)>0:=by omega
  have hl1: ¬((T.length:Nat):Int)=0:=by omega
  by_cases hH:0≤H
  ·have hH':H≥0:=hH
   obtain⟨i,e,i1,i2,i3,i4⟩:=pick_at hT hH hl h
   have i3':T[((i:Nat):Int).toNat]?=some ((e:Nat):Int):=i3
   rw[i4]
   by_cases hV:0≤V
   ·have hV':V≥0:=hV
    obtain⟨j,f,j1q,j2,j3q,j4q⟩:=pick_at hT hV hl vv
    have j3':T[((j:Nat):Int).toNat]?=some ((f:Nat):Int):=j3q
    rw[j4q];refine Call.enter2 (n:=43) (by kernel_rfl) Tryz.func15 rfl rfl rfl ?_;refine zit ?_;intro b2 b4;refine zaZ ?_;refine z3 ?_;refine zfd ?_;intro b5;refine zdH ?_;refine zca ?_;refine zp ?_;refine zaz ?_;refine zA ?_;refine zcx ?_;refine zbs ?_;refine zw ?_;refine zcI ?_;refine zdC ?_
    (first|(refine KL.v rfl (Val.fieldSl (k:=5) rfl rfl) ?_)|(refine KL.v rfl (Val.fieldAddr0 (k:=5) rfl rfl) ?_)|(refine KL.v rfl (Val.fieldAddrZ rfl rfl) ?_)|(refine KL.v rfl (Val.fieldAddr (k:=5) rfl rfl) ?_))
    refine zbo ?_;refine ze ?_;refine zjO ?_
    (first|(refine KL.v rfl (Val.remN rfl rfl (by omega)) ?_)|(refine KL.v rfl (Val.rem rfl rfl (by omega)) ?_))
    rw[i1];refine zk1 ?_;refine zbo ?_;refine zc7 ?_;refine zfW ?_;refine zdH ?_;refine zbI ?_;refine zp ?_;refine zaz ?_;refine zA ?_;refine zcx ?_;refine zbs ?_;refine zw ?_;refine zcI ?_;refine zdC ?_
    (first|(refine KL.v rfl (Val.fieldSl (k:=6) rfl rfl) ?_)|(refine KL.v rfl (Val.fieldAddr0 (k:=6) rfl rfl) ?_)|(refine KL.v rfl (Val.fieldAddrZ rfl rfl) ?_)|(refine KL.v rfl (Val.fieldAddr (k:=6) rfl rfl) ?_))
    refine zbo ?_;refine ze ?_;refine zjO ?_
    (first|(refine KL.v rfl (Val.remN rfl rfl (by omega)) ?_)|(refine KL.v rfl (Val.rem rfl rfl (by omega)) ?_))
    rw[j1q];refine zk1 ?_;refine zbo ?_
    (first|(refine KL.v rfl (Val.fieldSl (k:=4) rfl rfl) ?_)|(refine KL.v rfl (Val.fieldAddr0 (k:=4) rfl rfl) ?_)|(refine KL.v rfl (Val.fieldAddrZ rfl rfl) ?_)|(refine KL.v rfl (Val.fieldAddr (k:=4) rfl rfl) ?_))
    refine zfW ?_;refine zW ?_;refine zlh ?_;exact zZ
   ·have hV': ¬V≥0:=hV
    rw[jdy (i:=V) (fun q=>hV q.1)];refine Call.enter2 (n:=43) (by kernel_rfl) Tryz.func15 rfl rfl rfl ?_;refine zit ?_;intro b2 b4;refine zaZ ?_;refine z3 ?_;refine zfd ?_;intro b5;refine zdH ?_;refine zca ?_;refine zp ?_;refine zaz ?_;refine zA ?_;refine zcx ?_;refine zbs ?_;refine zw ?_;refine zcI ?_;refine zdC ?_
    (first|(refine KL.v rfl (Val.fieldSl (k:=5) rfl rfl) ?_)|(refine KL.v rfl (Val.fieldAddr0 (k:=5) rfl rfl) ?_)|(refine KL.v rfl (Val.fieldAddrZ rfl rfl) ?_)|(refine KL.v rfl (Val.fieldAddr (k:=5) rfl rfl) ?_))
    refine zbo ?_;refine ze ?_;refine zjO ?_
    (first|(refine KL.v rfl (Val.remN rfl rfl (by omega)) ?_)|(refine KL.v rfl (Val.rem rfl rfl (by omega)) ?_))
    rw[i1];refine zk1 ?_;refine zbo ?_;refine zc7 ?_;refine zfW ?_;refine zdH ?_;refine zbI ?_;refine zp ?_;refine zbO ?_;refine zax ?_;refine zz ?_;refine zlh ?_;exact zZ
  ·have hH': ¬H≥0:=hH
   rw[jdy (i:=H) (fun q=>hH q.1)]
   by_cases hV:0≤V
   ·have hV':V≥0:=hV
    obtain⟨j,f,j1q,j2,j3q,j4q⟩:=pick_at hT hV hl vv
    have j3':T[((j:Nat):Int).toNat]?=some ((f:Nat):Int):=j3q
    rw[j4q];refine Call.enter2 (n:=43) (by kernel_rfl) Tryz.func15 rfl rfl rfl ?_;refine zit ?_;intro b2 b4;refine zaZ ?_;refine z3 ?_;refine zfd ?_;intro b5;refine zdH ?_;refine zca ?_;refine zp ?_;refine zbO ?_;refine zax ?_;refine z9 ?_;refine zbI ?_;refine zp ?_;refine zaz ?_;refine zA ?_;refine zcx ?_;refine zbs ?_;refine zw ?_;refine zcI ?_;refine zdC ?_
    (first|(refine KL.v rfl (Val.fieldSl (k:=6) rfl rfl) ?_)|(refine KL.v rfl (Val.fieldAddr0 (k:=6) rfl rfl) ?_)|(refine KL.v rfl (Val.fieldAddrZ rfl rfl) ?_)|(refine KL.v rfl (Val.fieldAddr (k:=6) rfl rfl) ?_))
    refine zbo ?_;refine ze ?_;refine zjO ?_
    (first|(refine KL.v rfl (Val.remN rfl rfl (by omega)) ?_)|(refine KL.v rfl (Val.rem rfl rfl (by omega)) ?_))
    rw[j1q];refine zk1 ?_;refine zbo ?_
    (first|(refine KL.v rfl (Val.fieldSl (k:=4) rfl rfl) ?_)|(refine KL.v rfl (Val.fieldAddr0 (k:=4) rfl rfl) ?_)|(refine KL.v rfl (Val.fieldAddrZ rfl rfl) ?_)|(refine KL.v rfl (Val.fieldAddr (k:=4) rfl rfl) ?_))
    refine zfW ?_;refine zW ?_;refine zlh ?_;exact zZ
   ·have hV': ¬V≥0:=hV
    rw[jdy (i:=V) (fun q=>hV q.1)];refine Call.enter2 (n:=43) (by kernel_rfl) Tryz.func15 rfl rfl rfl ?_;refine zit ?_;intro b2 b4;refine zaZ ?_;refine z3 ?_;refine zfd ?_;intro b5;refine zdH ?_;refine zca ?_;refine zp ?_;refine zbO ?_;refine zax ?_;refine z9 ?_;refine zbI ?_;refine zp ?_;refine zbO ?_;refine zax ?_;refine zz ?_;refine zlh ?_;exact zZ
 ·have hl0: ¬((T.length:Nat):Int)>0:=by omega
  rw[jdy (i:=H) (fun q=>hl q.2),jdy (i:=V) (fun q=>hl q.2)]
  by_cases hH:0≤H
  ·have hH':H≥0:=hH
   by_cases hV:0≤V
   ·have hV':V≥0:=hV
    refine Call.enter2 (n:=43) (by kernel_rfl) Tryz.func15 rfl rfl rfl ?_;refine zit ?_;intro b2 b4;refine zaZ ?_;refine z3 ?_;refine zfd ?_;intro b5;refine zdH ?_;refine zca ?_;refine zp ?_;refine zaz ?_;refine zA ?_;refine zcx ?_;refine zcq ?_;refine zw ?_;refine z9 ?_;refine zbI ?_;refine zp ?_;refine zaz ?_;refine zA ?_;refine zcx ?_;refine zcq ?_;refine zw ?_;refine zz ?_;refine zlh ?_;exact zZ
   ·have hV': ¬V≥0:=hV
    refine Call.enter2 (n:=43) (by kernel_rfl) Tryz.func15 rfl rfl rfl ?_;refine zit ?_;intro b2 b4;refine zaZ ?_;refine z3 ?_;refine zfd ?_;intro b5;refine zdH ?_;refine zca ?_;refine zp ?_;refine zaz ?_;refine zA ?_;refine zcx ?_;refine zcq ?_;refine zw ?_;refine z9 ?_;refine zbI ?_;refine zp ?_;refine zbO ?_;refine zax ?_;refine zz ?_;refine zlh ?_;exact zZ
  ·have hH': ¬H≥0:=hH
   by_cases hV:0≤V
   ·have hV':V≥0:=hV
    refine Call.enter2 (n:=43) (by kernel_rfl) Tryz.func15 rfl rfl rfl ?_;refine zit ?_;intro b2 b4;refine zaZ ?_;refine z3 ?_;refine zfd ?_;intro b5;refine zdH ?_;refine zca ?_;refine zp ?_;refine zbO ?_;refine zax ?_;refine z9 ?_;refine zbI ?_;refine zp ?_;refine zaz ?_;refine zA ?_;refine zcx ?_;refine zcq ?_;refine zw ?_;refine zz ?_;refine zlh ?_;exact zZ
   ·have hV': ¬V≥0:=hV
    refine Call.enter2 (n:=43) (by kernel_rfl) Tryz.func15 rfl rfl rfl ?_;refine zit ?_;intro b2 b4;refine zaZ ?_;refine z3 ?_;refine zfd ?_;intro b5;refine zdH ?_;refine zca ?_;refine zp ?_;refine zbO ?_;refine zax ?_;refine z9 ?_;refine zbI ?_;refine zp ?_;refine zbO ?_;refine zax ?_;refine zz ?_;refine zlh ?_;exact zZ
end
set_option maxRecDepth 10000
def haE:Enc jU:=⟨acL,10,fun _=>rfl,by intro x v hv;simp[acL] at hv;rcases hv with rfl|rfl|rfl|rfl|rfl|rfl|rfl|rfl|rfl|rfl<;>rfl⟩
open Go.RowKit Go.ChangeShapes Go.WideShapes Go.ChangeAt Go.Deep Go.Joins
set_option maxRecDepth 100000
section
variable {H : Type} {enc : TypeId × Value → H} {W : World}
theorem jdL {fuel:Nat} {cs:List Value} {x:DataW H × List MemPlace} (hx:DataW.trod enc Tryz.prog W 0 (fun _=>true) true fuel 35 cs=some x) (hlen:cs.length=5): ∃ y:OpP,cs=[.int .u8 (y.c:Nat), .int .u64 (y.h:Nat), .int .i64 y.a, .int .i64 y.b, .int .u64 (y.v:Nat)]∧JN y:=by
 obtain⟨c0,c1,c2,c3,c4,rfl⟩: ∃ c0 c1 c2 c3 c4,cs=[c0,c1,c2,c3,c4]:=by
  match cs,hlen with
  | [c0,c1,c2,c3,c4],_=>exact⟨c0,c1,c2,c3,c4,rfl⟩
 obtain⟨xs,n,_,rfl,hl,hxl,hf⟩:=DataW.trod_struct Tryz.underlying35 hx
 have k8:(Tryz.prog).cellsOf 5=1:=by kernel_rfl
 have ku:(Tryz.prog).cellsOf 33=1:=by kernel_rfl
 have ki:(Tryz.prog).cellsOf 3=1:=by kernel_rfl
 match xs,hxl with
 | [y0,y1,y2,y3,y4],_=>
  have h0:=hf 0 _ rfl
  have h1:=hf 1 _ rfl
  have h2:=hf 2 _ rfl
  have h3:=hf 3 _ rfl
  have h4:=hf 4 _ rfl
  obtain⟨a0,e0,-,w0⟩:=DataW.trod_int Tryz.underlying5 (by simpa [k8,ku,ki] using h0)
  obtain⟨a1,e1,-,w1⟩:=DataW.trod_int Tryz.underlying33 (by simpa [k8,ku,ki] using h1)
  obtain⟨a2,e2,-,w2⟩:=DataW.trod_int Tryz.underlying3 (by simpa [k8,ku,ki] using h2)
  obtain⟨a3,e3,-,w3⟩:=DataW.trod_int Tryz.underlying3 (by simpa [k8,ku,ki] using h3)
  obtain⟨a4,e4,-,w4⟩:=DataW.trod_int Tryz.underlying33 (by simpa [k8,ku,ki] using h4)
  simp at e0 e1 e2 e3 e4
  have hu0:=wf_u8 w0
  have hu1:=jbF w1
  have hu4:=jbF w4
  unfold u8ok at hu0;unfold jaJ at hu1 hu4
  obtain⟨n0,rfl⟩: ∃ n0:Nat,a0=n0:=⟨a0.toNat,by omega⟩
  obtain⟨n1,rfl⟩: ∃ n1:Nat,a1=n1:=⟨a1.toNat,by omega⟩
  obtain⟨n4,rfl⟩: ∃ n4:Nat,a4=n4:=⟨a4.toNat,by omega⟩
  subst e0 e1 e2 e3 e4;exact zjM
theorem hact_in {fuel:Nat} {cs:List Value} {x:DataW H × List MemPlace} (hx:DataW.trod enc Tryz.prog W 0 (fun _=>true) true fuel 37 cs=some x) (hlen:cs.length=10): ∃ y:jU,cs=haE.enc y∧J7 y:=by
 obtain⟨c0,c1,c2,c3,c4,c5,c6,c7,c8,c9,rfl⟩: ∃ c0 c1 c2 c3 c4 c5 c6 c7 c8 c9,cs=[c0,c1,c2,c3,c4,c5,c6,c7,c8,c9]:=by
  match cs,hlen with
  | [c0,c1,c2,c3,c4,c5,c6,c7,c8,c9],_=>exact⟨c0,c1,c2,c3,c4,c5,c6,c7,c8,c9,rfl⟩
 obtain⟨xs,n,hn,rfl,hl,hxl,hf⟩:=DataW.trod_struct Tryz.underlying37 hx
 have k8:(Tryz.prog).cellsOf 5=1:=by kernel_rfl
 have kb:(Tryz.prog).cellsOf 4=1:=by kernel_rfl
 have ki:(Tryz.prog).cellsOf 3=1:=by kernel_rfl
 have ko:(Tryz.prog).cellsOf 35=5:=by kernel_rfl
 match xs,hxl with
 | [y0,y1,y2,y3,y4,y5],_=>
  have h0:=hf 0 _ rfl
  have h1:=hf 1 _ rfl
  have h2:=hf 2 _ rfl
  have h3:=hf 3 _ rfl
  have h4:=hf 4 _ rfl
  have h5:=hf 5 _ rfl
  obtain⟨o,eo,ho⟩:=jdL (cs:=[c0,c1,c2,c3,c4]) (by simpa [k8,kb,ki,ko] using h0) rfl
  obtain⟨a1,e1,-,w1⟩:=DataW.trod_int Tryz.underlying3 (by simpa [k8,kb,ki,ko] using h1)
  obtain⟨a2,e2,-,w2⟩:=DataW.trod_int Tryz.underlying3 (by simpa [k8,kb,ki,ko] using h2)
  obtain⟨a3,e3,-⟩:=DataW.trod_bool Tryz.underlying4 (by simpa [k8,kb,ki,ko] using h3)
  obtain⟨a4,e4,-,w4⟩:=DataW.trod_int Tryz.underlying3 (by simpa [k8,kb,ki,ko] using h4)
  obtain⟨a5,e5,-,w5⟩:=DataW.trod_int Tryz.underlying5 (by simpa [k8,kb,ki,ko] using h5)
  simp at eo e1 e2 e3 e4 e5
  have hu:=wf_u8 w5
  unfold u8ok at hu
  obtain⟨n5,rfl⟩: ∃ n5:Nat,a5=n5:=⟨a5.toNat,by omega⟩
  obtain⟨q0,q1,q2,q3,q4⟩:=eo
  subst q0 q1 q2 q3 q4 e1 e2 e3 e4 e5;exact zkQ
end
open Go.RowKit
set_option maxRecDepth 10000
theorem jhJ {α:Type} {l m:List α} {k:Nat} (hl:l.length=m.length) (h:l.take k=m.take k) (hk:l.length≤k):l=m:=by
 rwa[List.take_of_length_le hk,List.take_of_length_le (by omega)] at h
theorem htake_eq {l m:List Int} {k:Nat} {a:Int} (h:l.take k=m.take k) (h1:l[k]?=some a) (h2:m[k]?=some a):l.take (k+1)=m.take (k+1):=by
 rw[jca h1,jca h2,h]
structure HsQ where
 k:Nat
theorem jik {w0:World} {H:jb} {va vb:Value} {l m:List Int} (h1:Sli w0 H uE va l) (h2:Sli w0 H uE vb m) (hl:l.length≤4294967296):
  Call Tryz.prog w0 19 [va,vb] H (fun r H'=>r= .bool (decide (l=m))∧H'=H):=by
 refine Call.enter2 (n:=26) (by kernel_rfl) Tryz.func19 rfl rfl rfl ?_
 by_cases hlm:l.length=m.length
 ·have hne: ¬((l.length:Nat):Int)≠((m.length:Nat):Int):=by omega
  refine zfF ?_;refine ze ?_;refine zad ?_;refine zaE ?_;refine z9 ?_;refine zcO ?_;refine zmo ?_;rintro⟨k⟩ ⟨hk,he⟩;dsimp only at hk he⊢
  by_cases hlt:k<l.length
  ·obtain⟨x,hx⟩:=jA hlt
   obtain⟨y,hy⟩:=jA (l:=m) (k:=k) (by omega)
   by_cases hxy:x=y
   ·have hxy2: ¬x≠y:=fun h=>h hxy
    refine zfp ?_;refine zeu ?_;refine zd3 ?_;refine zd3 ?_;refine zfS ?_;refine zD ?_;refine zbH ?_;refine zcg ?_;subst hxy;exact zmp
   ·have hne2:l≠m:=fun h=>hxy (by rw[h,hy] at hx;cases hx;rfl)
    refine zfp ?_;refine zeu ?_;refine zd3 ?_;refine zd3 ?_;refine zjl ?_;refine zD ?_;refine zcs ?_;refine zfj ?_;exact zjN
  ·have heq:l=m:=jhJ hlm he (by omega)
   refine za4 ?_;refine zcV ?_;refine zf ?_;exact KE.fin je rfl jd ja ⟨by rw[decide_eq_true heq];rfl,rfl⟩
 ·have hne:((l.length:Nat):Int)≠((m.length:Nat):Int):=by omega
  have hne2:l≠m:=fun h=>hlm (by rw[h])
  refine zfF ?_;refine ze ?_;refine zad ?_;refine zag ?_;refine zav ?_;exact zjN
section
variable {w0 : World} {F : jb} {D : HpD} {y : CyM} {h : HpP} {nf nk : Nat}
def allW (D:HpD) (h:HpP):List Int:=(D.R0.set D.C.tn h.s.W.x).flatten
theorem jf4 (h1:HpR D nf nk y h):Call Tryz.prog w0 20 [.pointer (some ⟨D.mb,0,none⟩)] (hpH D y h++F) (fun r H'=> ∃ o,oOk uE (allW D h) o∧r=oV o (allW D h).length∧H'=oH uE 33 (allW D h) o++(hpH D y h++F)):=by
 have hc:=fun A=>cAll_K (w0:=w0) (F:=A) h1.p
 rw[h1.m,h1.R] at hc;refine zjD ?_;rintro _ _ ⟨o,ko,rfl,rfl⟩;exact zkZ
variable {c : Cfg} {vc vt v : Value} {l : List jU} {x : jU}
end
open Go.RowKit Go.ChangeShapes Go.WideShapes Go.ChangeAt Go.Deep Go.Joins
set_option maxRecDepth 100000
theorem jdB {H:Type} {enc:TypeId × Value→H} {W:World} {base:Nat} {v:Value} {d:DataW H} {p:List MemPlace} (ho:Value.okWide Tryz.prog W .any base 26 v) (h:DataW.Trod enc Tryz.prog W 0 (fun _=>true) true 26 v d p):
  ∃ l:List jU,SlW W haE v l∧ ∀ x∈l,J7 x:=slice_sl (P:=Tryz.prog) (E:=haE) Tryz.underlying26 (by kernel_rfl) (by decide) ho h J7 (fun fuel cs x hx hl=>hact_in hx hl)
open Go.RowKit
set_option maxRecDepth 10000
section
variable {C : HpC} {h h' : HpP} {s s' : CyP} {n t : Nat}
theorem HpE.stp' (hC:jk C) (e:HpE C h h') (k u:Int):HpE C h (jay C h' k u).2:=(e.symm.stp hC k u).symm
def IsS (is:CyP→Bool):Prop:= ∀ s s':CyP,s'.A=s.A→s'.W.T=s.W.T→is s'=is s
theorem HpE.room1 (hC:jk C) {is:CyP→Bool} (hi:IsS is) (e:HpE C h h'):HpE C (JC C is h) (JC C is h'):=by
 unfold JC;rw[hi _ _ e.A e.T]
 by_cases c:is h.s=false∧h.s.ph≠0
 ·rw[if_pos c,if_pos ⟨c.1,fun q=>c.2 (e.ph.2 q)⟩];exact e.end_ hC c.2
 ·rw[if_neg c,if_neg fun q=>c ⟨q.1,fun w=>q.2 (e.ph.1 w)⟩];omega
theorem HpE.room (hC:jk C) {is:CyP→Bool} (hi:IsS is) (e:HpE C h h'):HpE C (Jz C is h) (Jz C is h'):=by
 have e1:=e.room1 hC hi
 unfold Jz;rw[hi _ _ e1.A e1.T]
 split
 ·omega
 ·rename_i c
  have h0:=jd5 c
  exact(e1.begin hC h0).end_ hC (by show(1:Nat)≠0;decide)
theorem HpE.pays1 (hC:jk C): ∀ (d:Nat) {h:HpP},HpE C h h'→d≤M62→HpE C (jaa C d h) h'
 |0,h,e,_=>e
 |d+1,h,e,hd=>by
  unfold jaa
  cases hh:jZ C.g C.long h.s with
  |none=>omega
  |some s'=>
   have hb:=e.I.pb
   exact HpE.pays1 hC d (e.one hC (.inl hh) (p:={h.p with debt:=d}) rfl rfl rfl ⟨hb.s,hb.t,by grind,hb.c⟩) (by omega)
theorem HpE.pays (hC:jk C) {d d':Nat} (hd:d≤M62) (hd':d'≤M62) (e:HpE C h h'):HpE C (jaa C d h) (jaa C d' h'):=((e.pays1 hC d hd).symm.pays1 hC d' hd').symm
theorem HpE.paced (hC:jk C) (e:HpE C h h'):HpE C (jaS C n h) (jaS C n h'):=by
 have hd:(Ja C.tr C.ast n h'.p).1=(Ja C.tr C.ast n h.p).1:=by unfold Ja;rw [e.si,e.ac]
 have e1:HpE C {h with p:=(Ja C.tr C.ast n h.p).2} {h' with p:=(Ja C.tr C.ast n h'.p).2}:=by
  refine⟨e.I.mv hC (wr:=true) (.free rfl fun hb=>hb.ask _ _ _),e.I'.mv hC (wr:=true) (.free rfl fun hb=>hb.ask _ _ _),?_,e.cy,e.ac,e.r⟩;unfold Ja;rw [e.si]
 have b1:=e1.I.pb.d
 have b2:=e1.I'.pb.d
 have e2:=e1.pays hC b1 b2
 have ha:(jaa C (Ja C.tr C.ast n h.p).2.debt {h with p:=(Ja C.tr C.ast n h.p).2}).p.act=h.p.act:=(jd7 _ _).trans rfl
 have hp:=e2.I.pa
 rw[ha] at hp;unfold jaS jcE;rw[hd]
 split
 ·rename_i c
  rw[jdE.1 c] at hp;exact e2.begin hC (Classical.byContradiction fun q=>by grind)
 ·split
  ·rename_i c
   rw[jdE.2 c] at hp;exact e2.end_ hC (of_decide_eq_true hp.symm)
  omega
theorem jfN:IsS j5:=fun s s' _ hT=>by grind[j5]
theorem jkv {sz:Nat}:IsS (fitsB C.g sz):=fun s s' hA _=>by grind[fitsB]
theorem isS_both {sz:Nat}:IsS (fun s=>fitsB C.g sz s&&j5 s):=fun s s' hA hT=>by dsimp only;rw [jkv (C:=C) s s' hA hT,jfN s s' hA hT]
end
open Go.RowKit
set_option maxRecDepth 10000
section
variable {C : HpC} {h h' : HpP} {s s' : CyP} {n t : Nat}
theorem alloc_E (hC:jk C) (e:HpE C h h') {a b:Int}:(jE C h' a b).1=(jE C h a b).1∧HpE C (jE C h a b).2 (jE C h' a b).2:=by
 unfold jE
 split
 ·grind
 ·rename_i hm
  split
  ·grind
  ·rename_i hk
   dsimp only
   have e1:HpE C (allocR C h (classI C.g (a+b+1))) (allocR C h' (classI C.g (a+b+1))):=e.room hC isS_both
   have hI1:=e1.I
   revert e1 hI1
   generalize allocR C h (classI C.g (a+b+1))=h1
   generalize allocR C h' (classI C.g (a+b+1))=h1'
   intro e1 hI1;rw[jkv (C:=C) (sz:=C.g.y (classI C.g (a+b+1))) h1.s h1'.s e1.A e1.T,jfN h1.s h1'.s e1.A e1.T]
   split
   ·grind
   ·split
    ·grind
    ·rename_i h2 h3
     have ht:=jfx hC hI1 (jd2 hk) (not_false' h2)
     rw[e1.A,e1.T]
     obtain⟨j,y,htk,_,hy,_,_,_,hl⟩:=jcy hC hI1 (not_false' hm) hk (not_false' h2)
     exact⟨rfl,(e1.make hC ht (freeB_some (not_false' h3)) (jjI hC hI1 (jd2 hk) (not_false' h2)) (by grind[jC])).paced hC⟩
theorem jiO {g:PlG} (ok:jc g) {x x':List Int} {y:jg} (hS:jJ g x x' n) (hy:g.L[n]?=some y) {i:Int}:JR x' y i=JR x y i:=by grind[JR,jcN]
theorem read_E (hC:jk C) (e:HpE C h h') {sl a k:Int} (hs:slotT h.s.W.T k=some sl):(JF C h' sl a).1=(JF C h sl a).1∧HpE C (JF C h sl a).2 (JF C h' sl a).2:=by
 obtain⟨j,rfl,hj⟩:=jaT (J8 e.I.ok.w hs)
 obtain⟨y,hy⟩:=jY hj
 have hrj:RchM C.g h.s.W j:=jax.slot hs
 have hS:=e.x hrj
 unfold JF;rw[jC hy];dsimp only;rw[jiO hC.g hS hy,jiU hC.g hS hy,jg3 hC.g hS hy]
 split
 ·exact⟨rfl,e⟩
 ·split
  ·exact⟨rfl,e⟩
  ·split
   ·exact⟨rfl,e⟩
   ·rename_i h1 h2 h3
    have e1:=e.room hC (is:=j5) jfN
    rw[jfN _ _ e1.A e1.T]
    split
    ·exact⟨rfl,e1⟩
    ·rename_i h4
     have hW:=jdH hC e.I (is:=j5)
     have hf:=(jcJ (x:=h.s.W.x) (y:=y) (i:=a) (Classical.byContradiction h1)).1
     rw[not_false' h2] at hf
     obtain⟨t,ht⟩: ∃ t:Nat,(refP h.s.W.x C.g.slots y a).1=(t:Nat):=⟨((refP h.s.W.x C.g.slots y a).1).toNat,by omega⟩
     have hr:refO C.g h.s.W.x ((j:Nat):Int) a=some ((t:Nat):Int):=by
      unfold refO;rw [jC hy,if_pos ⟨je4 e.I.ok.rf hy hf,by omega⟩,ht]
     rw[ht,e1.T];exact⟨rfl,e1.read hC (n:=j) (k:=k) (i:=a) ((hW.t k).trans hs) (by rw[jbA hC.g (hW.w j hrj)];exact hr) (freeB_some (not_false' h4))⟩
theorem write_E (hC:jk C) (e:HpE C h h') {sl a:Int} {v k:Nat} (hs:slotT h.s.W.T (k:Nat)=some sl) (hv:v<18446744073709551616):(JZ C h' sl a v).1=(JZ C h sl a v).1∧HpE C (JZ C h sl a v).2 (JZ C h' sl a v).2:=by
 obtain⟨j,rfl,hj⟩:=jaT (J8 e.I.ok.w hs)
 obtain⟨y,hy⟩:=jY hj
 have hrj:RchM C.g h.s.W j:=jax.slot hs
 have hS:=e.x hrj
 have hs':slotT h'.s.W.T (k:Nat)=some ((j:Nat):Int):=by rw[e.T];omega
 unfold JZ;rw[jC hy]
 have hto:toW C h' v=toW C h v:=by unfold toW;rw [e.T]
 rw[jiO hC.g hS hy,e.T,hto]
 split
 ·grind
 ·rename_i h1
  have hf:=(jcJ (x:=h.s.W.x) (y:=y) (i:=a) (Classical.byContradiction h1)).1
  split
  ·refine⟨?_,e.word hC hs ⟨by omega,by omega⟩⟩;unfold Jk;rw[jeP hC.g hS hy]
   grind
  ·split
   ·grind
   ·rename_i h2 h3
    rw[not_false' h2] at hf
    have hr0:=je4 e.I.ok.rf hy hf
    have hr0':(refP h'.s.W.x C.g.slots y a).2=0:=by rw[jg3 hC.g hS hy];omega
    have q:=e.acts hC (a:=⟨2,(k:Nat),a,if v=0 then-1 else(capI v:Nat)⟩) (show 2≤2%6 by decide)
    rw[jgD (tn:=C.tn) hs hy hr0 h3,jgD (tn:=C.tn) hs' hy hr0' (by rw[e.T];omega)] at q;rw[e.T] at q;exact⟨rfl,q⟩
theorem op_E (hC:jk C) (e:HpE C h h') {op:OpP} {sl:Int} (hs:slotT h.s.W.T (capI op.h:Nat)=some sl) (hv:op.v<18446744073709551616):(hpOp C h' op sl).1=(hpOp C h op sl).1∧HpE C (hpOp C h op sl).2 (hpOp C h' op sl).2:=by
 have hs':slotT h'.s.W.T (capI op.h:Nat)=some sl:=by rw[e.T];exact hs
 unfold hpOp
 split
 ·exact read_E hC e hs
 ·split
  ·exact write_E hC e hs hv
  ·split
   ·have q:=e.acts hC (a:=⟨4,(capI op.h:Nat),0,0⟩) (show 2≤4%6 by decide)
    rw[jg0 hs,jg0 hs'] at q;refine⟨?_,q⟩
    show told _=told _
    rw[e.N]
   ·split
    ·unfold jbj;rw[e.N]
     split
     ·exact⟨rfl,e⟩
     ·have q:=e.acts hC (a:=⟨5,(capI op.h:Nat),0,0⟩) (show 2≤5%6 by decide)
      rw[jgA hs,jgA hs'] at q;exact⟨rfl,q⟩
    ·split
     ·have q:=e.acts hC (a:=⟨3,(capI op.h:Nat),0,0⟩) (show 2≤3%6 by decide)
      rw[jhd hs,jhd hs'] at q;exact⟨rfl,q⟩
     ·obtain⟨j,rfl,hj⟩:=jaT (J8 e.I.ok.w hs)
      obtain⟨y,hy⟩:=jY hj
      have hS:=e.x (jax.slot hs:RchM C.g h.s.W j)
      refine⟨?_,e⟩;unfold jdJ jaG;rw[jC hy];dsimp only;rw[jcN hC.g hS hy]
      have hwp: ∀ i,wordP h'.s.W.x y i=wordP h.s.W.x y i:=fun i=>jiU hC.g hS hy
      simp only[hwp]
theorem does_E (hC:jk C) (e:HpE C h h') {op:OpP} (hv:op.v<18446744073709551616):(jt C h' op).1=(jt C h op).1∧HpE C (jt C h op).2 (jt C h' op).2:=by
 unfold jt
 split
 ·grind
 ·split
  ·grind[alloc_E]
  ·rw[e.T]
   grind[op_E,jai]
theorem do_E (hC:jk C) (e:HpE C h h') {op:OpP} (hv:op.v<18446744073709551616):(hpDo C h' op).1=(hpDo C h op).1∧HpE C (hpDo C h op).2 (hpDo C h' op).2:=by
 obtain⟨a,b⟩:=does_E hC (e.wk 0 0) hv
 unfold hpDo;refine⟨?_,b⟩;rw[a];unfold ja1;rw[b.A,b.si,b.cy,b.ac]
end
set_option maxRecDepth 10000
structure ApS where
 i:Nat
 a:Nat
 f1:Nat
 y1:CyM
 h1:HpP
 f2:Nat
 y2:CyM
 h2:HpP
 T:List Int
 oT:Own
structure ApT where
 a:Nat
 y2:CyM
 h2:HpP
section
variable {w0 : World} {F : jb} {c : Cfg} {vc vt v u : Value} {l m : List jU}
theorem jgq {C:HpC} {h:HpP} {op:OpP} (hC:jk C) (hI:HeI C h):(hpDo C h op).1.h<18446744073709551616:=by
 by_cases h0:(hpDo C h op).1.h=0
 ·omega
 ·exact(jel hC hI h0).lt hC
set_option maxHeartbeats 8000000 in
theorem heapApart_K (hG:js w0) (hR:Jo w0 F c vc vt) (hl:Sli w0 F haE v l) (hlo: ∀ x∈l,J7 x) (hm:Sli w0 F haE u m) (hmo: ∀ x∈m,J7 x):Call Tryz.prog w0 4 [jw c vc vt,v,u] F (fun r H'=>r= .bool true∧H'=F):=by
 have haw:=fun A=>jgd (w0:=w0) (F:=A) hG
 have hmn:=fun A (hp:Part A F) (hno:okS c 0=false)=>jf1 (t:=0) (hR.part hp) hno
 have hmd:=fun A (hp:Part A F) (hok:okS c 0=true)=>je8 (t:=0) hG (hR.part hp) hok
 obtain⟨hS,hT',o1,o2,l1,l2⟩:=hR
 obtain⟨ok,hok⟩: ∃ ok,okS c 0=ok:=⟨_,rfl⟩
 simp only[hok] at hmn hmd
 obtain⟨cl,page,tns,workers,grey,gens⟩:=c
 dsimp only at hS hT' l1 l2;simp only[jw,jT] at hmn hmd⊢
 cases ok with
 |false=>
  refine Call.enter3 (n:=132) (by kernel_rfl) Tryz.func4 rfl rfl rfl ?_;refine zcX ?_;intro b3;refine jq (hmn _ ja rfl) ?_;refine zQ ?_;refine zbx ?_;refine jq (hmn _ ja rfl) ?_;refine zfG ?_;refine zds ?_;refine zf1 ?_;refine zdb ?_;exact zaT
 |true=>
  refine Call.enter3 (n:=132) (by kernel_rfl) Tryz.func4 rfl rfl rfl ?_;refine zcX ?_;intro b3;refine jat (hmd _ ja rfl) ?_;rintro _ _ ⟨D,yd,hMD,rfl,rfl⟩;refine zQ ?_;refine zc2 fun T hT=>?_;refine(CallV.fn (hmd _ ja rfl)).mono ?_;rintro _ _ ⟨E,ye,hME,rfl,rfl⟩
  have hD:=hMD.ok
  have hC:=hD.C
  have hE:=hME.ok
  have hCE:E.C=D.C:=by
   obtain⟨x1,g1,g2⟩:=hMD.eC
   obtain⟨x2,g3,g4⟩:=hME.eC
   rw[g1] at g3
   cases g3
   rw[g2,g4]
  have hRD:=hMD.R
  have hRE:=hME.R
  rw[hCE] at hRE
  have hR0E:E.R0=D.R0:=hME.R0.trans hMD.R0.symm
  refine zd ?_;clear hT T;rw[hCE];refine zfG ?_;refine zA ?_;refine zef ?_;refine zz ?_;refine zu ?_;refine zaW ?_;refine K.cutT (σ:=ApS) [(8,_),(9,_),(10,_)] jj (fun s kp_=>(7, .pointer (some ⟨D.b,0,none⟩))::kp_) (fun s=>hpH D s.y1 (s.h1)++(hpH E s.y2 (s.h2)++(oH uE 33 s.T s.oT++((b3,cells [vc, .int .i64 page,vt, .int .i64 workers, .int .i64 grey, .int .i64 gens] 25)::F)))) (fun s=>HpR D s.f1 400000000 s.y1 s.h1∧HpR E s.f2 400000000 s.y2 s.h2∧HpE D.C s.h1 s.h2) ?_ ?_
  ·refine zgR ?_;refine zcO ?_;refine K.loopT (σ:=ApS) [(1,_),(2,_),(7,_),(8,_),(9,_),(10,_)] (fun s kp_=>(13, .int .i64 (s.i:Nat))::(12, .int .i64 (s.a:Nat))::(11,oV s.oT s.T.length)::kp_) (fun s=>hpH D s.y1 (s.h1)++(hpH E s.y2 (s.h2)++(oH uE 33 s.T s.oT++((b3,cells [vc, .int .i64 page,vt, .int .i64 workers, .int .i64 grey, .int .i64 gens] 25)::F)))) (fun s=>s.i≤l.length∧s.i≤100∧s.a≤101+s.i∧HpR D s.f1 400000000 s.y1 s.h1∧HpR E s.f2 400000000 s.y2 s.h2∧s.f1≤1+s.i*2∧s.f2≤1+s.i*2∧HpE D.C s.h1 s.h2∧u64s s.T∧s.T.length≤s.i∧oOk uE s.T s.oT) (fun s=>l.length-s.i) (⟨0,0,1,yd,newH D.C,1,ye,newH D.C,[],none⟩) jj ja (⟨Nat.zero_le _,Nat.zero_le _,Nat.zero_le _,hRD.mono (Nat.le_refl _) (by decide),hRE.mono (Nat.le_refl _) (by decide),(by show 1≤1+0*2;decide),(by show 1≤1+0*2;decide),HpE.new hC,(fun x hx=>(by cases hx)),Nat.le_refl _,rfl⟩) ?_;rintro⟨i,a,f1,y1,h1,f2,y2,h2,tl,otl⟩ ⟨hi,hi8,ha8,hR1,hR2,hf1,hf2,hEq,hu,hTl,kT⟩;dsimp only at hi hi8 ha8 hR1 hR2 hf1 hf2 hEq hu hTl kT⊢
   by_cases hc1:i<l.length
   ·have hc1':((i:Nat):Int)<((l.length:Nat):Int):=by omega
    by_cases hc2:i<100
    ·have hc2':((i:Nat):Int)<100:=by omega
     obtain⟨x,hx⟩:=jA hc1
     have hxo:=hlo x (List.mem_of_getElem? hx)
     skip
     refine zbm ?_;refine zjO ?_;refine zmd ?_;refine ze ?_;refine ziI ?_
     (first|refine KL.skipG rfl rfl rfl ?_|refine KL.skipU rfl rfl rfl ?_|(refine KL.yes rfl rfl ?_;refine KL.v rfl (Val.isT (Val.lss rfl rfl) jL) ?_)|(refine KL.yes rfl rfl ?_;refine KL.v rfl (Val.isF (Val.lss rfl rfl) jL) ?_)|(refine KL.yes rfl rfl ?_;refine KL.v rfl (Val.lss rfl rfl) ?_))
     refine zln ?_;refine zN ?_;refine zdJ ?_;refine byBlk ?_;refine K.cutT (σ:=ApT) [(1,_),(2,_),(7,_),(8,_),(9,_),(10,_),(11,_),(13,_)] jj (fun s kp_=>(12, .int .i64 (s.a:Nat))::kp_) (fun s=>hpH D y1 (h1)++(hpH E s.y2 (s.h2)++(oH uE 33 tl otl++((b3,cells [vc, .int .i64 page,vt, .int .i64 workers, .int .i64 grey, .int .i64 gens] 25)::F)))) (fun s=>s.a≤101+i∧HpR E f2 400000000 s.y2 s.h2∧HpE D.C h1 s.h2) ?_ ?_
     ·refine K.block ?_;refine K.loopT (σ:=ApT) [(1,_),(2,_),(7,_),(8,_),(9,_),(10,_),(11,_),(13,_)] (fun s kp_=>(12, .int .i64 (s.a:Nat))::kp_) (fun s=>hpH D y1 (h1)++(hpH E s.y2 (s.h2)++(oH uE 33 tl otl++((b3,cells [vc, .int .i64 page,vt, .int .i64 workers, .int .i64 grey, .int .i64 gens] 25)::F)))) (fun s=>s.a≤101+i∧HpR E f2 400000000 s.y2 s.h2∧HpE D.C h1 s.h2) (fun s=>m.length-s.a) (⟨a,y2,h2⟩) jj ja (⟨ha8,hR2,hEq⟩) ?_;rintro⟨a,y2,h2⟩ ⟨ha8,hR2,hEq⟩;dsimp only at ha8 hR2 hEq⊢
      by_cases ha1:a<m.length
      ·have ha1':((a:Nat):Int)<((m.length:Nat):Int):=by omega
       by_cases ha2:a<100
       ·have ha2':((a:Nat):Int)<100:=by omega
        obtain⟨q,hq⟩:=jA ha1
        have hqo:=hmo q (List.mem_of_getElem? hq)
        obtain⟨qo,qHa,qV,qw,qk,qu⟩:=q
        have hqu:qu<256:=hqo.u
        cases qw with
        |true=>
         have hst:=hEq.stp' hC qk ((qu:Nat):Int)
         have hstp:=fun A=>jdq (w0:=w0) (F:=A) (k:=qk) (u:=((qu:Nat):Int)) hG hE hR2 (by omega)
         unfold HpQ at hstp;simp only[hCE] at hstp;refine zle ?_;refine zbM ?_;refine zbr ?_;refine zi ?_;refine zkV ?_;refine zfm ?_;refine zw ?_;refine KL.nil (KE.next (K.condT rfl (K.skip (KE.next (K.block (K.seq ?_))))));refine zim ?_;refine zbf ?_;refine zcC ?_;refine zin ?_;refine zaF ?_;refine zhu ?_;refine zio ?_;refine zaF ?_;refine zl fun T hT=>?_;refine(CallV.part (CallV.fn (hstp _)) ja).mono ?_;rintro _ _ ⟨rfl,y3,h3,rfl⟩;refine zg ?_;clear hT T;refine zD ?_;refine zek ?_;refine zdY ?_;refine zbD ?_;exact KE.again ⟨a+1,y3,_⟩ jj ja ⟨(by show a+1≤101+i;omega),h3,hst⟩ (by show m.length-(a+1)<m.length-a;omega)
        |false=>
         refine zle ?_;refine zbM ?_;refine zbr ?_;refine zi ?_;refine zkV ?_;refine zfm ?_;refine zw ?_;refine zcf ?_;exact zk0
       ·have ha2': ¬((a:Nat):Int)<100:=by omega
        refine zla ?_;refine zT ?_;refine zw ?_;refine zdo ?_;refine zcf ?_;exact zk0
      ·have ha1': ¬((a:Nat):Int)<((m.length:Nat):Int):=by omega
       refine za4 ?_;refine zdi ?_;refine zaO ?_;refine zdo ?_;refine zcf ?_;exact zk0
     ·clear hEq hR2 ha8;rintro⟨a,y2,h2⟩ ⟨ha8,hR2,hEq⟩;dsimp only at ha8 hR2 hEq⊢
      have hop:=fun A v (hS:Sli w0 A uE v tl)=>op_K (w0:=w0) (F:=A) hxo hS hu
      have hzo:=jc3 hxo hu
      obtain⟨z,hz⟩: ∃ z,opA x tl=z:=⟨_,rfl⟩
      rw[hz] at hop hzo
      have hdo1:=fun A=>jcf (w0:=w0) (F:=A) hG hD hEq.I hR1 (by omega) hzo
      have hdo2:=fun A=>jcf (w0:=w0) (F:=A) hG hE (by rw[hCE];exact hEq.I') hR2 (by omega) hzo
      simp only[hCE] at hdo2
      obtain⟨hd1,hd2⟩:=do_E hC hEq (op:=z) hzo.v
      have hlt:=jgq (op:=z) hC hEq.I
      obtain⟨⟨e,hh,w,addr,us,si,cy,ac⟩,h9,hv⟩: ∃ (q:SnP) (h9:HpP),hpDo D.C h1 z=(q,h9):=⟨_,_,rfl⟩
      obtain⟨q8,h8,hv8⟩: ∃ (q:SnP) (h9:HpP),hpDo D.C h2 z=(q,h9):=⟨_,_,rfl⟩
      rw[hv,hv8] at hd1 hd2;rw[hv] at hlt;simp only[hv] at hdo1;simp only[hv8] at hdo2;dsimp only at hd1 hd2 hlt;subst hd1
      obtain⟨zc,zh,za,zb,zv⟩:=z
      unfold opV snV HpQ at hdo1 hdo2;unfold opV at hop;dsimp only at hdo1 hdo2 hop;clear hv hv8 hz
      obtain⟨xo,xH,xV,wk,xk,xu⟩:=x
      have hxu:xu<256:=hxo.u
      cases wk with
      |true=>
       have hst:=hEq.stp hC xk ((xu:Nat):Int)
       have hstp:=fun A=>jdq (w0:=w0) (F:=A) (k:=xk) (u:=((xu:Nat):Int)) hG hD hR1 (by omega)
       unfold HpQ at hstp;refine za7 ?_;refine zbT ?_;refine z6 ?_;refine zcP ?_;refine zkV ?_;refine z8 ?_;refine zhi ?_;refine zim ?_;refine zbf ?_;refine zcC ?_;refine zin ?_;refine zaF ?_;refine zhu ?_;refine zio ?_;refine zaF ?_;refine zl fun T hT=>?_;refine(CallV.part (CallV.fn (hstp _)) ja).mono ?_;rintro _ _ ⟨rfl,y3,h3,rfl⟩;refine zg ?_;clear hT T;refine zD ?_;refine zbG ?_;refine zk4 ?_;refine ziL ?_;refine zek ?_;refine zdY ?_;exact KE.again ⟨i+1,a+1,f1,y3,_,f2,y2,h2,tl,otl⟩ jj ja ⟨hc1,hc2,(by show a+1≤101+(i+1);omega),h3,hR2,(by show f1≤1+(i+1)*2;omega),(by show f2≤1+(i+1)*2;omega),hst,hu,(by show tl.length≤i+1;omega),kT⟩ (by show l.length-(i+1)<l.length-i;omega)
      |false=>
       refine za7 ?_;refine zbT ?_;refine z6 ?_;refine zcP ?_;refine zkV ?_;refine z8 ?_;refine zaG ?_;refine zcP ?_;refine zgU ?_;refine zaH ?_;intro b14;refine ze ?_;refine zbx ?_;refine j4 (hdo1 _) ja ?_;rintro _ _ ⟨rfl,y3,h3,rfl⟩;refine zfd ?_;intro b15;refine zcW ?_
       (first|refine K.seq (K.drawn ((b14,cells [.int .u8 (zc:Nat), .int .u64 (zh:Nat), .int .i64 za, .int .i64 zb, .int .u64 (zv:Nat)] 35)::(b15,cells [.int .i64 e, .int .u64 (hh:Nat), .int .u64 w, .int .i64 addr, .int .i64 us, .int .i64 si, .int .i64 cy, .bool ac] 42)::F) [(0,1),(1,0),(2,0),(3,2),(4,0)] (by kernel_rfl) (by kernel_rfl) (by kernel_rfl) (by kernel_rfl) (by kernel_rfl) (by kernel_rfl) ja ?_)|refine K.seq (K.seq (K.drawn ((b14,cells [.int .u8 (zc:Nat), .int .u64 (zh:Nat), .int .i64 za, .int .i64 zb, .int .u64 (zv:Nat)] 35)::(b15,cells [.int .i64 e, .int .u64 (hh:Nat), .int .u64 w, .int .i64 addr, .int .i64 us, .int .i64 si, .int .i64 cy, .bool ac] 42)::F) [(0,1),(1,0),(2,0),(3,2),(4,0)] (by kernel_rfl) (by kernel_rfl) (by kernel_rfl) (by kernel_rfl) (by kernel_rfl) (by kernel_rfl) ja ?_))|refine K.drawn ((b14,cells [.int .u8 (zc:Nat), .int .u64 (zh:Nat), .int .i64 za, .int .i64 zb, .int .u64 (zv:Nat)] 35)::(b15,cells [.int .i64 e, .int .u64 (hh:Nat), .int .u64 w, .int .i64 addr, .int .i64 us, .int .i64 si, .int .i64 cy, .bool ac] 42)::F) [(0,1),(1,0),(2,0),(3,2),(4,0)] (by kernel_rfl) (by kernel_rfl) (by kernel_rfl) (by kernel_rfl) (by kernel_rfl) (by kernel_rfl) ja ?_)
       refine zfc ?_;refine zj ?_
       (first|refine KD.v0 rfl rfl (Val.loadAP rfl rfl rfl jep) ?_|refine KD.v0 rfl rfl (Val.loadA rfl rfl rfl jeo) ?_)
       refine zl fun T hT=>?_;refine(CallV.part (CallV.fn (hdo2 _)) ja).mono ?_;rintro _ _ ⟨rfl,y4,h4,rfl⟩;refine zg ?_;clear hT T
       (first|refine KD.v0 rfl rfl (Val.neqAE rfl rfl (by kernel_rfl) byEqv (by first|assumption|rfl)) ?_|refine KD.v0 rfl rfl (Val.neqAN rfl rfl (by kernel_rfl) byEqv (by first|assumption|rfl)) ?_|refine KD.v0 rfl rfl (Val.neqA rfl rfl (by kernel_rfl) byEqv) ?_)
       refine zD ?_;simp only[eq_self,decide_true,beq_self_eq_true,Bool.and_self,Bool.and_true,Bool.true_and,Bool.not_true]
       by_cases hh0:hh=0
       ·have hh0':((hh:Nat):Int)=0:=by omega
        refine zdS ?_;refine zF ?_;refine zaE ?_;refine zeD ?_;exact KE.again ⟨i+1,a+1,f1+2,y3,h9,f2+2,y4,h8,tl,otl⟩ jj ja ⟨hc1,hc2,(by show a+1≤101+(i+1);omega),h3,h4,(by show f1+2≤1+(i+1)*2;omega),(by show f2+2≤1+(i+1)*2;omega),hd2,hu,(by show tl.length≤i+1;omega),kT⟩ (by show l.length-(i+1)<l.length-i;omega)
       ·have hh0': ¬((hh:Nat):Int)=0:=by omega
        have hbd:(tl++ [((hh:Nat):Int)]).length≤4294967296:=by simp;omega
        refine zdS ?_;refine zF ?_;refine zd5 ?_;refine ze ?_;refine zF ?_;refine zaj ?_;intro b111;refine KL.e rfl (Eff.appZ (ys:=[_]) rfl rfl rfl rfl rfl rfl jn (by assumption) (by first|exact Sli.blk jF rfl (by first|decide|simp) (by first|decide|(unfold maxLen;omega)) rfl|exact Sli.old (by assumption)|exact Sli.own jn (by assumption) j6|assumption|exact Sli.part (by assumption) ja) rfl (by first|assumption|omega|(simp<;>fail)|(simp;omega)) rfl) ?_;rintro _ _ ⟨o112,ok112,rfl,rfl⟩;refine zgV ?_;exact KE.again ⟨i+1,a+1,f1+2,y3,h9,f2+2,y4,h8,tl++ [((hh:Nat):Int)],o112⟩ jj ja ⟨hc1,hc2,(by show a+1≤101+(i+1);omega),h3,h4,(by show f1+2≤1+(i+1)*2;omega),(by show f2+2≤1+(i+1)*2;omega),hd2,hu.app hlt,(by show(tl++ [((hh:Nat):Int)]).length≤i+1;simp;omega),ok112⟩ (by show l.length-(i+1)<l.length-i;omega)
    ·have hc2': ¬((i:Nat):Int)<100:=by omega
     refine zla ?_;refine zT ?_;refine zw ?_;refine zcf ?_;exact KE.meet ⟨0,0,f1,y1,h1,f2,y2,h2,tl,otl⟩ jj ja ⟨hR1,hR2,hEq⟩
   ·have hc1': ¬((i:Nat):Int)<((l.length:Nat):Int):=by omega
    refine za4 ?_;refine zdi ?_;refine zaO ?_;refine zcf ?_;exact KE.meet ⟨0,0,f1,y1,h1,f2,y2,h2,tl,otl⟩ jj ja ⟨hR1,hR2,hEq⟩
  ·rintro⟨_,_,f1,y1,h1,f2,y2,h2,tl,otl⟩ ⟨hR1,hR2,hEq⟩;dsimp only at hR1 hR2 hEq⊢
   have hCyc1:=fun A=>jbC (w0:=w0) (F:=A) (D:=D) (y:=y1) (h:=h1)
   have hCyc2:=fun A=>jbC (w0:=w0) (F:=A) (D:=E) (y:=y2) (h:=h2)
   have hPha1:=fun A=>jfv (w0:=w0) (F:=A) hR1
   have hPha2:=fun A=>jfv (w0:=w0) (F:=A) hR2
   have hAll1:=fun A=>jf4 (w0:=w0) (F:=A) hR1
   have hAll2:=fun A=>jf4 (w0:=w0) (F:=A) hR2
   by_cases h0:h1.s.ph=0
   ·have h0':((h1.s.ph:Nat):Int)=0:=by omega
    have h2':((h2.s.ph:Nat):Int)=0:=by have:=hEq.ph.1 h0;omega
    have hWeq:allW E h2=allW D h1:=by unfold allW;rw [hR0E,hEq.same h0,hCE]
    have hfl:(allW D h1).length≤4294967296:=by have:=hR1.p.p.bo.m.n;rw [hR1.R] at this;unfold allW;omega
    simp only[hWeq] at hAll2;refine zaA ?_;refine zn ?_;refine ji (hCyc1 _) ja ?_;refine zn ?_;refine ji (hPha1 _) ja ?_;refine zd8 ?_;refine zn ?_;refine ji (hCyc2 _) ja ?_;refine zdk ?_;refine ji (hPha2 _) ja ?_;refine zi ?_;refine zf6 ?_;refine j4 (hAll1 _) ja ?_;rintro _ _ ⟨oa,koa,rfl,rfl⟩;refine zgf ?_;refine j4 (hAll2 _) ja ?_;rintro _ _ ⟨ob,kob,rfl,rfl⟩;refine zi ?_;refine zq fun T hT=>?_;refine(CallV.fn (jik (l:=allW D h1) (m:=allW D h1) (Sli.own jn koa rfl) (Sli.own jn kob rfl) hfl)).mono ?_;rw[decide_eq_true (rfl:allW D h1=allW D h1)];rintro _ _ ⟨rfl,rfl⟩;refine zd ?_;clear hT T;refine zk8 ?_;refine zw ?_;refine zz ?_;refine zn ?_;refine zdb ?_;exact zt
   ·have h0': ¬((h1.s.ph:Nat):Int)=0:=by omega
    refine zaA ?_;refine zn ?_;refine ji (hCyc1 _) ja ?_;refine zn ?_;refine ji (hPha1 _) ja ?_;refine zG ?_;refine zdc ?_;refine zC ?_;refine zfh ?_;refine zz ?_;refine zn ?_;refine zdb ?_;exact zt
end
end Go.Proofs.YtpcgafhgfjlkmaaGreatDoor.Sw
