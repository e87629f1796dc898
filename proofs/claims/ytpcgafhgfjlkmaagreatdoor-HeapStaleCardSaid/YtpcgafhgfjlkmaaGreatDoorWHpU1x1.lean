/-What the law needs of its own,part 1. -/
import Derived.Test.YtpcgafhgfjlkmaaGreatDoorD1
import Derived.WalkKit
import Derived.ProofKit
import Derived.RangeFuncNested
import Derived.RangeFuncBound
import Derived.RangeFuncCalls
import Derived.RangeFuncLeaves
import Derived.Lib.Hide
import Derived.Sort.BigQuietIn
import Derived.Deep.Quiet
import Derived.StillTailTactics
import Derived.Deep.LoopGhost
import Derived.Laws.Cells
import Derived.OrdersIn
import Derived.Deep.OwnRows
import Derived.Laws.CopyOwn
import Derived.IntWalk
import Derived.ArgAppend
import Derived.Deep.Slices
import Derived.Deep.Fields
import Derived.Laws.IdiomStrings
import Derived.Laws.StructEq
import Derived.Maps.RangeRun
import Derived.Laws.Externs
import Derived.Laws.FloatArith
import Derived.Laws.NewFold
import Derived.RecoverIn
import Derived.Shelf.Strconv.Itoa0
import Derived.Shelf.Bits.Mul64
import Derived.Shelf.Slices.Turned
import Derived.Test.YtpcgafhgfjlkmaaGreatDoorProg
import Derived.SizedLaws
import Derived.Lib.SmallJoins
import Derived.ChangeMaps5
import Derived.Lib.TrailingZeros
import Derived.Lib.BitFns
import Derived.Shelf.Spec.TrailingZeros
import Derived.Test.YtpcgafhgfjlkmaaGreatDoorRows
import Derived.OpenShut
import Derived.LaidMore
import Derived.Lay
import Derived.LaidHandle
import Derived.Test.YtpcgafhgfjlkmaaGreatDoorJ39
set_option linter.unusedVariables false set_option linter.unusedSimpArgs false namespace Go.Proofs.YtpcgafhgfjlkmaaGreatDoor
set_option maxHeartbeats 8000000
open Go.RowKit Go.ChangeShapes Go.WideShapes Go.ChangeAt Go.Deep
variable {P : Program}
theorem slice_sl {α:Type} {E:Enc α} {H:Type} {enc:TypeId × Value→H} {W:World} {base:Nat} {t e:TypeId} (ht:P.underlying t=some (.slice e)) (hk:P.cellsOf e=E.sz) (hk0:0<E.sz) {v:Value} {d:DataW H} {p:List MemPlace}
  (ho:Value.okWide P W .any base t v) (h:DataW.Trod enc P W 0 (fun _=>true) true t v d p) (Ok:α→Prop)
  (hR: ∀ fuel cs x,DataW.trod enc P W 0 (fun _=>true) true fuel e cs=some x→cs.length=E.sz→ ∃ y,cs=E.enc y∧Ok y):
  ∃ ys:List α,SlW W E v ys∧ ∀ y∈ys,Ok y:=by
 obtain⟨a,len,cap,rfl⟩:=okWide_slice ht ho
 obtain⟨fuel,hf⟩:=h
 rcases open_slice ht hf with⟨hcs,_⟩|⟨a',len',cap',m,n,D,Pl,hcs,_,hl,hm,hmm,_,hx⟩
 ·simp[Value.cells] at hcs
  obtain⟨rfl,rfl,rfl⟩:=hcs
  exact⟨[],SlW.nil W E,fun y hy=>by cases hy⟩
 ·simp[Value.cells] at hcs
  obtain⟨rfl,rfl,rfl⟩:=hcs
  simp only[if_true] at hmm;subst hmm
  have key: ∀ i,i<len→ ∃ y,Ok y∧ ∀ j,j<E.sz→W.cell? (a'.add (i*E.sz+j))=(E.enc y)[j]? :=by
   intro i hi
   obtain⟨cs',h1,h2⟩:=hx i (by omega)
   rw[hk] at h1
   obtain⟨_,hlen,hat⟩:=World.cells?_some h1
   obtain⟨y,rfl,hy⟩:=hR _ _ _ h2 hlen
   exact zkP
  obtain⟨ys,hys,hall⟩:=jgC len (fun i y=>Ok y∧ ∀ j,j<E.sz→W.cell? (a'.add (i*E.sz+j))=(E.enc y)[j]?) key
  subst hys
  have hspot:0<ys.length→ ∃ b off,a'=⟨b,off,none⟩:=by
   intro hpos
   obtain⟨b,off,spot⟩:=a'
   obtain⟨y0,_,hc0⟩:=key 0 hpos
   have h1:=hc0 0 hk0
   rw[List.getElem?_eq_getElem (by rw[E.len];exact hk0)] at h1
   have hsp:spot=none:=by simpa [Addr.add] using World.cell?_spot h1
   subst hsp;exact⟨b,off,rfl⟩
  refine⟨ys,⟨⟨some a',m,rfl,hl,hm,fun hne=>?_⟩,?_⟩,?_⟩
  ·obtain⟨b,off,rfl⟩:=hspot (List.length_pos_iff.2 hne)
   exact⟨b,off,rfl⟩
  ·intro i y hy j u hu
   have hi:=(List.getElem?_eq_some_iff.1 hy).1
   obtain⟨b,off,rfl⟩:=hspot (by omega)
   have hj:j<E.sz:=by have:=(List.getElem?_eq_some_iff.1 hu).1;rwa[E.len] at this
   have:=(hall i y hy).2 j hj
   rw[jbb,hu] at this
   simpa [adr] using this
  ·intro y hy
   obtain⟨i,hi⟩:=List.getElem?_of_mem hy
   exact(hall i y hi).1
open Go.RowKit Go.ChangeShapes Go.WideShapes Go.ChangeAt Go.Deep Go.Joins
set_option linter.unusedVariables false
set_option maxRecDepth 100000
def jaJ (z:Int):Prop:=0≤z∧z≤18446744073709551615
def u8ok (z:Int):Prop:=0≤z∧z≤255
theorem jbF {z:Int} (h:(Lit.int .u64 z).wf=true):jaJ z:=by simpa [Lit.wf,IntKind.min,IntKind.max,IntKind.signed,IntKind.bits,jaJ] using h
theorem wf_u8 {z:Int} (h:(Lit.int .u8 z).wf=true):u8ok z:=by simpa [Lit.wf,IntKind.min,IntKind.max,IntKind.signed,IntKind.bits,u8ok] using h
end Go.Proofs.YtpcgafhgfjlkmaaGreatDoor
set_option linter.unusedSimpArgs false
namespace Go.Proofs.YtpcgafhgfjlkmaaGreatDoor.Sw
open Go.Proofs.YtpcgafhgfjlkmaaGreatDoor renaming lo → qL, hi → qH
open Go.RowKit
set_option maxRecDepth 10000
section
variable {T T' : List jh} {w tn : Nat} {t gn : Int}
theorem mintW_ne (hT:T.length≤1024) (he: ∀ e∈T,1≤e.gen∧e.gen≤2147483648) (hf:(Ju T).isSome=true) (ho:OldH T w):JG tn T≠w:=fun e=>by
 obtain⟨j,hj⟩:=Option.isSome_iff_exists.1 hf
 obtain⟨⟨e0,g1,g2⟩,_⟩:=ja7 hj
 unfold JG jar at e;rw[hj] at e;dsimp only at e;rw[jcd g1] at e
 obtain⟨e1,h1,c⟩:=ho
 grind[jem,h1,jen]
end
section
variable {C : HpC} {wr : Bool} {h h' : HpP}
theorem drop_dead (hC:jk C) (hI:HeI C h) {op:OpP} (hc:op.c=6) (h0:(hpDo C h op).1.e=0):jbY (hpDo C h op).2.s.W.T op.h:=by
 have hd:(jt C {h with wk:=0} op).1.e=0:=by
  have e:(hpDo C h op).1.e=(jt C {h with wk:=0} op).1.e:=by
   unfold hpDo ja1;dsimp only
   split<;>rfl
  rw[←e];exact h0
 show jbY (jt C {h with wk:=0} op).2.s.W.T op.h
 unfold jt at hd⊢;rw[hc] at hd⊢;rw[if_neg (by omega),if_neg (by omega)] at hd⊢
 cases hs:hpSlot C.tn h.s.W.T op.h with
 |none=>rw [hs] at hd;cases hd
 |some sl=>
  dsimp only;unfold hpOp jdK;rw[hc,if_neg (by decide),if_neg (by decide),if_neg (by decide),if_neg (by decide),if_pos rfl]
  change jbY (Jm (shdC C.g C.long h.s sl).W.T (capI op.h:Nat)) op.h
  rw[Jh];unfold hpSlot at hs
  split at hs
  ·unfold namedT at hs;rw[if_pos (by omega),Int.toNat_natCast] at hs
   cases hT:h.s.W.T[capI op.h]? with
   |none=>rw [hT] at hs;cases hs
   |some e=>
    rw[hT] at hs;dsimp only at hs
    split at hs
    ·rename_i h1
     unfold Jm jbY;rw[if_pos (by omega),Int.toNat_natCast,hT];dsimp only;rw[if_pos h1.1];exact⟨_,List.getElem?_set_self (jx hT), .inr ⟨h1.2,(show(2:Int)≤2 by decide)⟩⟩
    ·cases hs
  ·cases hs
theorem fold_dead {w:Nat} {a b:Int} {v:Nat} (hd:jbY h.s.W.T w):(hpDo C h ⟨7,w,a,b,v⟩).1.e=130∧(hpDo C h ⟨7,w,a,b,v⟩).2={h with wk:=0}:=by
 have e:jt C {h with wk:=0} ⟨7,w,a,b,v⟩=(told 130,{h with wk:=0}):=by
  unfold jt;dsimp only;rw[if_neg (by omega),if_neg (by omega),hd.slot]
 unfold hpDo;rw[e];exact⟨rfl,rfl⟩
end
set_option maxRecDepth 10000
theorem jdy {T:List Int} {i:Int} {d:Nat} (h: ¬(0≤i∧0<T.length)):pickT T i d=d:=if_neg h
section
variable {w0 : World} {F : jb} {x : jU} {T : List Int} {v : Value}
set_option maxHeartbeats 1000000 in
theorem op_K (hx:J7 x) (hS:Sli w0 F uE v T) (hT:u64s T):Call Tryz.prog w0 15 [.agg (acL x).toArray,v] F (fun r H'=>r=opV (opA x T)∧H'=F):=by
 obtain⟨⟨c,h,a,b,vv⟩,H,V,wk,k,u⟩:=x
 unfold acL opV opA;dsimp only
 by_cases hl:0<T.length
 ·have hl0:((T.length:Nat):Int)>0:=by omega
  have hl1: ¬((T.length:Nat):Int)=0:=by omega
  by_cases hH:0≤H
  ·have hH':H≥0:=hH
   obtain⟨i,e,i1,i2,i3,i4⟩:=pick_at hT hH hl h
   have i3':T[((i:Nat):Int).toNat]?=some ((e:Nat):Int):=i3
   rw[i4]
   by_cases hV:0≤V
   ·have hV':V≥0:=hV
    obtain⟨j,f,j1q,j2,j3q,j4q⟩:=pick_at hT hV hl vv
    have j3':T[((j:Nat):Int).toNat]?=some ((f:Nat):Int):=j3q
    rw[j4q];refine Call.enter2 (n:=43) (by kernel_rfl) Tryz.func15 rfl rfl rfl ?_;refine zit ?_;intro b2 b4;refine zaZ ?_;refine z3 ?_;refine zfd ?_;intro b5;refine zdH ?_;refine zca ?_;refine zp ?_;refine zaz ?_;refine zA ?_;refine zcx ?_;refine zbs ?_;refine zw ?_;refine zcI ?_;refine zdC ?_
    (first|(refine KL.v rfl (Val.fieldSl (k:=5) rfl rfl) ?_)|(refine KL.v rfl (Val.fieldAddr0 (k:=5) rfl rfl) ?_)|(refine KL.v rfl (Val.fieldAddrZ rfl rfl) ?_)|(refine KL.v rfl (Val.fieldAddr (k:=5) rfl rfl) ?_))
    refine zbo ?_;refine ze ?_;refine zjO ?_
    (first|(refine KL.v rfl (Val.remN rfl rfl (by omega)) ?_)|(refine KL.v rfl (Val.rem rfl rfl (by omega)) ?_))
    rw[i1];refine zk1 ?_;refine zbo ?_;refine zc7 ?_;refine zfW ?_;refine zdH ?_;refine zbI ?_;refine zp ?_;refine zaz ?_;refine zA ?_;refine zcx ?_;refine zbs ?_;refine zw ?_;refine zcI ?_;refine zdC ?_
    (first|(refine KL.v rfl (Val.fieldSl (k:=6) rfl rfl) ?_)|(refine KL.v rfl (Val.fieldAddr0 (k:=6) rfl rfl) ?_)|(refine KL.v rfl (Val.fieldAddrZ rfl rfl) ?_)|(refine KL.v rfl (Val.fieldAddr (k:=6) rfl rfl) ?_))
    refine zbo ?_;refine ze ?_;refine zjO ?_
    (first|(refine KL.v rfl (Val.remN rfl rfl (by omega)) ?_)|(refine KL.v rfl (Val.rem rfl rfl (by omega)) ?_))
    rw[j1q];refine zk1 ?_;refine zbo ?_
    (first|(refine KL.v rfl (Val.fieldSl (k:=4) rfl rfl) ?_)|(refine KL.v rfl (Val.fieldAddr0 (k:=4) rfl rfl) ?_)|(refine KL.v rfl (Val.fieldAddrZ rfl rfl) ?_)|(refine KL.v rfl (Val.fieldAddr (k:=4) rfl rfl) ?_))
    refine zfW ?_;refine zW ?_;refine zlh ?_;exact zZ
   ·have hV': ¬V≥0:=hV
    rw[jdy (i:=V) (fun q=>hV q.1)];refine Call.enter2 (n:=43) (by kernel_rfl) Tryz.func15 rfl rfl rfl ?_;refine zit ?_;intro b2 b4;refine zaZ ?_;refine z3 ?_;refine zfd ?_;intro b5;refine zdH ?_;refine zca ?_;refine zp ?_;refine zaz ?_;refine zA ?_;refine zcx ?_;refine zbs ?_;refine zw ?_;refine zcI ?_;refine zdC ?_
    (first|(refine KL.v rfl (Val.fieldSl (k:=5) rfl rfl) ?_)|(refine KL.v rfl (Val.fieldAddr0 (k:=5) rfl rfl) ?_)|(refine KL.v rfl (Val.fieldAddrZ rfl rfl) ?_)|(refine KL.v rfl (Val.fieldAddr (k:=5) rfl rfl) ?_))
    refine zbo ?_;refine ze ?_;refine zjO ?_
    (first|(refine KL.v rfl (Val.remN rfl rfl (by omega)) ?_)|(refine KL.v rfl (Val.rem rfl rfl (by omega)) ?_))
    rw[i1];refine zk1 ?_;refine zbo ?_;refine zc7 ?_;refine zfW ?_;refine zdH ?_;refine zbI ?_;refine zp ?_;refine zbO ?_;refine zax ?_;refine zz ?_;refine zlh ?_;exact zZ
  ·have hH': ¬H≥0:=hH
   rw[jdy (i:=H) (fun q=>hH q.1)]
   by_cases hV:0≤V
   ·have hV':V≥0:=hV
    obtain⟨j,f,j1q,j2,j3q,j4q⟩:=pick_at hT hV hl vv
    have j3':T[((j:Nat):Int).toNat]?=some ((f:Nat):Int):=j3q
    rw[j4q];refine Call.enter2 (n:=43) (by kernel_rfl) Tryz.func15 rfl rfl rfl ?_;refine zit ?_;intro b2 b4;refine zaZ ?_;refine z3 ?_;refine zfd ?_;intro b5;refine zdH ?_;refine zca ?_;refine zp ?_;refine zbO ?_;refine zax ?_;refine z9 ?_;refine zbI ?_;refine zp ?_;refine zaz ?_;refine zA ?_;refine zcx ?_;refine zbs ?_;refine zw ?_;refine zcI ?_;refine zdC ?_
    (first|(refine KL.v rfl (Val.fieldSl (k:=6) rfl rfl) ?_)|(refine KL.v rfl (Val.fieldAddr0 (k:=6) rfl rfl) ?_)|(refine KL.v rfl (Val.fieldAddrZ rfl rfl) ?_)|(refine KL.v rfl (Val.fieldAddr (k:=6) rfl rfl) ?_))
    refine zbo ?_;refine ze ?_;refine zjO ?_
    (first|(refine KL.v rfl (Val.remN rfl rfl (by omega)) ?_)|(refine KL.v rfl (Val.rem rfl rfl (by omega)) ?_))
    rw[j1q];refine zk1 ?_;refine zbo ?_
    (first|(refine KL.v rfl (Val.fieldSl (k:=4) rfl rfl) ?_)|(refine KL.v rfl (Val.fieldAddr0 (k:=4) rfl rfl) ?_)|(refine KL.v rfl (Val.fieldAddrZ rfl rfl) ?_)|(refine KL.v rfl (Val.fieldAddr (k:=4) rfl rfl) ?_))
    refine zfW ?_;refine zW ?_;refine zlh ?_;exact zZ
   ·have hV': ¬V≥0:=hV
    rw[jdy (i:=V) (fun q=>hV q.1)];refine Call.enter2 (n:=43) (by kernel_rfl) Tryz.func15 rfl rfl rfl ?_;refine zit ?_;intro b2 b4;refine zaZ ?_;refine z3 ?_;refine zfd ?_;intro b5;refine zdH ?_;refine zca ?_;refine zp ?_;refine zbO ?_;refine zax ?_;refine z9 ?_;refine zbI ?_;refine zp ?_;refine zbO ?_;refine zax ?_;refine zz ?_;refine zlh ?_;exact zZ
 ·have hl0: ¬((T.length:Nat):Int)>0:=by omega
  rw[jdy (i:=H) (fun q=>hl q.2),jdy (i:=V) (fun q=>hl q.2)]
  by_cases hH:0≤H
  ·have hH':H≥0:=hH
   by_cases hV:0≤V
   ·have hV':V≥0:=hV
    refine Call.enter2 (n:=43) (by kernel_rfl) Tryz.func15 rfl rfl rfl ?_;refine zit ?_;intro b2 b4;refine zaZ ?_;refine z3 ?_;refine zfd ?_;intro b5;refine zdH ?_;refine zca ?_;refine zp ?_;refine zaz ?_;refine zA ?_;refine zcx ?_;refine zcq ?_;refine zw ?_;refine z9 ?_;refine zbI ?_;refine zp ?_;refine zaz ?_;refine zA ?_;refine zcx ?_;refine zcq ?_;refine zw ?_;refine zz ?_;refine zlh ?_;exact zZ
   ·have hV': ¬V≥0:=hV
    refine Call.enter2 (n:=43) (by kernel_rfl) Tryz.func15 rfl rfl rfl ?_;refine zit ?_;intro b2 b4;refine zaZ ?_;refine z3 ?_;refine zfd ?_;intro b5;refine zdH ?_;refine zca ?_;refine zp ?_;refine zaz ?_;refine zA ?_;refine zcx ?_;refine zcq ?_;refine zw ?_;refine z9 ?_;refine zbI ?_;refine zp ?_;refine zbO ?_;refine zax ?_;refine zz ?_;refine zlh ?_;exact zZ
  ·have hH': ¬H≥0:=hH
   by_cases hV:0≤V
   ·have hV':V≥0:=hV
    refine Call.enter2 (n:=43) (by kernel_rfl) Tryz.func15 rfl rfl rfl ?_;refine zit ?_;intro b2 b4;refine zaZ ?_;refine z3 ?_;refine zfd ?_;intro b5;refine zdH ?_;refine zca ?_;refine zp ?_;refine zbO ?_;refine zax ?_;refine z9 ?_;refine zbI ?_;refine zp ?_;refine zaz ?_;refine zA ?_;refine zcx ?_;refine zcq ?_;refine zw ?_;refine zz ?_;refine zlh ?_;exact zZ
   ·have hV': ¬V≥0:=hV
    refine Call.enter2 (n:=43) (by kernel_rfl) Tryz.func15 rfl rfl rfl ?_;refine zit ?_;intro b2 b4;refine zaZ ?_;refine z3 ?_;refine zfd ?_;intro b5;refine zdH ?_;refine zca ?_;refine zp ?_;refine zbO ?_;refine zax ?_;refine z9 ?_;refine zbI ?_;refine zp ?_;refine zbO ?_;refine zax ?_;refine zz ?_;refine zlh ?_;exact zZ
end
open Go.RowKit
set_option maxRecDepth 10000
def haE:Enc jU:=⟨acL,10,fun _=>rfl,by intro x v hv;simp[acL] at hv;rcases hv with rfl|rfl|rfl|rfl|rfl|rfl|rfl|rfl|rfl|rfl<;>rfl⟩
section
variable {C : HpC} {h h' : HpP} {T G : List Int} {op : OpP}
theorem StI.new0 (hC:jk C):StI C (newH C) [] []:=⟨HeI.new hC,fun x hx=>(by cases hx),fun x hx=>(by cases hx)⟩
theorem StI.ne (hC:jk C) (hS:StI C h T G) (h0:(hpDo C h op).1.h≠0) {x:Int} (hx:x∈T): ¬x=((hpDo C h op).1.h:Nat):=fun e=>by
 obtain⟨w,rfl,_,h2⟩:=hS.t x hx
 obtain⟨T1,t,a,b,cc,d,e',_⟩:=jel hC hS.I h0
 exact mintW_ne (tn:=C.tn) a b d (h2.le cc) (by omega)
theorem StI.gone {x:Int} {w:Nat} (hS:StI C h T G) (hw:w<18446744073709551616) (hd:jbY h.s.W.T w):StI C h T (G++ [((w:Nat):Int)]):=by
 refine⟨hS.I,hS.t,fun x hx=>?_⟩
 rcases List.mem_append.1 hx with hx|hx
 ·exact hS.g x hx
 ·obtain rfl:=List.mem_singleton.1 hx
  exact⟨w,rfl,hw,hd⟩
theorem StI.dead {T':List Int} (hC:jk C) (hS:StI C h T G) (ho:JN op) (hS2:StI C (hpDo C h op).2 T' G) (hc:op.c=6) (h0:(hpDo C h op).1.e=0):StI C (hpDo C h op).2 T' (G++ [((op.h:Nat):Int)]):=hS2.gone (x:=0) ho.h (drop_dead hC hS.I hc h0)
theorem StI.fold (hC:jk C) (hS:StI C h T G) {k:Nat} {x:Int} (hx:G[k]?=some x): ∃ w:Nat,x=(w:Nat)∧w<18446744073709551616∧(hpDo C h ⟨7,w,0,0,0⟩).1.e=130∧StI C (hpDo C h ⟨7,w,0,0,0⟩).2 T G:=by
 obtain⟨w,e,h1,h2⟩:=hS.g x (List.mem_of_getElem? hx)
 exact⟨w,e,h1,(fold_dead h2).1,hS.do_ hC ⟨(by show(7:Nat)<256;decide),h1,(by show(0:Nat)<18446744073709551616;decide)⟩⟩
end
set_option maxRecDepth 10000
structure SsS where
 i:Nat
 f:Nat
 y:CyM
 h:HpP
 T:List Int
 oT:Own
 G:List Int
 oG:Own
structure SsT where
 T:List Int
 oT:Own
structure SsF where
 k:Nat
 f:Nat
 y:CyM
 h:HpP
section
variable {w0 : World} {F : jb} {c : Cfg} {vc vt v : Value} {l : List jU} {tn : Nat}
set_option maxHeartbeats 8000000 in
theorem heapStale_K (hG:js w0) (hR:Jo w0 F c vc vt) (hl:Sli w0 F haE v l) (hlo: ∀ x∈l,J7 x) (htn:tn<256):Call Tryz.prog w0 3 [jw c vc vt, .int .u8 (tn:Nat),v] F (fun r H'=>r= .bool true∧H'=F):=by
 have haw:=fun A=>jgd (w0:=w0) (F:=A) hG
 have e8:((tn:Nat):Int)%8=((tn%8:Nat):Int):=by omega
 have hmn:=fun A (hp:Part A F) (hno:okS c (tn%8)=false)=>jf1 (t:=tn%8) (hR.part hp) hno
 have hmd:=fun A (hp:Part A F) (hok:okS c (tn%8)=true)=>je8 (t:=tn%8) hG (hR.part hp) hok
 obtain⟨hS,hT',o1,o2,l1,l2⟩:=hR
 obtain⟨ok,hok⟩: ∃ ok,okS c (tn%8)=ok:=⟨_,rfl⟩
 simp only[hok] at hmn hmd
 obtain⟨cl,page,tns,workers,grey,gens⟩:=c
 dsimp only at hS hT' l1 l2;simp only[jw,jT] at hmn hmd⊢
 cases ok with
 |false=>
  refine Call.enter3 (n:=120) (by kernel_rfl) Tryz.func3 rfl rfl rfl ?_;refine zgK ?_;intro b3;refine zaY ?_;refine zdJ ?_;refine zmq ?_;refine ze ?_
  (first|(refine KL.v rfl (Val.remN rfl rfl (by omega)) ?_)|(refine KL.v rfl (Val.rem rfl rfl (by omega)) ?_))
  (first|(refine KL.v rfl (Val.conv rfl rfl rfl (by simp only[qL,qH];omega)) ?_)|(refine KL.v rfl (Val.convW rfl rfl rfl) ?_))
  rw[e8];refine zn ?_;refine jq (hmn _ ja rfl) ?_;refine zfG ?_;refine zf1 ?_;refine zdb ?_;exact zaT
 |true=>
  refine Call.enter3 (n:=120) (by kernel_rfl) Tryz.func3 rfl rfl rfl ?_;refine zgK ?_;intro b3;refine zaY ?_;refine zdJ ?_;refine zmq ?_;refine ze ?_
  (first|(refine KL.v rfl (Val.remN rfl rfl (by omega)) ?_)|(refine KL.v rfl (Val.rem rfl rfl (by omega)) ?_))
  (first|(refine KL.v rfl (Val.conv rfl rfl rfl (by simp only[qL,qH];omega)) ?_)|(refine KL.v rfl (Val.convW rfl rfl rfl) ?_))
  rw[e8];refine zq fun T hT=>?_;refine(CallV.fn (hmd _ ja rfl)).mono ?_;rintro _ _ ⟨D,y0,hM,rfl,rfl⟩
  have hD:=hM.ok
  have hC:=hD.C
  have hR0:=hM.R
  refine zd ?_;clear hT T;refine zfG ?_;refine zz ?_;refine zch ?_;refine zdH ?_;refine zcO ?_;refine K.loopT (σ:=SsS) [(2,_),(7,_)] (fun s kp_=>(11, .int .i64 (s.i:Nat))::(9,oV s.oT s.T.length)::(10,oV s.oG s.G.length)::kp_) (fun s=>hpH D s.y (s.h)++(oH uE 33 s.T s.oT++(oH uE 33 s.G s.oG++((b3,cells [vc, .int .i64 page,vt, .int .i64 workers, .int .i64 grey, .int .i64 gens] 25)::F)))) (fun s=>s.i≤l.length∧s.i≤80∧HpR D s.f 400000000 s.y s.h∧s.f≤1+s.i*200∧StI D.C s.h s.T s.G∧s.T.length≤s.i∧s.G.length≤s.i∧oOk uE s.T s.oT∧oOk uE s.G s.oG) (fun s=>l.length-s.i) (⟨0,1,y0,newH D.C,[],none,[],none⟩) jj ja (⟨Nat.zero_le _,Nat.zero_le _,hR0.mono (Nat.le_refl _) (by decide),(by show 1≤1+0*200;decide),StI.new0 hC,Nat.le_refl _,Nat.le_refl _,rfl,rfl⟩) ?_;rintro⟨i,f,y,h,tl,otl,gl,ogl⟩ ⟨hi,hi8,hR1,hf,hSt,hTl,hGl,kT,kG⟩;dsimp only at hi hi8 hR1 hf hSt hTl hGl kT kG⊢
  by_cases hc1:i<l.length
  ·have hc1':((i:Nat):Int)<((l.length:Nat):Int):=by omega
   by_cases hc2:i<80
   ·have hc2':((i:Nat):Int)<80:=by omega
    obtain⟨x,hx⟩:=jA hc1
    have hxo:=hlo x (List.mem_of_getElem? hx)
    have hop:=fun A v (hS:Sli w0 A uE v tl)=>op_K (w0:=w0) (F:=A) hxo hS hSt.u
    have hzo:=jc3 hxo hSt.u
    obtain⟨z,hz⟩: ∃ z,opA x tl=z:=⟨_,rfl⟩
    rw[hz] at hop hzo
    have hdo:=fun A=>jcf (w0:=w0) (F:=A) hG hD hSt.I hR1 (by omega) hzo
    have hstp:=fun A (k:Int) (u:Nat) (hu:u<256)=>jdq (w0:=w0) (F:=A) (k:=k) (u:=((u:Nat):Int)) hG hD hR1 (by omega)
    have hS2:=hSt.do_ hC hzo
    have hne:=fun h0 x hx=>hSt.ne (op:=z) hC h0 (x:=x) hx
    have hold:=fun h0=>hSt.old (op:=z) hC hzo h0
    have hdead:=fun T' (hS2:StI D.C (hpDo D.C h z).2 T' gl) hc h0=>hSt.dead (op:=z) hC hzo hS2 hc h0
    obtain⟨⟨e,hh,w,addr,us,si,cy,ac⟩,h9,hv⟩: ∃ (q:SnP) (h9:HpP),hpDo D.C h z=(q,h9):=⟨_,_,rfl⟩
    rw[hv] at hS2;simp only[hv] at hdo hne hold hdead
    obtain⟨zc,zh,za,zb,zv⟩:=z
    unfold opV snV HpQ at hdo;unfold opV at hop;unfold HpQ at hstp;dsimp only at hS2 hne hold hdead hdo hop;clear hv hz
    obtain⟨xo,xH,xV,wk,xk,xu⟩:=x
    have hxu:xu<256:=hxo.u
    cases wk with
    |true=>
     have hst2:=hSt.stp hC (k:=xk) (u:=((xu:Nat):Int))
     have hstp2:=fun A=>hstp A xk xu hxu
     refine zfn ?_;refine zhi ?_;refine zim ?_;refine zbf ?_;refine zcC ?_;refine zin ?_;refine zaF ?_;refine zhu ?_;refine zio ?_;refine zaF ?_;refine zl fun T hT=>?_;refine(CallV.part (CallV.fn (hstp2 _)) ja).mono ?_;rintro _ _ ⟨rfl,y1,h2,rfl⟩;refine zg ?_;clear hT T;refine zD ?_;refine zbG ?_;refine zk4 ?_;refine ziL ?_;refine zek ?_;refine zdY ?_;exact KE.again ⟨i+1,f,y1,_,tl,otl,gl,ogl⟩ jj ja ⟨hc1,hc2,h2,(by show f≤1+(i+1)*200;omega),hst2,(by show tl.length≤i+1;omega),(by show gl.length≤i+1;omega),kT,kG⟩ (by show l.length-(i+1)<l.length-i;omega)
    |false=>
     refine zfn ?_;refine zaG ?_;refine zcP ?_;refine zgU ?_;refine zaH ?_;intro b12;refine ze ?_;refine zbx ?_;refine zm9 ?_;rintro _ _ ⟨rfl,y1,h2,rfl⟩;refine zaD ?_;intro b13
     (first|(refine KL.eN (Eff.storeAL rfl rfl rfl jF byLay jgs) ?_;rintro _ _ rfl)|(refine KL.eN (Eff.stSlA rfl rfl rfl rfl jn (by assumption) (by assumption)) ?_;rintro _ _ rfl))
     refine zaY ?_;refine K.cutT (σ:=Unit) [(2,_),(9,_),(10,_),(11,_),(12,_),(13,_)] jj (fun s kp_=>(7, .pointer (some ⟨D.b,0,none⟩))::kp_) (fun s=>hpH D y1 (h9)++(oH uE 33 tl otl++(oH uE 33 gl ogl++((b12,cells [.int .u8 (zc:Nat), .int .u64 (zh:Nat), .int .i64 za, .int .i64 zb, .int .u64 (zv:Nat)] 35)::(b13,cells [.int .i64 e, .int .u64 (hh:Nat), .int .u64 w, .int .i64 addr, .int .i64 us, .int .i64 si, .int .i64 cy, .bool ac] 42)::(b3,cells [vc, .int .i64 page,vt, .int .i64 workers, .int .i64 grey, .int .i64 gens] 25)::F)))) (fun s=>True) ?_ ?_
     ·refine zgR ?_;refine zcO ?_;refine K.loopT (σ:=Nat) [(2,_),(7,_),(9,_),(10,_),(11,_),(12,_),(13,_)] (fun s kp_=>(14, .int .i64 (s:Nat))::kp_) (fun s=>hpH D y1 (h9)++(oH uE 33 tl otl++(oH uE 33 gl ogl++((b12,cells [.int .u8 (zc:Nat), .int .u64 (zh:Nat), .int .i64 za, .int .i64 zb, .int .u64 (zv:Nat)] 35)::(b13,cells [.int .i64 e, .int .u64 (hh:Nat), .int .u64 w, .int .i64 addr, .int .i64 us, .int .i64 si, .int .i64 cy, .bool ac] 42)::(b3,cells [vc, .int .i64 page,vt, .int .i64 workers, .int .i64 grey, .int .i64 gens] 25)::F)))) (fun s=>s≤tl.length) (fun s=>tl.length-s) (0) jj ja (Nat.zero_le _) ?_;rintro k hk
      by_cases hk1:k<tl.length
      ·have hk1':((k:Nat):Int)<((tl.length:Nat):Int):=by omega
       by_cases hh0:hh=0
       ·have hh0':((hh:Nat):Int)=0:=by omega
        refine za4 ?_;refine zbW ?_;refine zab ?_;refine zL ?_;refine zbh ?_;refine zaE ?_;refine zw ?_;refine zcf ?_;exact zgX
       ·have hh0': ¬((hh:Nat):Int)=0:=by omega
        obtain⟨xk1,hxk⟩:=jA hk1
        have hnk:=hne hh0 _ (List.mem_of_getElem? hxk)
        refine za4 ?_;refine zbW ?_;refine zab ?_;refine zL ?_;refine zbh ?_;refine zag ?_;refine zw ?_;refine zgZ ?_;refine K.drawn [] [(0,0),(1,0),(2,0),(3,0),(4,0),(5,0),(6,0)] (by kernel_rfl) (by kernel_rfl) (by kernel_rfl) (by kernel_rfl) (by kernel_rfl) (by kernel_rfl) Part.nil ?_;refine zbf ?_;refine KD.v0 rfl rfl (Val.idxSl rfl rfl rfl (Sli.own jn (by assumption) j6) rfl jL) ?_;refine zgz ?_;refine zd1 ?_;refine zhb ?_;refine zD ?_;refine zbH ?_;refine zcg ?_;exact KE.again (k+1) jj ja hk1 (by show tl.length-(k+1)<tl.length-k;omega)
      ·have hk1': ¬((k:Nat):Int)<((tl.length:Nat):Int):=by omega
       refine za4 ?_;refine zbW ?_;refine zT ?_;refine zax ?_;refine zcf ?_;exact zgX
     ·rintro⟨⟩-;refine K.cutT (σ:=SsT) [(2,_),(7,_),(10,_),(11,_),(12,_),(13,_)] jj (fun s kp_=>(9,oV s.oT s.T.length)::kp_) (fun s=>hpH D y1 (h9)++(oH uE 33 s.T s.oT++(oH uE 33 gl ogl++((b12,cells [.int .u8 (zc:Nat), .int .u64 (zh:Nat), .int .i64 za, .int .i64 zb, .int .u64 (zv:Nat)] 35)::(b13,cells [.int .i64 e, .int .u64 (hh:Nat), .int .u64 w, .int .i64 addr, .int .i64 us, .int .i64 si, .int .i64 cy, .bool ac] 42)::(b3,cells [vc, .int .i64 page,vt, .int .i64 workers, .int .i64 grey, .int .i64 gens] 25)::F)))) (fun s=>StI D.C h9 s.T gl∧s.T.length≤i+1∧oOk uE s.T s.oT) ?_ ?_
      ·by_cases hh0:hh=0
       ·have hh0':((hh:Nat):Int)=0:=by omega
        refine zy ?_;refine zF ?_;refine zaE ?_;refine zbq ?_;exact KE.meet ⟨tl,otl⟩ jj ja ⟨hS2,by show tl.length≤i+1;omega,kT⟩
       ·have hh0': ¬((hh:Nat):Int)=0:=by omega
        have hbd:(tl++ [((hh:Nat):Int)]).length≤4294967296:=by simp;omega
        refine zy ?_;refine zF ?_;refine zd5 ?_;refine ze ?_;refine zF ?_;refine zaj ?_;intro b88;refine KL.e rfl (Eff.appZ (ys:=[_]) rfl rfl rfl rfl rfl rfl jn (by assumption) (by first|exact Sli.blk jF rfl (by first|decide|simp) (by first|decide|(unfold maxLen;omega)) rfl|exact Sli.old (by assumption)|exact Sli.own jn (by assumption) j6|assumption|exact Sli.part (by assumption) ja) rfl (by first|assumption|omega|(simp<;>fail)|(simp;omega)) rfl) ?_;rintro _ _ ⟨o89,ok89,rfl,rfl⟩;refine zbY ?_;exact KE.meet ⟨tl++ [((hh:Nat):Int)],o89⟩ jj ja ⟨hold hh0,by show(tl++ [((hh:Nat):Int)]).length≤i+1;simp;omega,ok89⟩
      ·rintro⟨tl2,otl2⟩ ⟨hS3,hTl2,kT2⟩;dsimp only at hS3 hTl2 kT2⊢;refine K.cutT (σ:=SsT) [(2,_),(7,_),(9,_),(11,_)] jj (fun s kp_=>(10,oV s.oT s.T.length)::kp_) (fun s=>hpH D y1 (h9)++(oH uE 33 tl2 otl2++(oH uE 33 s.T s.oT++((b12,cells [.int .u8 (zc:Nat), .int .u64 (zh:Nat), .int .i64 za, .int .i64 zb, .int .u64 (zv:Nat)] 35)::(b13,cells [.int .i64 e, .int .u64 (hh:Nat), .int .u64 w, .int .i64 addr, .int .i64 us, .int .i64 si, .int .i64 cy, .bool ac] 42)::(b3,cells [vc, .int .i64 page,vt, .int .i64 workers, .int .i64 grey, .int .i64 gens] 25)::F)))) (fun s=>StI D.C h9 tl2 s.T∧s.T.length≤i+1∧oOk uE s.T s.oT) ?_ ?_
       ·by_cases h6:zc=6
        ·have h6':((zc:Nat):Int)=6:=by omega
         by_cases he:e=0
         ·have hbd:(gl++ [((zh:Nat):Int)]).length≤4294967296:=by simp;omega
          refine zy ?_;refine zB ?_;refine zJ ?_;refine zbg ?_;refine zJ ?_;refine zw ?_;refine zaS ?_;refine ze ?_;refine zF ?_;refine zaj ?_;intro b101;refine KL.e rfl (Eff.appZ (ys:=[_]) rfl rfl rfl rfl rfl rfl jn (by assumption) (by first|exact Sli.blk jF rfl (by first|decide|simp) (by first|decide|(unfold maxLen;omega)) rfl|exact Sli.old (by assumption)|exact Sli.own jn (by assumption) j6|assumption|exact Sli.part (by assumption) ja) rfl (by first|assumption|omega|(simp<;>fail)|(simp;omega)) rfl) ?_;rintro _ _ ⟨o102,ok102,rfl,rfl⟩;refine zbY ?_;exact KE.meet ⟨gl++ [((zh:Nat):Int)],o102⟩ jj ja ⟨hdead _ hS3 h6 he,by show(gl++ [((zh:Nat):Int)]).length≤i+1;simp;omega,ok102⟩
         ·refine zgR ?_;refine zB ?_;refine zJ ?_;refine zbg ?_;refine zG ?_;refine zw ?_;refine zbq ?_;exact KE.meet ⟨gl,ogl⟩ jj ja ⟨hS3,by show gl.length≤i+1;omega,kG⟩
        ·have h6': ¬((zc:Nat):Int)=6:=by omega
         refine zy ?_;refine zB ?_;refine zG ?_;refine zax ?_;refine zbq ?_;exact KE.meet ⟨gl,ogl⟩ jj ja ⟨hS3,by show gl.length≤i+1;omega,kG⟩
       ·rintro⟨gl2,ogl2⟩ ⟨hS4,hGl2,kG2⟩;dsimp only at hS4 hGl2 kG2⊢;clear hS3 hS2 hne hold hdead;refine zae ?_;refine zb9 ?_;refine K.loopT (σ:=SsF) [(2,_),(7,_),(9,_),(10,_),(11,_)] (fun s kp_=>(15, .int .i64 (s.k:Nat))::kp_) (fun s=>hpH D s.y (s.h)++(oH uE 33 tl2 otl2++(oH uE 33 gl2 ogl2++((b3,cells [vc, .int .i64 page,vt, .int .i64 workers, .int .i64 grey, .int .i64 gens] 25)::F)))) (fun s=>s.k≤gl2.length∧HpR D s.f 400000000 s.y s.h∧s.f≤f+2+2*s.k∧StI D.C s.h tl2 gl2) (fun s=>gl2.length-s.k) (⟨0,f+2,y1,h9⟩) jj ja (⟨Nat.zero_le _,h2,Nat.le_refl _,hS4⟩) ?_;rintro⟨k,f3,y3,h3⟩ ⟨hk,hR3,hf3,hS5⟩;dsimp only at hk hR3 hf3 hS5⊢
        by_cases hk1:k<gl2.length
        ·have hk1':((k:Nat):Int)<((gl2.length:Nat):Int):=by omega
         obtain⟨xk1,hxk⟩:=jA hk1
         obtain⟨w7,rfl,hw7,he7,hS6⟩:=hS5.fold hC hxk
         have hdo7:=fun A=>jcf (w0:=w0) (F:=A) hG hD hS5.I hR3 (by omega) (op:=⟨7,w7,0,0,0⟩) ⟨(by show(7:Nat)<256;decide),hw7,(by show(0:Nat)<18446744073709551616;decide)⟩
         obtain⟨⟨e7,hh7,w77,addr7,us7,si7,cy7,ac7⟩,h8,hv7⟩: ∃ (q:SnP) (h9:HpP),hpDo D.C h3 ⟨7,w7,0,0,0⟩=(q,h9):=⟨_,_,rfl⟩
         rw[hv7] at he7 hS6;simp only[hv7] at hdo7;dsimp only at he7 hS6;subst he7;unfold opV snV HpQ at hdo7;dsimp only at hdo7;refine za4 ?_;refine zbW ?_;refine zab ?_;refine zbc ?_;refine zm ?_;refine ze ?_;refine ze8 ?_;refine zjx ?_;refine zM ?_;refine zn ?_;refine j4 (hdo7 _) ja ?_;rintro _ _ ⟨rfl,y4,h4,rfl⟩;refine zaH ?_;intro b16;refine zB ?_;refine zaE ?_;refine zeD ?_;exact KE.again ⟨k+1,f3+2,y4,h8⟩ jj ja ⟨hk1,h4,(by show f3+2≤f+2+2*(k+1);omega),hS6⟩ (by show gl2.length-(k+1)<gl2.length-k;omega)
        ·have hk1': ¬((k:Nat):Int)<((gl2.length:Nat):Int):=by omega
         refine za4 ?_;refine zbW ?_;refine zT ?_;refine zcf ?_;refine zcg ?_;exact KE.again ⟨i+1,f3,y3,h3,tl2,otl2,gl2,ogl2⟩ jj ja ⟨hc1,hc2,hR3,(by show f3≤1+(i+1)*200;omega),hS5,hTl2,hGl2,kT2,kG2⟩ (by show l.length-(i+1)<l.length-i;omega)
   ·have hc2': ¬((i:Nat):Int)<80:=by omega
    refine zla ?_;refine zT ?_;refine zw ?_;refine zdh ?_;refine zn ?_;refine zdb ?_;exact zt
  ·have hc1': ¬((i:Nat):Int)<((l.length:Nat):Int):=by omega
   refine za4 ?_;refine zdi ?_;refine zaO ?_;refine zdh ?_;refine zn ?_;refine zdb ?_;exact zt
end
open Go.RowKit Go.ChangeShapes Go.WideShapes Go.ChangeAt Go.Deep Go.Joins
set_option maxRecDepth 100000
section
variable {H : Type} {enc : TypeId × Value → H} {W : World}
theorem jdL {fuel:Nat} {cs:List Value} {x:DataW H × List MemPlace} (hx:DataW.trod enc Tryz.prog W 0 (fun _=>true) true fuel 35 cs=some x) (hlen:cs.length=5): ∃ y:OpP,cs=[.int .u8 (y.c:Nat), .int .u64 (y.h:Nat), .int .i64 y.a, .int .i64 y.b, .int .u64 (y.v:Nat)]∧JN y:=by
 obtain⟨c0,c1,c2,c3,c4,rfl⟩: ∃ c0 c1 c2 c3 c4,cs=[c0,c1,c2,c3,c4]:=by
  match cs,hlen with
  | [c0,c1,c2,c3,c4],_=>exact⟨c0,c1,c2,c3,c4,rfl⟩
 obtain⟨xs,n,_,rfl,hl,hxl,hf⟩:=DataW.trod_struct Tryz.underlying35 hx
 have k8:(Tryz.prog).cellsOf 5=1:=by kernel_rfl
 have ku:(Tryz.prog).cellsOf 33=1:=by kernel_rfl
 have ki:(Tryz.prog).cellsOf 3=1:=by kernel_rfl
 match xs,hxl with
 | [y0,y1,y2,y3,y4],_=>
  have h0:=hf 0 _ rfl
  have h1:=hf 1 _ rfl
  have h2:=hf 2 _ rfl
  have h3:=hf 3 _ rfl
  have h4:=hf 4 _ rfl
  obtain⟨a0,e0,-,w0⟩:=DataW.trod_int Tryz.underlying5 (by simpa [k8,ku,ki] using h0)
  obtain⟨a1,e1,-,w1⟩:=DataW.trod_int Tryz.underlying33 (by simpa [k8,ku,ki] using h1)
  obtain⟨a2,e2,-,w2⟩:=DataW.trod_int Tryz.underlying3 (by simpa [k8,ku,ki] using h2)
  obtain⟨a3,e3,-,w3⟩:=DataW.trod_int Tryz.underlying3 (by simpa [k8,ku,ki] using h3)
  obtain⟨a4,e4,-,w4⟩:=DataW.trod_int Tryz.underlying33 (by simpa [k8,ku,ki] using h4)
  simp at e0 e1 e2 e3 e4
  have hu0:=wf_u8 w0
  have hu1:=jbF w1
  have hu4:=jbF w4
  unfold u8ok at hu0;unfold jaJ at hu1 hu4
  obtain⟨n0,rfl⟩: ∃ n0:Nat,a0=n0:=⟨a0.toNat,by omega⟩
  obtain⟨n1,rfl⟩: ∃ n1:Nat,a1=n1:=⟨a1.toNat,by omega⟩
  obtain⟨n4,rfl⟩: ∃ n4:Nat,a4=n4:=⟨a4.toNat,by omega⟩
  subst e0 e1 e2 e3 e4;exact zjM
theorem hact_in {fuel:Nat} {cs:List Value} {x:DataW H × List MemPlace} (hx:DataW.trod enc Tryz.prog W 0 (fun _=>true) true fuel 37 cs=some x) (hlen:cs.length=10): ∃ y:jU,cs=haE.enc y∧J7 y:=by
 obtain⟨c0,c1,c2,c3,c4,c5,c6,c7,c8,c9,rfl⟩: ∃ c0 c1 c2 c3 c4 c5 c6 c7 c8 c9,cs=[c0,c1,c2,c3,c4,c5,c6,c7,c8,c9]:=by
  match cs,hlen with
  | [c0,c1,c2,c3,c4,c5,c6,c7,c8,c9],_=>exact⟨c0,c1,c2,c3,c4,c5,c6,c7,c8,c9,rfl⟩
 obtain⟨xs,n,hn,rfl,hl,hxl,hf⟩:=DataW.trod_struct Tryz.underlying37 hx
 have k8:(Tryz.prog).cellsOf 5=1:=by kernel_rfl
 have kb:(Tryz.prog).cellsOf 4=1:=by kernel_rfl
 have ki:(Tryz.prog).cellsOf 3=1:=by kernel_rfl
 have ko:(Tryz.prog).cellsOf 35=5:=by kernel_rfl
 match xs,hxl with
 | [y0,y1,y2,y3,y4,y5],_=>
  have h0:=hf 0 _ rfl
  have h1:=hf 1 _ rfl
  have h2:=hf 2 _ rfl
  have h3:=hf 3 _ rfl
  have h4:=hf 4 _ rfl
  have h5:=hf 5 _ rfl
  obtain⟨o,eo,ho⟩:=jdL (cs:=[c0,c1,c2,c3,c4]) (by simpa [k8,kb,ki,ko] using h0) rfl
  obtain⟨a1,e1,-,w1⟩:=DataW.trod_int Tryz.underlying3 (by simpa [k8,kb,ki,ko] using h1)
  obtain⟨a2,e2,-,w2⟩:=DataW.trod_int Tryz.underlying3 (by simpa [k8,kb,ki,ko] using h2)
  obtain⟨a3,e3,-⟩:=DataW.trod_bool Tryz.underlying4 (by simpa [k8,kb,ki,ko] using h3)
  obtain⟨a4,e4,-,w4⟩:=DataW.trod_int Tryz.underlying3 (by simpa [k8,kb,ki,ko] using h4)
  obtain⟨a5,e5,-,w5⟩:=DataW.trod_int Tryz.underlying5 (by simpa [k8,kb,ki,ko] using h5)
  simp at eo e1 e2 e3 e4 e5
  have hu:=wf_u8 w5
  unfold u8ok at hu
  obtain⟨n5,rfl⟩: ∃ n5:Nat,a5=n5:=⟨a5.toNat,by omega⟩
  obtain⟨q0,q1,q2,q3,q4⟩:=eo
  subst q0 q1 q2 q3 q4 e1 e2 e3 e4 e5;exact zkQ
end
end Go.Proofs.YtpcgafhgfjlkmaaGreatDoor.Sw
