/-The walker and the contracts that the law needs,part 41. -/
import Derived.Test.YtldomapkmopomaaGreatDoorD1
import Derived.ArgAppend
import Derived.ChangeMaps5
import Derived.Deep.Fields
import Derived.Deep.LoopGhost
import Derived.Deep.OwnRows
import Derived.Deep.Quiet
import Derived.Deep.Slices
import Derived.IntWalk
import Derived.LaidHandle
import Derived.LaidMore
import Derived.Laws.Cells
import Derived.Laws.CopyOwn
import Derived.Laws.Externs
import Derived.Laws.FloatArith
import Derived.Laws.IdiomStrings
import Derived.Laws.NewFold
import Derived.Laws.StructEq
import Derived.Lay
import Derived.Lib.BitFns
import Derived.Lib.Hide
import Derived.Lib.SmallJoins
import Derived.Lib.TrailingZeros
import Derived.Maps.RangeRun
import Derived.OpenShut
import Derived.OrdersIn
import Derived.ProofKit
import Derived.RangeFuncBound
import Derived.RangeFuncCalls
import Derived.RangeFuncLeaves
import Derived.RangeFuncNested
import Derived.RecoverIn
import Derived.Shelf.Bits.Mul64
import Derived.Shelf.Slices.Turned
import Derived.Shelf.Spec.TrailingZeros
import Derived.Shelf.Strconv.Itoa0
import Derived.SizedLaws
import Derived.Sort.BigQuietIn
import Derived.StillTailTactics
import Derived.Test.YtldomapkmopomaaGreatDoorProg
import Derived.Test.YtldomapkmopomaaGreatDoorRows
import Derived.WalkKit
import Derived.Test.YtldomapkmopomaaGreatDoorJ38
import Derived.Test.YtldomapkmopomaaGreatDoorJ39
set_option linter.unusedVariables false set_option linter.unusedSimpArgs false namespace Go.Proofs.YtldomapkmopomaaGreatDoor.Sw
set_option maxHeartbeats 8000000
open Go.Proofs.YtldomapkmopomaaGreatDoor renaming lo → qL, hi → qH
open Go.RowKit Go.ChangeShapes Go.WideShapes Go.ChangeAt Go.Deep Go.Joins
set_option linter.unusedVariables false
set_option linter.unusedSimpArgs false
set_option maxRecDepth 100000
theorem jge {H:Type} {P:Program} {e:TypeId} {n:Nat} {d:DataW H}: ∀ {l:List (DataW H)},d∈l→n∈d.weights P e→n∈DataW.weightsAll P e l
 |a::l,h,hn=>by
  simp only[DataW.weightsAll,List.mem_append]
  rcases List.mem_cons.1 h with rfl|h
  ·exact .inl hn
  ·exact .inr (jge h hn)
theorem jgV {P:Program} {α:Type} {E:Enc α} {H:Type} {enc:TypeId × Value→H} {W:World} {t e:TypeId} (ht:P.underlying t=some (.slice e)) (hk:P.cellsOf e=E.sz) (hk0:0<E.sz) {fuel:Nat} {cs:List Value} {x:DataW H × List MemPlace}
  (hf:DataW.trod enc P W 0 (fun _=>true) true fuel t cs=some x) (hz: ∀ n∈x.1.weights P t,n≤reachBytes) (Ok:α→Prop)
  (hR: ∀ fuel cs x,DataW.trod enc P W 0 (fun _=>true) true fuel e cs=some x→(∀ n∈x.1.weights P e,n≤reachBytes)→cs.length=E.sz→ ∃ y,cs=E.enc y∧Ok y):
  ∃ a n c ys,cs=[.slice a n c]∧SlW W E (.slice a n c) ys∧(∀ y∈ys,Ok y)∧ys.length*P.bytesOf e≤reachBytes:=by
 rcases open_slice ht hf with⟨hcs,_⟩|⟨a',len',cap',m,n,D,Pl,hcs,_,hl,hm,hmm,hxd,hx⟩
 ·exact⟨none,0,0,[],hcs,SlW.nil W E,(fun y hy=>by cases hy),by simp⟩
 ·simp only[if_true] at hmm;subst hmm;subst hxd;simp only[DataW.weights,ht] at hz
  have key: ∀ i,i<len'→ ∃ y,Ok y∧ ∀ j,j<E.sz→W.cell? (a'.add (i*E.sz+j))=(E.enc y)[j]? :=by
   intro i hi
   obtain⟨cs',h1,h2⟩:=hx i (by omega)
   rw[hk] at h1
   obtain⟨_,hlen,hat⟩:=World.cells?_some h1
   obtain⟨y,rfl,hy⟩:=hR _ _ _ h2 (fun n hn=>hz n (by
    refine List.mem_cons_of_mem _ (List.mem_append_left _ (jge (d:=D i) ?_ hn))
    exact List.mem_map_of_mem (List.mem_range.2 hi))) hlen
   exact⟨y,hy,fun j hj=>by rw[←add_add];exact hat j hj⟩
  obtain⟨ys,hys,hall⟩:=jgl len' (fun i y=>Ok y∧ ∀ j,j<E.sz→W.cell? (a'.add (i*E.sz+j))=(E.enc y)[j]?) key
  subst hys
  have hspot:0<ys.length→ ∃ b off,a'=⟨b,off,none⟩:=by
   intro hpos
   obtain⟨b,off,spot⟩:=a'
   obtain⟨y0,_,hc0⟩:=key 0 hpos
   have h1:=hc0 0 hk0
   rw[List.getElem?_eq_getElem (by rw[E.len];exact hk0)] at h1
   have hsp:spot=none:=by simpa [Addr.add] using World.cell?_spot h1
   subst hsp;exact⟨b,off,rfl⟩
  refine⟨some a',ys.length,_,ys,hcs,⟨⟨some a',_,rfl,hl,hm,fun hne=>?_⟩,?_⟩,?_,?_⟩
  ·obtain⟨b,off,rfl⟩:=hspot (List.length_pos_iff.2 hne)
   exact⟨b,off,rfl⟩
  ·intro i y hy j u hu
   have hi:=(List.getElem?_eq_some_iff.1 hy).1
   obtain⟨b,off,rfl⟩:=hspot (by omega)
   have hj:j<E.sz:=by have:=(List.getElem?_eq_some_iff.1 hu).1;rwa[E.len] at this
   have:=(hall i y hy).2 j hj
   rw[jaV,hu] at this
   simpa [adr] using this
  ·intro y hy
   obtain⟨i,hi⟩:=List.getElem?_of_mem hy
   exact(hall i y hi).1
  ·have:=hz _ (List.mem_cons_self ..)
   simp only[List.length_map,List.length_range] at this;refine Nat.le_trans (Nat.mul_le_mul_right _ ?_) this
   omega
section
variable {H : Type} {enc : TypeId × Value → H} {W : World}
theorem tn_in {fuel:Nat} {cs:List Value} {x:DataW H × List MemPlace} (hx:DataW.trod enc Tryz.prog W 0 (fun _=>true) true fuel 127 cs=some x) (hlen:cs.length=4): ∃ y:Tn,cs=tnE.enc y∧True:=by
 obtain⟨c0,c1,c2,c3,rfl⟩: ∃ c0 c1 c2 c3,cs=[c0,c1,c2,c3]:=by
  match cs,hlen with
  | [c0,c1,c2,c3],_=>exact⟨c0,c1,c2,c3,rfl⟩
 obtain⟨xs,n,_,rfl,hl,hxl,hf⟩:=DataW.trod_struct Tryz.underlying127 hx
 have ki:(Tryz.prog).cellsOf 3=1:=by kernel_rfl
 match xs,hxl with
 | [y0,y1,y2,y3],_=>
  have h0:=hf 0 _ rfl
  have h1:=hf 1 _ rfl
  have h2:=hf 2 _ rfl
  have h3:=hf 3 _ rfl
  obtain⟨a0,e0,-,w0⟩:=DataW.trod_int Tryz.underlying3 (by simpa [ki] using h0)
  obtain⟨a1,e1,-,w1⟩:=DataW.trod_int Tryz.underlying3 (by simpa [ki] using h1)
  obtain⟨a2,e2,-,w2⟩:=DataW.trod_int Tryz.underlying3 (by simpa [ki] using h2)
  obtain⟨a3,e3,-,w3⟩:=DataW.trod_int Tryz.underlying3 (by simpa [ki] using h3)
  simp at e0 e1 e2 e3
  subst e0 e1 e2 e3;exact⟨⟨a0,a1,a2,a3⟩,rfl,trivial⟩
theorem jca {base:Nat} {v:Value} {d:DataW H} {p:List MemPlace} (ho:Value.okWide Tryz.prog W .any base 25 v) (h:DataW.Trod enc Tryz.prog W 0 (fun _=>true) true 25 v d p) (hz: ∀ n∈d.weights Tryz.prog 25,n≤reachBytes):
  ∃ (c:Cfg) (vc vt:Value),v=jt c vc vt∧SlW W iE vc c.cl∧j1 W [] c vc vt∧vc.oneCell'=true:=by
 obtain⟨cs,rfl,hs⟩:=okWide_struct Tryz.underlying25 ho
 have k6:(Tryz.prog).cellsOf 25=6:=by kernel_rfl
 rw[k6] at hs
 obtain⟨fuel,hf⟩:=h
 obtain⟨c0,c1,c2,c3,c4,c5,hcs⟩: ∃ c0 c1 c2 c3 c4 c5,cs=[c0,c1,c2,c3,c4,c5].toArray:=by
  obtain⟨l⟩:=cs
  match l,hs with
  | [c0,c1,c2,c3,c4,c5],_=>exact⟨c0,c1,c2,c3,c4,c5,rfl⟩
 subst hcs
 obtain⟨xs,n,_,hx,hl,hxl,hfl⟩:=DataW.trod_struct Tryz.underlying25 hf
 obtain⟨rfl,rfl⟩:=Prod.mk.inj hx
 have ks:(Tryz.prog).cellsOf 22=1:=by kernel_rfl
 have kt:(Tryz.prog).cellsOf 23=1:=by kernel_rfl
 have ki:(Tryz.prog).cellsOf 3=1:=by kernel_rfl
 have b1:(Tryz.prog).bytesOf 3=8:=by kernel_rfl
 have b2:(Tryz.prog).bytesOf 127=32:=by kernel_rfl
 match xs,hxl with
 | [y0,y1,y2,y3,y4,y5],_=>
  have h0:=hfl 0 _ rfl
  have h1:=hfl 1 _ rfl
  have h2:=hfl 2 _ rfl
  have h3:=hfl 3 _ rfl
  have h4:=hfl 4 _ rfl
  have h5:=hfl 5 _ rfl
  simp only[DataW.weights,Tryz.underlying25] at hz
  obtain⟨a0,n0,m0,ys,e0,hS,_,hb⟩:=jgV (P:=Tryz.prog) (E:=iE) (x:=y0) Tryz.underlying22 (by kernel_rfl) (by decide) (by simpa [ks,Value.cells] using h0) (fun n hn=>hz n (DataW.weights_mem_each (j:=0) (t:=22) (d:=y0.1) rfl rfl n hn)) i64ok (fun fuel cs x hx _ hl=>int_in hx)
  obtain⟨a1,e1,-,w1⟩:=DataW.trod_int Tryz.underlying3 (by simpa [ki,Value.cells] using h1)
  obtain⟨a2,n2,m2,ts,e2,hT,_,hb2⟩:=jgV (P:=Tryz.prog) (E:=tnE) (x:=y2) Tryz.underlying23 (by kernel_rfl) (by decide) (by simpa [kt,Value.cells] using h2) (fun n hn=>hz n (DataW.weights_mem_each (j:=2) (t:=23) (d:=y2.1) rfl rfl n hn)) (fun _=>True) (fun fuel cs x hx _ hl=>tn_in hx hl)
  obtain⟨a3,e3,-,w3⟩:=DataW.trod_int Tryz.underlying3 (by simpa [ki,Value.cells] using h3)
  obtain⟨a4,e4,-,w4⟩:=DataW.trod_int Tryz.underlying3 (by simpa [ki,Value.cells] using h4)
  obtain⟨a5,e5,-,w5⟩:=DataW.trod_int Tryz.underlying3 (by simpa [ki,Value.cells] using h5)
  simp[Value.cells,ks,kt,ki] at e0 e1 e2 e3 e4 e5
  subst e0 e1 e2 e3 e4 e5;rw[b1] at hb;rw[b2] at hb2;unfold reachBytes at hb hb2;exact⟨⟨ys,a1,ts,a3,a4,a5⟩,_,_,rfl,hS,⟨Sli.old hS,Sli.old hT,rfl,rfl,by show ys.length≤_;omega,by show ts.length≤_;omega⟩,rfl⟩
end
open Go.RowKit
set_option maxRecDepth 100000
theorem cw_ph0:cw5.ph=0:=rfl
theorem cw_ph1:cw6.ph=1:=rfl
theorem getD_no {α:Type} {o:Option α} {a:α} (h:o.isSome=false):o.getD a=a:=by cases o with
 |none=>rfl
 |some x=>cases h
theorem cw_helpS:(helpC cwG 2 cw5).getD cw5=cw5:=getD_no cw_help
theorem cw_stepS:(stepC cwG 2 1 cwF.2 0 5).getD cwF.2=cwF.2:=getD_no cw_step
set_option maxHeartbeats 8000000 in
theorem jcn {w0:World} {F:jb} (hG:jw w0):Call Tryz.prog w0 11 [] F (fun r H'=>r= .bool true∧H'=F):=by
 refine Call.enter0 (n:=139) (by kernel_rfl) Tryz.func11 rfl rfl rfl ?_;refine yr7 ?_;refine zt ?_;intro b20;refine yr2 ?_;refine zt ?_;intro b23;refine yq1 fun T hT=>?_
 have hC:Sli w0 [(b20,cells [.int .i64 2, .int .i64 4] 3)] iE (.slice (some ⟨b20,0,none⟩) 2 2) cwC.cl:=Sli.blk jH.head rfl (by decide) (by decide) rfl
 have hT:Sli w0 [(b23,cells (jD tnE cwC.tn) 127)] tnE (.slice (some ⟨b23,0,none⟩) 2 2) cwC.tn:=Sli.blk jH.head rfl (by decide) (by decide) rfl
 have hR:j1 w0 ([(b20,cells [.int .i64 2, .int .i64 4] 3)]++((b23,cells (jD tnE cwC.tn) 127)::F)) cwC (.slice (some ⟨b20,0,none⟩) 2 2) (.slice (some ⟨b23,0,none⟩) 2 2):=⟨hC.part ja,hT.part ja,rfl,rfl,by decide,by decide⟩
 refine(CallV.part (CallV.fn (cmade_K hG hR cw_ok hC rfl)) ja).mono ?_;rintro _ _ ⟨X,⟨hX,hnw⟩,rfl,rfl⟩
 obtain⟨q1,q2,q3,q4,q5,q6,q7,q8,q9,r1,r2,r3,r4,r5⟩:=hX.d.c
 obtain⟨pb,hpb⟩: ∃ pb,X.y.b=pb:=⟨_,rfl⟩
 obtain⟨pm,hpm⟩: ∃ pm,X.y.B.m.b=pm:=⟨_,rfl⟩
 obtain⟨pB,hpB⟩: ∃ pB,X.y.B.b=pB:=⟨_,rfl⟩
 obtain⟨pT,hpT⟩: ∃ pT,X.y.T.b=pT:=⟨_,rfl⟩
 obtain⟨pa,hpa⟩: ∃ pa,X.y.a.b=pa:=⟨_,rfl⟩
 have hA0:CwR _ cwG 2 1 3 1 pb pm pB pT pa X.y cw0:=⟨hX.p,hpb,hpm,hpB,hpT,hpa,hnw,hX.gens,hX.f,hX.t,hX.mem⟩
 clear hX hR hT hC;unfold wcL wcH;simp only[hpb,List.append_assoc]
 obtain⟨y,v,d,D⟩:=X
 dsimp only at*;refine za ?_;clear hT T;refine yr3 ?_;refine zf ?_;intro b1;refine yr15 ?_;refine K.drawn _ [(0,0),(1,0),(3,1),(4,1),(2,2),(5,0),(6,0)] (by kernel_rfl) (by kernel_rfl) (by kernel_rfl) (by kernel_rfl) (by kernel_rfl) (by kernel_rfl) Part.all ?_;refine zB ?_;refine zbZ ?_;refine zx ?_;refine zi fun T hT=>?_;refine(CallV.part (CallV.fn (jbx hA0)) ja).mono ?_;refine zl ?_;clear hT T;refine zab ?_;refine yq4 fun T hT=>?_;refine(CallV.part (CallV.fn (awTake_K (k:=0) (s':=cw1) hG hA0 rfl)) ja).mono ?_;rintro _ _ ⟨rfl,y1,hA1,rfl⟩;refine za ?_;clear hT T;refine yq5 fun T hT=>?_;refine(CallV.part (CallV.fn (awTake_K (k:=0) (s':=cw2) hG hA1 rfl)) ja).mono ?_;rintro _ _ ⟨rfl,y2,hA2,rfl⟩;refine za ?_;clear hT T;refine yq5 fun T hT=>?_;refine(CallV.part (CallV.fn (jfj hA2)) ja).mono ?_;refine zc ?_;clear hT T;refine zz fun T hT=>?_;refine(CallV.part (CallV.fn (awMint_K (n:=0) (s':=cw3) hA2 (jl cw_y0) rfl)) ja).mono ?_;rintro _ _ ⟨rfl,y3,hA3,rfl⟩;refine za ?_;clear hT T;refine yq5 fun T hT=>?_;refine(CallV.part (CallV.fn (awBody_K hA3)) ja).mono ?_;refine zc ?_;clear hT T;refine yq1 fun T hT=>?_;refine(CallV.part (CallV.fn (awMake_K (n:=0) (hd:=⟨0,0,1⟩) (s':=cw4) hG hA3 cw_y0 rfl)) ja).mono ?_;rintro _ _ ⟨rfl,y4,hA4,rfl⟩;refine za ?_;clear hT T;refine yq5 fun T hT=>?_;refine(CallV.part (CallV.fn (awBody_K hA4)) ja).mono ?_;refine zc ?_;clear hT T;refine yq1 fun T hT=>?_;refine(CallV.part (CallV.fn (awMake_K (n:=1) (hd:=⟨0,0,1⟩) (s':=cw5) hG hA4 cw_y1 rfl)) ja).mono ?_;rintro _ _ ⟨rfl,y5,hA5,rfl⟩;refine za ?_;clear hT T;refine yq5 fun T hT=>?_;refine(CallV.part (CallV.fn (jdO hA5 (by rw[cw_ph0];decide))) ja).mono ?_;refine zc ?_;clear hT T;refine yq12 fun T hT=>?_;refine(CallV.part (CallV.fn (jfL (s':=cw5) hG hA5 cw_help cw_helpS)) ja).mono ?_;rintro _ _ ⟨rfl,y6,hA6,rfl⟩;refine za ?_;clear hT T;refine yq1 fun T hT=>?_;refine(CallV.part (CallV.fn (jdo (s':=cw6) hA6 cw_ph0 (by decide) rfl)) ja).mono ?_;rintro _ _ ⟨rfl,y7,hA7,rfl⟩;refine za ?_;clear hT T;refine yq1 fun T hT=>?_;refine(CallV.part (CallV.fn (jeY hA7 (by rw[cw_ph1];decide))) ja).mono ?_;refine zc ?_;clear hT T;refine yq8 fun T hT=>?_;refine(CallV.part (CallV.fn (awPhase_K hA7)) ja).mono ?_;refine zc ?_;clear hT T;refine yq6 fun T hT=>?_;refine(CallV.part (CallV.fn (jbM (s':=cwF.2) hG hA7 (by rw[cw_ph1];decide) cw_n rfl)) ja).mono ?_;rintro _ _ ⟨rfl,y8,hA8,rfl⟩;refine za ?_;clear hT T;refine yq10 fun T hT=>?_;refine(CallV.part (CallV.fn (awPhase_K hA8)) ja).mono ?_;refine zc ?_;clear hT T;refine yq6 fun T hT=>?_;refine(CallV.part (CallV.fn (jer (s':=cwF.2) hG hA8 (by decide) cw_step cw_stepS)) ja).mono ?_;rintro _ _ ⟨rfl,y9,hA9,rfl⟩;refine za ?_;clear hT T;refine yq6 fun T hT=>?_;refine(CallV.part (CallV.fn (jce (s':=cw8) hG hA9 cw_ph cw_freed cw_back rfl)) ja).mono ?_;rintro _ _ ⟨rfl,ya,hAa,rfl⟩;refine za ?_;clear hT T;refine yq83 fun T hT=>?_;refine(CallV.part (CallV.fn (awPhase_K hAa)) ja).mono ?_;refine zc ?_;clear hT T;refine yq7 fun T hT=>?_;refine(CallV.part (CallV.fn (jc0 (t:=0) hAa)) ja).mono ?_;refine zc ?_;clear hT T;refine yq5 fun T hT=>?_;refine(CallV.part (CallV.fn (jc0 (t:=1) hAa)) ja).mono ?_;refine zc ?_;clear hT T;refine yr7 ?_;exact zd
set_option maxRecDepth 10000
structure SyA where
 i:Nat
theorem jdn (b:Bool):(b !=b)=false:=by cases b<;>rfl
theorem idxP_rep (n:Nat):idxP (List.replicate n false)=[]:=by
 unfold idxP;rw[List.map_eq_nil_iff,List.filter_eq_nil_iff];intro i hi;rw[List.getElem?_replicate]
 split<;>simp
section
variable {R0 : List (List Int)} {gn : Int} {w0 : World} {g : PlG} {long nf : Nat} {X : WcM} {z : CyP} {F : jb}
theorem WcR.doomed (h:WcR R0 gn w0 g long nf X z): ∃ Ds,Sli w0 X.D boE X.d.vd Ds∧idxP Ds=idxP z.D∧Ds.length≤65536:=by
 have hi:=h.p.i
 have hsl:=h.okg.slots
 have hDl:=hi.D
 cases ha:z.sa with
 |true=>exact⟨z.D,h.d.S ha,rfl,by omega⟩
 |false=>
  have hr:z.D=List.replicate g.slots false:=by
   have:=hi.ph
   rcases(show z.ph=0∨z.ph=1∨z.ph=2∨z.ph=3 by omega) with e|e|e|e
   ·exact(hi.p0 e).2.2.2
   ·exact(hi.p1 e).2.2.2
   ·rw[(hi.p2 e).2.1] at ha;cases ha
   ·rw[(hi.p3 e).2.1] at ha;cases ha
  refine⟨[],?_,by rw[hr,idxP_rep];rfl,Nat.zero_le _⟩;rw[h.d.N ha];exact Sli.own (o:=none) (e:=4) (jP.nil) rfl rfl
set_option maxHeartbeats 4000000 in
theorem jeF (hG:jw w0) (hX:WcR R0 gn w0 g long nf X z):
  Call Tryz.prog w0 44 [.agg (wcL g long X z).toArray] (wcH X++F) (fun r H'=>r= .bool true∧H'=wcH X++F):=by
 obtain⟨q1,q2,q3,q4,q5,q6,q7,q8,q9,r1,r2,r3,r4,r5⟩:=hX.d.c
 have hi:=hX.p.i
 have okg:=hX.okg
 have hsl:=okg.slots
 have hpD:Part (wcH X) X.D:=by unfold wcH;exact ja
 have hA:Sli w0 (wcH X++ []) boE X.d.va z.A:=jdF (hX.d.A.a.part hpD)
 have hN:Sli w0 (wcH X++ []) iE X.d.z.vn z.W.N:=jdF (hX.d.W.N.part hpD)
 have hC:Sli w0 (wcH X++ []) bE X.d.q.c z.m.C:=jdF (hX.d.K.C.part hpD)
 have hT:Sli w0 (wcH X++ []) wE X.d.z.vt (z.W.T.map docE):=jdF (hX.d.W.T.part hpD)
 have hTl:(z.W.T.map docE).length=z.W.T.length:=List.length_map ..
 have lA:=hi.A
 have lN:=hi.w.N
 have lC:=hi.m.C
 have l60:=hX.n
 have cF: ∀ {f:FuncId} {args:List Value} {R:Value→Prop},(∀ F,Call Tryz.prog w0 f args (cycH X.y++F) (fun r H'=>R r∧H'=cycH X.y++F))→ ∀ F,Call Tryz.prog w0 f args (wcH X++F) (fun r H'=>R r∧H'=wcH X++F):=fun h F=>Call.ro h (by rw[wcH_app];exact ja)
 have pOf:=fun(t:Nat) c (hc:z.m.C[t]?=some c)=>cF fun A=>cyOf_K (w0:=w0) (F:=A) hX.p hc
 have pAr:=cF fun A=>jd9 (w0:=w0) (F:=A) (y:=X.y)
 have pPi:=cF fun A=>jcO (w0:=w0) (F:=A) (y:=X.y)
 have pTb:=cF fun A=>jdj (w0:=w0) (F:=A) (y:=X.y)
 have pPh:=cF fun A=>jdk (w0:=w0) (F:=A) (y:=X.y)
 have pSt:=cF fun A=>jhh (w0:=w0) (F:=A) (y:=X.y)
 have pHa:=fun(t:Nat)=>cF fun A=>cHas_K (w0:=w0) (F:=A) (t:=t) hX.p
 have pCo:=fun(t:Nat)=>cF fun A=>jfK (w0:=w0) (F:=A) (t:=t) hX.p
 have pSl:=fun(t:Nat)=>cF fun A=>jgb (w0:=w0) (F:=A) (i:=t) hX.p
 have hnm:=fun(t:Nat)=>jbz (n:=(t:Nat)) hX
 clear cF;rw[hX.p.ph] at pPh;rw[hX.p.st] at pSt;unfold wcL at hnm⊢;refine Call.enter1 (n:=140) (by kernel_rfl) Tryz.func44 rfl rfl rfl ?_;refine yr2 ?_;refine ze ?_;intro b1;refine yr10 ?_;refine K.loopT (σ:=SyA) [(1,_)] (fun s kp_=>(3, .int .i64 (s.i:Nat))::kp_) (fun s=>wcH X++((b1,cells (wcL g long X z) 57)::F)) (fun s=>s.i≤z.A.length) (fun s=>z.A.length-s.i) (⟨0⟩) jg ja (Nat.zero_le _) ?_;rintro⟨i⟩ hi1;dsimp only at hi1⊢;unfold wcL
 by_cases hlt:i<z.A.length
 ·obtain⟨av,hav⟩:=jn hlt
  obtain⟨nv,hnv⟩:=jn (l:=z.W.N) (k:=i) (by omega)
  obtain⟨cv,hcv⟩:=jn (l:=z.m.C) (k:=i) (by omega)
  have p1:=pOf i cv hcv
  have p2:=pHa i
  have p3:=pCo i
  simp only[hav,hnv,Option.getD_some] at p2 p3;refine yq22 fun T hT=>?_;refine(CallV.part (CallV.fn (p1 _)) ja).mono ?_;refine zc ?_;clear hT T;refine yr8 ?_;refine K.drawn _ ((0,0)::(1,0)::(3,1)::(5,1)::(6,1)::(7,1)::(8,1)::(9,1)::(10,1)::(11,1)::(2,2)::(4,2)::(12,0)::(13,0)::(14,0)::(15,0)::(17,1)::(19,1)::(20,1)::(21,1)::(22,1)::(23,1)::(24,1)::(25,1)::(16,2)::(18,2)::(26,0)::(27,0)::(28,0)::(29,0)::(30,0)::(31,0)::(32,0)::(33,0)::(34,0)::(35,0)::(36,0)::(37,0)::(38,0)::(39,0)::(40,0)::(41,0)::(42,0)::[]) (by kernel_rfl) (by kernel_rfl) (by kernel_rfl) (by kernel_rfl) (by kernel_rfl) (by kernel_rfl) Part.all ?_;refine zB ?_;refine zm ?_;refine zcR ?_;refine KD.v1 rfl rfl (Val.fieldAddrZ rfl rfl) ?_;refine KD.v1 rfl rfl (Val.fieldAddr (k:=5) rfl rfl) ?_;refine zx ?_;refine zm ?_;refine KD.v1 rfl rfl (Val.idxSl rfl rfl rfl Jm rfl jr) ?_;refine KD.v1 rfl rfl (Val.loadP rfl rfl jaW) ?_;refine zi fun T hT=>?_;refine(CallV.part (CallV.fn (pAr _)) ja).mono ?_;refine zl ?_;clear hT T;refine zi fun T hT=>?_;refine(CallV.part (CallV.fn (p2 _)) ja).mono ?_;refine zl ?_;clear hT T;refine KD.v0 rfl rfl (Val.neqB rfl rfl rfl) ?_;refine zg ?_;rw[jdn];refine zac ?_;refine zcE ?_;refine zd0 ?_;refine KD.y1 rfl rfl rfl rfl (Val.fieldAddr (k:=6) rfl rfl) ?_;refine KD.y1 rfl rfl rfl rfl (Val.fieldAddr (k:=9) rfl rfl) ?_;refine za3 ?_;refine zcE ?_;refine KD.y1 rfl rfl rfl rfl (Val.idxSl rfl rfl rfl Jm rfl jr) ?_;refine KD.y1 rfl rfl rfl rfl (Val.loadP rfl rfl jaW) ?_;refine zv fun T hT=>?_;refine(CallV.part (CallV.fn (pPi _)) ja).mono ?_;refine zl ?_;clear hT T;refine zv fun T hT=>?_;refine(CallV.part (CallV.fn (p3 _)) ja).mono ?_;refine zl ?_;clear hT T;refine zcf ?_;refine zag ?_;refine zA ?_;refine zcf ?_;refine zag ?_;refine zA ?_;refine zal ?_;refine KD.y0 rfl rfl rfl rfl (Val.fieldAddr (k:=16) rfl rfl) ?_;refine zb9 ?_;refine zR ?_;refine za8 ?_;refine zcf ?_;refine zI ?_;refine yr10 ?_;exact KE.again ⟨i+1⟩ jg ja hlt (by show z.A.length-(i+1)<z.A.length-i;omega)
 ·refine yr25 ?_;refine K.loopT (σ:=SyA) [(1,_)] (fun s kp_=>(6, .int .i64 (s.i:Nat))::kp_) (fun s=>wcH X++((b1,cells (wcL g long X z) 57)::F)) (fun s=>s.i≤z.W.T.length) (fun s=>z.W.T.length-s.i) (⟨0⟩) jg ja (Nat.zero_le _) ?_;rintro⟨j⟩ hj;dsimp only at hj⊢;unfold wcL
  by_cases hlt2:j<z.W.T.length
  ·have p4:=pSl j
   have p5:=hnm j
   obtain⟨sv,hsv⟩: ∃ sv,(slotT z.W.T (j:Nat)).getD 0=sv:=⟨_,rfl⟩
   obtain⟨bv,hbv⟩: ∃ bv,(slotT z.W.T (j:Nat)).isSome=bv:=⟨_,rfl⟩
   simp only[hsv,hbv] at p4 p5;refine yq22 fun T hT=>?_;refine(CallV.part (CallV.fn (pTb _)) ja).mono ?_;refine zc ?_;clear hT T;refine yq1 fun T hT=>?_;refine(CallV.part (CallV.fn (p4 _)) ja).mono ?_;refine zc ?_;clear hT T;refine yq11 fun T hT=>?_;refine(CallV.part (CallV.fn (p5 _)) ja).mono ?_;refine zc ?_;clear hT T;refine yr22 ?_;rw[jdn];refine yr9 ?_;exact KE.again ⟨j+1⟩ jg ja hlt2 (by show z.W.T.length-(j+1)<z.W.T.length-j;omega)
  ·obtain⟨Ds,hDs,hDe,hDl⟩:=hX.doomed
   have hDs2:=hDs.part hpD
   have pDo:=fun A=>cyDoomed_K (w0:=w0) (F:=X.D++A) hG hX.p
   simp only[←wcH_app] at pDo
   have pAl:=fun A=>cAll_K (w0:=w0) (F:=X.D++A) hX.p
   simp only[←wcH_app] at pAl
   have hmm:X.y.B.m.R=rwX X.d.z.R:=by rw[hX.mem,hX.d.m]
   have hRl:X.d.z.R.length≤1000:=by have h9:=hX.p.p.bo.m.t.2;rw [hmm] at h9;simpa [rwX] using h9
   have hfl:X.y.B.m.R.flatten.length≤1000000000:=by have:=hX.p.p.bo.m.n;omega
   have pRa:=fun A (hp:Part A (wcH X))=>rAll_K (F:=[]) ((hX.d.W.B.m.part hpD).part hp) hRl (by rw[←hmm];exact hfl)
   simp only[List.append_nil,←hmm] at pRa
   have hfl2:X.y.B.m.R.flatten.length≤4294967296:=by omega
   have hil:=idxP_len z.D
   have hDl2:=hi.D
   have hib:(idxP z.D).length≤4294967296:=by omega
   have hl:=fun A (hp:Part A (wcH X))=>rsList_K (w0:=w0) (F:=A) (ka:=z.sa) (kat:=z.at_) (hDs2.part hp) r5 hDl
   rw[hDe] at hl;unfold ksL at hl;refine yr20 ?_;refine K.drawn _ ((0,0)::(1,0)::(3,1)::(4,1)::(5,1)::(2,2)::(6,2)::(7,2)::(8,0)::(9,0)::(10,0)::(12,1)::(13,1)::(14,1)::(11,2)::(15,0)::(16,0)::(17,0)::(18,0)::(19,0)::(21,1)::(22,1)::(23,1)::(20,2)::(24,0)::(25,0)::(26,0)::(27,0)::(28,0)::(30,1)::(31,1)::(32,1)::(33,1)::(34,1)::(29,2)::(35,2)::(36,2)::(37,0)::(38,0)::[]) (by kernel_rfl) (by kernel_rfl) (by kernel_rfl) (by kernel_rfl) (by kernel_rfl) (by kernel_rfl) Part.all ?_;refine zB ?_;refine zcR ?_;refine KD.v1 rfl rfl (Val.fieldAddr (k:=32) rfl rfl) ?_;refine zaO ?_;refine zi fun T hT=>?_;refine(CallV.part (CallV.fn (pDo _)) ja).mono ?_;rintro _ _ ⟨o1,ko1,rfl,rfl⟩;refine zh ?_;clear hT T;refine zi fun T hT=>?_;refine(CallV.fn (hl (oH iE 3 (idxP z.D) o1++(wcH X++_)) (Part.dropA (Part.lastA jP.head)))).mono ?_;rintro _ _ ⟨o2,ko2,rfl,rfl⟩;refine zh ?_;clear hT T;refine zi fun T hT=>?_;refine(CallV.fn (SameInts_K (l:=idxP z.D) (m:=idxP z.D) (Sli.own jh ko1 rfl) (Sli.own jh ko2 rfl) hib)).mono ?_;rintro _ _ ⟨rfl,rfl⟩;rw[decide_eq_true rfl];refine zh ?_;clear hT T;refine zg ?_;refine zac ?_;refine zd0 ?_;refine KD.y1 rfl rfl rfl rfl (Val.fieldAddr (k:=35) rfl rfl) ?_;refine za3 ?_;refine zv fun T hT=>?_;refine(CallV.part (CallV.fn (pPh _)) ja).mono ?_;refine zl ?_;clear hT T;refine zbM ?_;refine zT ?_;refine zac ?_;refine zd0 ?_;refine KD.y1 rfl rfl rfl rfl (Val.fieldAddr (k:=36) rfl rfl) ?_;refine za3 ?_;refine zv fun T hT=>?_;refine(CallV.part (CallV.fn (pSt _)) ja).mono ?_;refine zl ?_;clear hT T;refine zbM ?_;refine zT ?_;refine zdm ?_;refine zah ?_;refine zd0 ?_;refine KD.y1 rfl rfl rfl rfl (Val.fieldAddr (k:=6) rfl rfl) ?_;refine KD.y1 rfl rfl rfl rfl (Val.fieldAddrZ rfl rfl) ?_;refine KD.y1 rfl rfl rfl rfl (Val.fieldAddrZ rfl rfl) ?_;refine KD.y1 rfl rfl rfl rfl (Val.loadA rfl rfl rfl J1) ?_;refine zv fun T hT=>?_;refine(CallV.part (CallV.fn (pAl _)) ja).mono ?_;rintro _ _ ⟨o3,ko3,rfl,rfl⟩;refine zh ?_;clear hT T;refine zv fun T hT=>?_;refine(CallV.fn (pRa (oH uE 116 X.y.B.m.R.flatten o3++(wcH X++_)) (Part.dropA (Part.lastA jP.head)))).mono ?_;rintro _ _ ⟨o4,ko4,rfl,rfl⟩;refine zh ?_;clear hT T;refine zv fun T hT=>?_;refine(CallV.fn (Same3_K (l:=X.y.B.m.R.flatten) (m:=X.y.B.m.R.flatten) (Sli.own jh ko3 rfl) (Sli.own jh ko4 rfl) hfl2)).mono ?_;rintro _ _ ⟨rfl,rfl⟩;rw[decide_eq_true rfl];refine zh ?_;clear hT T;refine zaA ?_;refine zy ?_;refine yr2 ?_;exact zd
end
open Go.RowKit
set_option maxRecDepth 10000
section
variable {g : PlG} {long nw : Nat} {s s' z : CyP} {S0 : Nat → Prop} {A0 : List Bool} {n : Nat}
structure jau (g:PlG) (S0:Nat→Prop) (A0:List Bool) (s s':CyP):Prop where
 A:s'.A=s.A
 w: ∀ t,NwP S0 A0 s.A t→j0 g s.W.x s'.W.x t
 o: ∀ a,(∀ (t:Nat) (y:ju),g.L[t]?=some y→ ¬(y.addr≤a∧a<y.addr+y.size))→wAt s'.W.x a=wAt s.W.x a
 T:s'.W.T=s.W.T
 N:s'.W.N=s.W.N
 l:s'.W.x.length=s.W.x.length
 d:(∀ t:Nat,s'.D[t]?≠some true)→s'.W.x=s.W.x∧ ∀ t:Nat,s.D[t]?≠some true
theorem jau.refl:jau g S0 A0 s s:=⟨rfl,fun _ _=>j0.refl,fun _ _=>rfl,rfl,rfl,rfl,fun h=>⟨rfl,h⟩⟩
theorem jau.trans {s'':CyP} (h:jau g S0 A0 s s') (h':jau g S0 A0 s' s''):jau g S0 A0 s s'':=
 ⟨h'.A.trans h.A,fun t ht=>(h.w t ht).trans (h'.w t (by rw[h.A];exact ht)),fun a ha=>(h'.o a ha).trans (h.o a ha),h'.T.trans h.T,h'.N.trans h.N,h'.l.trans h.l,fun hd=>⟨(h'.d hd).1.trans (h.d (h'.d hd).2).1,(h.d (h'.d hd).2).2⟩⟩
theorem goes_W:jau g S0 A0 s (goesC g s):=by
 obtain⟨a,b,c,d,e⟩:=jbQ (g:=g) (s:=s)
 exact⟨c,fun t _=>by rw[a];exact j0.refl,fun t _=>by rw[a],by rw[a],by rw[a],by rw[a],fun h=>⟨by rw[a],fun t=>by rw[←e];exact h t⟩⟩
theorem made_W:jau g S0 A0 s (madeC g s):=by
 have h:=goes_W (g:=g) (S0:=S0) (A0:=A0) (s:={s with st:=s.st+1})
 exact⟨h.A,h.w,h.o,h.T,h.N,h.l,h.d⟩
theorem m_W {m':MaP}:jau g S0 A0 s {s with m:=m'}:=⟨rfl,fun _ _=>j0.refl,fun _ _=>rfl,rfl,rfl,rfl,fun h=>⟨rfl,h⟩⟩
theorem sweep_W (ok:je g) (h:jp g long s) (hI:CyI g S0 A0 s) (h2:s.ph=2) (hs:sweepC g s=some s'):jau g S0 A0 s s':=by
 have hlt:=h.lt h2
 obtain⟨a,b,_⟩:=h.p2 h2
 have hd:=hI.doom h h2 hlt
 obtain⟨y,hy⟩:=Jg hlt
 have hyA:=JF hy
 have hfit:=ok.fits hy
 unfold sweepC at hs;rw[if_pos ⟨b,hlt⟩] at hs
 split at hs
 ·rename_i hg
  cases hs
  rw[hyA]
  obtain⟨d1,d2⟩:=hd.1 hg
  refine⟨rfl,fun t ht=>jdX ok h.w.x hy fun e=>?_,fun a ha=>?_,rfl,rfl,jby (by rw[h.w.x];omega),fun hD=>?_⟩
  ·subst e
   rcases ht with e|⟨_,e⟩
   ·exact d2 e
   ·rw[d1] at e;cases e
  ·show wAt (Jo s.W.x y) a=_
   rw[jaY (by rw[h.w.x];omega),if_neg (ha _ _ hy)]
  ·exact absurd (List.getElem?_set_self (by rw[h.D];exact hlt)) (hD s.at_)
 ·cases hs
  exact⟨rfl,fun _ _=>j0.refl,fun _ _=>rfl,rfl,rfl,rfl,fun h=>⟨rfl,h⟩⟩
theorem step_W (ok:je g) (h:jp g long s) (hI:CyI g S0 A0 s) {k u:Int} (hs:stepC g long nw s k u=some s'):jau g S0 A0 s s':=by
 unfold stepC at hs
 split at hs
 ·cases hm:stepM g long s.W s.m k u with
  |none=>rw [hm] at hs;cases hs
  |some m'=>rw [hm] at hs;cases hs;exact m_W.trans made_W
 ·split at hs
  ·rename_i h2
   cases hm:sweepC g s with
   |none=>rw [hm] at hs;cases hs
   |some q=>rw [hm] at hs;cases hs;exact(sweep_W ok h hI h2.1 hm).trans made_W
  ·cases hs
theorem help_W (ok:je g) (h:jp g long s) (hI:CyI g S0 A0 s) (hs:helpC g long s=some s'):jau g S0 A0 s s':=by
 unfold helpC at hs
 split at hs
 ·cases hm:Jq g long s.W s.m with
  |none=>rw [hm] at hs;cases hs
  |some m'=>rw [hm] at hs;cases hs;exact m_W.trans made_W
 ·split at hs
  ·rename_i h2
   cases hm:sweepC g s with
   |none=>rw [hm] at hs;cases hs
   |some q=>rw [hm] at hs;cases hs;exact(sweep_W ok h hI h2 hm).trans made_W
  ·cases hs
theorem helps_W (ok:je g) (h0:jp g long s) (hI:CyI g S0 A0 s) (h:jai g long s n s'):jau g S0 A0 s s':=by
 induction h with
 |refl=>exact .refl
 |snoc h1 h2 ih=>
  have ho:=h1.ok ok h0
  exact ih.trans (help_W ok ho.ok (ho.I hI) h2)
theorem fin_W (ok:je g) (h0:jp g long s) (hI:CyI g S0 A0 s):jau g S0 A0 s (finC g long s).2:=helps_W ok h0 hI jbU
def wholeC (g:PlG) (long:Nat) (gn:Int) (s:CyP):CyP:=publishC g gn (finC g long (beginC g s)).2
def freedC (g:PlG) (long:Nat) (s:CyP):Nat:=(finC g long (beginC g s)).2.D.count true
theorem whole_ok (ok:je g) (hl:1≤long) (h:jp g long s) (h0:s.ph=0) (hT:CyT g s) (gn:Int):jp g long (wholeC g long gn s)∧CyT g (wholeC g long gn s)∧(∀ t:Nat,(wholeC g long gn s).A[t]?=some true↔RchM g s.W t)∧jau g (RchM g s.W) s.A (beginC g s) (finC g long (beginC g s)).2:=by
 have hb:=jcP ok hl h h0
 have hI:=CyI.begin h h0 hT
 have hr:=jbU.ok ok hb
 have h3:=jbY ok hb (show(1:Nat)≠0 from by decide)
 obtain⟨p1,p2⟩:=(hr.I hI).publish hr.ok h3 gn
 refine⟨jc8 hr.ok h3 gn,p2,fun t=>?_,fin_W ok hb hI⟩;rw[show(wholeC g long gn s).A[t]?=some true↔_ from p1 t]
 constructor
 ·rintro(e|⟨e1,e2⟩)
  ·exact e
  ·rw[hr.A] at e1;rw[show s.A[t]?=some true from e1] at e2;cases e2
 ·exact .inl
theorem root_TN {W W':MwP} (hT:W'.T=W.T) (hN:W'.N=W.N) {r:Nat}:jF g W' r=jF g W r:=by
 unfold jF;rw [hT,hN]
theorem rch_next (ok:je g) {W W':MwP} {gn:Int} (hT:W'.T=j9 gn W.T) (hN:W'.N=W.N) (hx: ∀ t,RchM g W t→j0 g W.x W'.x t) {t:Nat} (h:RchM g W t):RchM g W' t:=by
 induction h with
 |root a b=>
  refine .root (by rw[hT];unfold j9;rw [List.length_map];exact a) ?_;rw[root_TN (W:={W with T:=j9 gn W.T}) hT hN,jg0];exact b
 |edge a b ih=>exact .edge ih (by rw[jde ok (hx _ a)];exact b)
theorem jhF (ok:je g) (hl:1≤long) (h:jp g long s) (h0:s.ph=0) (hT:CyT g s) (gn gn':Int):freedC g long (wholeC g long gn s)=0∧(wholeC g long gn' (wholeC g long gn s)).W.x=(wholeC g long gn s).W.x:=by
 obtain⟨a1,a2,a3,a4⟩:=whole_ok ok hl h h0 hT gn
 obtain⟨s1,hs1⟩: ∃ s1,wholeC g long gn s=s1:=⟨_,rfl⟩
 have hW:s1.W={(finC g long (beginC g s)).2.W with T:=j9 gn (finC g long (beginC g s)).2.W.T}:=by rw[←hs1];rfl
 have h10:s1.ph=0:=by rw[←hs1];rfl
 rw[hs1] at a1 a2 a3⊢
 have hS: ∀ t:Nat,s1.A[t]?=some true→RchM g s1.W t:=fun t ht=>
  rch_next ok (W:=s.W) (gn:=gn) (by rw[hW];show j9 gn _=_;rw [a4.T];rfl) (by rw[hW];exact a4.N) (fun t ht=>by rw[hW];exact a4.w t (.inl ht)) ((a3 t).1 ht)
 have hb:=jcP ok hl a1 h10
 have hI:=CyI.begin a1 h10 a2
 have hr:=jbU.ok ok hb
 have hI3:=hr.I hI
 have hnd: ∀ t:Nat,(finC g long (beginC g s1)).2.D[t]?≠some true:=fun t ht=>by
  obtain⟨_,_,e1,e2⟩:=(hI3.D t).1 ht
  exact e2 (hS t e1)
 refine⟨?_,((fin_W ok hb hI).d hnd).1⟩;unfold freedC
 rcases Nat.eq_zero_or_pos ((finC g long (beginC g s1)).2.D.count true) with e|e
 ·exact e
 ·obtain⟨t,ht⟩:=List.getElem?_of_mem (List.count_pos_iff.1 e)
  exact absurd ht (hnd t)
end
end Go.Proofs.YtldomapkmopomaaGreatDoor.Sw
