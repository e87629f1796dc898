/-The walker and the contracts that the law needs,part 42. -/
import Derived.Test.YtldomapkmopomaaGreatDoorD1
import Derived.ArgAppend
import Derived.ChangeMaps5
import Derived.Deep.Fields
import Derived.Deep.LoopGhost
import Derived.Deep.OwnRows
import Derived.Deep.Quiet
import Derived.Deep.Slices
import Derived.IntWalk
import Derived.LaidHandle
import Derived.LaidMore
import Derived.Laws.Cells
import Derived.Laws.CopyOwn
import Derived.Laws.Externs
import Derived.Laws.FloatArith
import Derived.Laws.IdiomStrings
import Derived.Laws.NewFold
import Derived.Laws.StructEq
import Derived.Lay
import Derived.Lib.BitFns
import Derived.Lib.Hide
import Derived.Lib.SmallJoins
import Derived.Lib.TrailingZeros
import Derived.Maps.RangeRun
import Derived.OpenShut
import Derived.OrdersIn
import Derived.ProofKit
import Derived.RangeFuncBound
import Derived.RangeFuncCalls
import Derived.RangeFuncLeaves
import Derived.RangeFuncNested
import Derived.RecoverIn
import Derived.Shelf.Bits.Mul64
import Derived.Shelf.Slices.Turned
import Derived.Shelf.Spec.TrailingZeros
import Derived.Shelf.Strconv.Itoa0
import Derived.SizedLaws
import Derived.Sort.BigQuietIn
import Derived.StillTailTactics
import Derived.Test.YtldomapkmopomaaGreatDoorProg
import Derived.Test.YtldomapkmopomaaGreatDoorRows
import Derived.WalkKit
import Derived.Test.YtldomapkmopomaaGreatDoorJ40
import Derived.Test.YtldomapkmopomaaGreatDoorJ41
set_option linter.unusedVariables false set_option linter.unusedSimpArgs false namespace Go.Proofs.YtldomapkmopomaaGreatDoor.Sw
set_option maxHeartbeats 8000000
open Go.Proofs.YtldomapkmopomaaGreatDoor renaming lo → qL, hi → qH
open Go.RowKit
set_option linter.unusedVariables false
set_option linter.unusedSimpArgs false
set_option maxRecDepth 10000
section
variable {R0 : List (List Int)} {gn : Int} {w0 : World} {g : PlG} {long nf nw : Nat} {X : WcM} {z : CyP} {F : jb} {x : jaj} {vL vS vK : Value}
def WdQ (R0:List (List Int)) (gn:Int) (w0:World) (g:PlG) (long:Nat) (X:WcM) (z':CyP) (F:jb) (f:Value→Value) (r:Value) (H':jb):Prop:=
 ∃ (d':CyV) (N:jb),CyD R0 gn w0 (N++X.D) X.v g d' z'∧r=f (.agg (cyL X.v g long d' z').toArray)∧H'=cycH X.y++(N++(X.D++F))
theorem wdBegin_K (hX:WcR R0 gn w0 g long nf X z) (h0:z.ph=0):Call Tryz.prog w0 34 [.agg (cyL X.v g long X.d z).toArray] (cycH X.y++(X.D++F)) (WdQ R0 gn w0 g long X (beginC g z) F (fun a=> .tuple [a, .int .i64 0].toArray)):=by
 refine Call.at_ (jd6 (F:=cycH X.y++F) hX.d hX.okg hX.p.i h0) ja ?_;rintro _ _ ⟨d',N,hD,rfl,rfl⟩;exact⟨_,⟨d',N,hD,rfl,rfl⟩,ja⟩
theorem wdFinish_K (hX:WcR R0 gn w0 g long nf X z) (h0:z.ph≠0):Call Tryz.prog w0 45 [.agg (cyL X.v g long X.d z).toArray] (cycH X.y++(X.D++F)) (WdQ R0 gn w0 g long X (finC g long z).2 F (fun a=> .tuple [a, .int .i64 ((finC g long z).1:Nat), .int .i64 0].toArray)):=by
 refine Call.at_ (rcFinish_K (F:=cycH X.y++F) hX.d hX.okg hX.lg hX.p.i hX.p.le h0) ja ?_;rintro _ _ ⟨n,s',h1,h2,h3,d',N,hD,rfl,rfl⟩;rw[fin_is hX.okg hX.p.i h1 h2];exact⟨_,⟨d',N,hD,rfl,rfl⟩,ja⟩
theorem jhG (hX:WcR R0 gn w0 g long nf X z) (h3:z.ph=3):Call Tryz.prog w0 46 [.agg (cyL X.v g long X.d z).toArray] (cycH X.y++(X.D++F)) (WdQ R0 gn w0 g long X (publishC g gn z) F (fun a=> .tuple [a, .int .i64 (z.D.count true:Nat), .int .i64 (recyN gn z.W.T:Nat), .int .i64 0].toArray)):=by
 have hg:=hX.hgn
 have hc:=jhM (long:=long) (F:=cycH X.y++F) hX.d hX.okg hX.p.i h3 hg hX.gen
 rw[hX.d.ge] at hc;refine Call.at_ hc ja ?_;rintro _ _ ⟨d',N,hD,rfl,rfl⟩;exact⟨_,⟨d',N,hD,rfl,rfl⟩,ja⟩
theorem wyFinish_K {y:CyM} (hG:jw w0) (h:CpR g long y z) (h0:z.ph≠0):
  Call Tryz.prog w0 15 [.pointer (some ⟨y.b,0,none⟩)] (cycH y++F) (fun r H'=>r= .tuple [.int .i64 ((finC g long z).1:Nat), .int .i64 0].toArray∧CyQ g long y 0 F (finC g long z).2 H'):=by
 refine(jgI hG h h0).mono ?_;rintro _ _ ⟨n,s',rfl,h1,h2,h3,hq⟩;rw[fin_is h.okg h.i h1 h2];exact⟨rfl,hq⟩
theorem publish_T:(publishC g gn z).W.T.length=z.W.T.length:=by show(j9 gn z.W.T).length=_;unfold j9;rw [List.length_map]
theorem fin_T (ok:je g) (h:jp g long z):(finC g long z).2.W.T.length=z.W.T.length:=by rw[(jbU.ok ok h).T]
theorem WcR.both {y':CyM} {d':CyV} {N:jb} {n:Nat} {z':CyP} (h:WcR R0 gn w0 g long nf X z) (hp:CpR g long y' z') (ht:Ju X.y y' z'.W.x n) (hd:CyD R0 gn w0 (N++X.D) X.v g d' z') (hl:z'.W.T.length=z.W.T.length) (hn:X.y.nw=nw):WcR R0 gn w0 g long (nf+n) ⟨y',X.v,d',N++X.D⟩ z'∧y'.nw=nw:=⟨h.next hp ht hd hl,ht.nw.trans hn⟩
theorem ja8 (hG:jw w0) (hX:WcR R0 gn w0 g long nf X z) (hn:X.y.nw=nw) (h:J8 w0 x vL vS vK) (hg:greatX x=false):
  Call Tryz.prog w0 33 [.agg (wcL g long X z).toArray, .agg [vL,vS,vK].toArray] (wcH X++F) (fun r H'=> ∃ X',WcR R0 gn w0 g long nf X' (mixC g long nw x z)∧X'.y.nw=nw∧X'.y.b=X.y.b∧X'.y.B.m.b=X.y.B.m.b∧r= .tuple [.agg (wcL g long X' (mixC g long nw x z)).toArray, .bool true].toArray∧H'=wcH X'++F):=by
 obtain⟨l1,l2⟩:=jaR hg
 subst hn;refine(mixed_K hG hX (Sli.old h.L) (Sli.old h.S) (Sli.old h.K) h.o1 h.o2 h.o3 h.ok (by omega) (by omega)).mono ?_;rintro _ _ ⟨X',h1,h2,h3,h4,rfl,rfl⟩;exact⟨X',h1,h4,h2,h3,rfl,rfl⟩
end
open Go.RowKit
set_option maxRecDepth 10000
section
variable {R0 : List (List Int)} {gn : Int} {w0 : World} {g : PlG} {long nf nw caps pb pm pB pT pa : Nat} {X : WcM} {y : CyM} {z : CyP} {F : jb} {x : jaj}
theorem mix_T (ok:je g) (h:jp g long z) (h0:z.ph=0) (hT:CyT g z):CyT g (mixC g long nw x z):=
 (jex (g:=g) (long:=long) (nw:=nw) (x:=x) (z:=z) (I:=fun z=>jp g long z∧z.ph=0∧CyT g z) (fun z a hz=>⟨jeE ok hz.1,jcY.trans hz.2.1,hz.2.2.does ok hz.1⟩) (fun z p hz=>by rw[stp_none hz.2.1];exact hz) ⟨h,h0,hT⟩).2.2
theorem jeZ (hX:WcR R0 gn w0 g long nf X z):Call Tryz.prog w0 40 [.agg (kwL X.v g X.d.z).toArray] (cycH X.y++(X.D++F))
  (fun r H'=> ∃ (out:List Bool) (o:Own),out.length=g.slots∧(∀ s,s<g.slots→(out[s]?=some true↔RchM g z.W s))∧oOk boE out o∧r=oV o out.length∧H'=oH boE 4 out o++(cycH X.y++(X.D++F))):=by
 refine Call.at_ (rkReach_K (F:=cycH X.y++F) hX.d.W) ja ?_;rintro _ _ ⟨out,o,h1,h2,h3,rfl,rfl⟩;exact⟨_,⟨out,o,h1,h2,h3,rfl,rfl⟩,ja⟩
theorem fin_ph3 (ok:je g) (hl:1≤long) (h:jp g long z) (h0:z.ph=0):(finC g long (beginC g z)).2.ph=3:=jbY ok (jcP ok hl h h0) (show(1:Nat)≠0 from by decide)
theorem whole_K {L2:List Value} (hG:jw w0) (hl:1≤long) (h:CwR R0 g long nw gn nf pb pm pB pT pa y z) (h0:z.ph=0) (hf:nf≤1000000):
  Call Tryz.prog w0 41 [.agg (.pointer (some ⟨pm,0,none⟩):: .pointer (some ⟨pb,0,none⟩)::L2).toArray] (cycH y++F) (fun r H'=>r= .int .i64 (freedC g long z:Nat)∧CwQ R0 g long nw gn (nf+1) pb pm pB pT pa (wholeC g long gn z) F H'):=by
 have h3:=fin_ph3 h.p.okg hl h.p.i h0
 unfold freedC wholeC
 obtain⟨z2,hz2⟩: ∃ z2,beginC g z=z2:=⟨_,rfl⟩
 have p2:z2.ph=1:=by rw[←hz2];rfl
 rw[hz2] at h3⊢
 obtain⟨z3,hz3⟩: ∃ z3,(finC g long z2).2=z3:=⟨_,rfl⟩
 rw[hz3] at h3⊢
 obtain⟨z4,hz4⟩: ∃ z4,publishC g gn z3=z4:=⟨_,rfl⟩
 rw[hz4];refine Call.enter1 (n:=30) (by kernel_rfl) Tryz.func41 rfl rfl rfl ?_;refine yr2 ?_;refine ze ?_;intro b1;refine yq8 fun T hT=>?_;refine(CallV.part (CallV.fn (jdo h h0 hf hz2)) ja).mono ?_;rintro _ _ ⟨rfl,y2,hA2,rfl⟩;refine za ?_;clear hT T;refine yq11 fun T hT=>?_;refine(CallV.part (CallV.fn (jbM hG hA2 (by omega) rfl hz3)) ja).mono ?_;rintro _ _ ⟨rfl,y3,hA3,rfl⟩;refine za ?_;clear hT T;refine yq20 fun T hT=>?_;refine(CallV.part (CallV.fn (jce hG hA3 h3 rfl rfl hz4)) ja).mono ?_;rintro _ _ ⟨rfl,y4,hA4,rfl⟩;refine za ?_;clear hT T;refine yr26 ?_;exact KE.fin (H':=cycH y4++F) jd rfl jc ja ⟨rfl,y4,hA4,rfl⟩
end
end Go.Proofs.YtldomapkmopomaaGreatDoor.Sw
