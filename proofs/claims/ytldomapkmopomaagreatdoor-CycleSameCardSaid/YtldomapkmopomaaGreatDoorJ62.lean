/-The walker and the contracts that the law needs,part 42. -/
import Derived.Test.YtldomapkmopomaaGreatDoorD1
import Derived.ArgAppend
import Derived.ChangeMaps5
import Derived.Deep.Fields
import Derived.Deep.LoopGhost
import Derived.Deep.OwnRows
import Derived.Deep.Quiet
import Derived.Deep.Slices
import Derived.IntWalk
import Derived.LaidHandle
import Derived.LaidMore
import Derived.Laws.Cells
import Derived.Laws.CopyOwn
import Derived.Laws.Externs
import Derived.Laws.FloatArith
import Derived.Laws.IdiomStrings
import Derived.Laws.NewFold
import Derived.Laws.StructEq
import Derived.Lay
import Derived.Lib.BitFns
import Derived.Lib.Hide
import Derived.Lib.SmallJoins
import Derived.Lib.TrailingZeros
import Derived.Maps.RangeRun
import Derived.OpenShut
import Derived.OrdersIn
import Derived.ProofKit
import Derived.RangeFuncBound
import Derived.RangeFuncCalls
import Derived.RangeFuncLeaves
import Derived.RangeFuncNested
import Derived.RecoverIn
import Derived.Shelf.Bits.Mul64
import Derived.Shelf.Slices.Turned
import Derived.Shelf.Spec.TrailingZeros
import Derived.Shelf.Strconv.Itoa0
import Derived.SizedLaws
import Derived.Sort.BigQuietIn
import Derived.StillTailTactics
import Derived.Test.YtldomapkmopomaaGreatDoorProg
import Derived.Test.YtldomapkmopomaaGreatDoorRows
import Derived.WalkKit
import Derived.Test.YtldomapkmopomaaGreatDoorJ61
import Derived.Test.YtldomapkmopomaaGreatDoorJ41
set_option linter.unusedVariables false set_option linter.unusedSimpArgs false namespace Go.Proofs.YtldomapkmopomaaGreatDoor.Sw
set_option maxHeartbeats 8000000
open Go.Proofs.YtldomapkmopomaaGreatDoor renaming lo → qL, hi → qH
open Go.RowKit
set_option linter.unusedVariables false
set_option linter.unusedSimpArgs false
set_option maxRecDepth 10000
section
variable {R0 : List (List Int)} {gn : Int} {w0 : World} {g : PlG} {long nf nw : Nat} {X : WcM} {z : CyP} {F : jb} {x : jaj} {vL vS vK : Value}
theorem WcR.both {y':CyM} {d':CyV} {N:jb} {n:Nat} {z':CyP} (h:WcR R0 gn w0 g long nf X z) (hp:CpR g long y' z') (ht:Ju X.y y' z'.W.x n) (hd:CyD R0 gn w0 (N++X.D) X.v g d' z') (hl:z'.W.T.length=z.W.T.length) (hn:X.y.nw=nw):WcR R0 gn w0 g long (nf+n) ⟨y',X.v,d',N++X.D⟩ z'∧y'.nw=nw:=⟨h.next hp ht hd hl,ht.nw.trans hn⟩
theorem ja8 (hG:jw w0) (hX:WcR R0 gn w0 g long nf X z) (hn:X.y.nw=nw) (h:J8 w0 x vL vS vK) (hg:greatX x=false):
  Call Tryz.prog w0 33 [.agg (wcL g long X z).toArray, .agg [vL,vS,vK].toArray] (wcH X++F) (fun r H'=> ∃ X',WcR R0 gn w0 g long nf X' (mixC g long nw x z)∧X'.y.nw=nw∧X'.y.b=X.y.b∧X'.y.B.m.b=X.y.B.m.b∧r= .tuple [.agg (wcL g long X' (mixC g long nw x z)).toArray, .bool true].toArray∧H'=wcH X'++F):=by
 obtain⟨l1,l2⟩:=jaR hg
 subst hn;refine(mixed_K hG hX (Sli.old h.L) (Sli.old h.S) (Sli.old h.K) h.o1 h.o2 h.o3 h.ok (by omega) (by omega)).mono ?_;rintro _ _ ⟨X',h1,h2,h3,h4,rfl,rfl⟩;exact⟨X',h1,h4,h2,h3,rfl,rfl⟩
end
open Go.RowKit
set_option maxRecDepth 10000
section
variable {R0 : List (List Int)} {gn : Int} {w0 : World} {g : PlG} {long nf nw caps pb pm pB pT pa : Nat} {X : WcM} {y : CyM} {z : CyP} {F : jb} {x : jaj}
theorem mix_T (ok:je g) (h:jp g long z) (h0:z.ph=0) (hT:CyT g z):CyT g (mixC g long nw x z):=
 (jex (g:=g) (long:=long) (nw:=nw) (x:=x) (z:=z) (I:=fun z=>jp g long z∧z.ph=0∧CyT g z) (fun z a hz=>⟨jeE ok hz.1,jcY.trans hz.2.1,hz.2.2.does ok hz.1⟩) (fun z p hz=>by rw[stp_none hz.2.1];exact hz) ⟨h,h0,hT⟩).2.2
end
end Go.Proofs.YtldomapkmopomaaGreatDoor.Sw
