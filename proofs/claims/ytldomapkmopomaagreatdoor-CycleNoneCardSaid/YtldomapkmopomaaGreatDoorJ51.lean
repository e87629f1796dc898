/-The walker and the contracts that the law needs,part 40. -/
import Derived.Test.YtldomapkmopomaaGreatDoorD1
import Derived.ArgAppend
import Derived.ChangeMaps5
import Derived.Deep.Fields
import Derived.Deep.LoopGhost
import Derived.Deep.OwnRows
import Derived.Deep.Quiet
import Derived.Deep.Slices
import Derived.IntWalk
import Derived.Laws.Cells
import Derived.Laws.CopyOwn
import Derived.Laws.Externs
import Derived.Laws.FloatArith
import Derived.Laws.IdiomStrings
import Derived.Laws.NewFold
import Derived.Laws.StructEq
import Derived.Lib.BitFns
import Derived.Lib.Hide
import Derived.Lib.SmallJoins
import Derived.Lib.TrailingZeros
import Derived.Maps.RangeRun
import Derived.OrdersIn
import Derived.ProofKit
import Derived.RangeFuncBound
import Derived.RangeFuncCalls
import Derived.RangeFuncLeaves
import Derived.RangeFuncNested
import Derived.RecoverIn
import Derived.Shelf.Bits.Mul64
import Derived.Shelf.Slices.Turned
import Derived.Shelf.Spec.TrailingZeros
import Derived.Shelf.Strconv.Itoa0
import Derived.SizedLaws
import Derived.Sort.BigQuietIn
import Derived.StillTailTactics
import Derived.Test.YtldomapkmopomaaGreatDoorProg
import Derived.WalkKit
import Derived.LaidHandle
import Derived.LaidMore
import Derived.Lay
import Derived.OpenShut
import Derived.Test.YtldomapkmopomaaGreatDoorRows
import Derived.Test.YtldomapkmopomaaGreatDoorJ38
import Derived.Test.YtldomapkmopomaaGreatDoorJ39
set_option linter.unusedVariables false set_option linter.unusedSimpArgs false namespace Go.Proofs.YtldomapkmopomaaGreatDoor.Sw
set_option maxHeartbeats 8000000
open Go.Proofs.YtldomapkmopomaaGreatDoor renaming lo → qL, hi → qH
open Go.RowKit
set_option linter.unusedVariables false
set_option linter.unusedSimpArgs false
set_option maxRecDepth 10000
def jaM:Enc Jw:=⟨JI,4,fun _=>rfl,by intro x v hv;simp[JI] at hv;rcases hv with rfl|rfl|rfl|rfl<;>rfl⟩
def stpE:Enc J6:=⟨stpL,2,fun _=>rfl,by intro x v hv;simp[stpL] at hv;rcases hv with rfl|rfl<;>rfl⟩
structure jaj where
 L:List Jw
 S:List J6
 K:List Int
structure MixOk (x:jaj):Prop where
 L: ∀ a∈x.L,a.w<256
 S: ∀ p∈x.S,p.u<256
 K: ∀ k∈x.K,0≤k∧k<256
section
variable {R0 : List (List Int)} {gn : Int} {w0 : World} {g : PlG} {long nf nw : Nat} {X : WcM} {z : CyP} {F : jb} {x : jaj} {vL vS vK : Value}
end
open Go.RowKit Go.ChangeShapes Go.WideShapes Go.ChangeAt Go.Deep Go.Joins
set_option maxRecDepth 100000
section
variable {H : Type} {enc : TypeId × Value → H} {W : World}
theorem stp_in {fuel:Nat} {cs:List Value} {x:DataW H × List MemPlace} (hx:DataW.trod enc Tryz.prog W 0 (fun _=>true) true fuel 27 cs=some x) (hlen:cs.length=2): ∃ y:J6,cs=stpE.enc y∧y.u<256:=by
 obtain⟨c0,c1,rfl⟩: ∃ c0 c1,cs=[c0,c1]:=by
  match cs,hlen with
  | [c0,c1],_=>exact⟨c0,c1,rfl⟩
 obtain⟨xs,n,_,rfl,hl,hxl,hf⟩:=DataW.trod_struct Tryz.underlying27 hx
 have k8:(Tryz.prog).cellsOf 5=1:=by kernel_rfl
 have ki:(Tryz.prog).cellsOf 3=1:=by kernel_rfl
 match xs,hxl with
 | [y0,y1],_=>
  have h0:=hf 0 _ rfl
  have h1:=hf 1 _ rfl
  obtain⟨a0,e0,-,w0⟩:=DataW.trod_int Tryz.underlying3 (by simpa [ki] using h0)
  obtain⟨a1,e1,-,w1⟩:=DataW.trod_int Tryz.underlying5 (by simpa [k8] using h1)
  simp at e0 e1
  have hu:=wf_u8 w1
  unfold u8ok at hu
  obtain⟨n1,rfl⟩: ∃ n1:Nat,a1=n1:=⟨a1.toNat,by omega⟩
  subst e0 e1;exact⟨⟨a0,n1⟩,rfl,by show n1<256;omega⟩
theorem stp_v {base:Nat} {v:Value} {d:DataW H} {p:List MemPlace} (ho:Value.okWide Tryz.prog W .any base 27 v) (h:DataW.Trod enc Tryz.prog W 0 (fun _=>true) true 27 v d p):
  ∃ x:J6,v= .agg (stpL x).toArray∧x.u<256:=by
 obtain⟨cs,rfl,hs⟩:=okWide_struct Tryz.underlying27 ho
 have k6:(Tryz.prog).cellsOf 27=2:=by kernel_rfl
 rw[k6] at hs
 obtain⟨fuel,hf⟩:=h
 obtain⟨l⟩:=cs
 obtain⟨y,hy,hok⟩:=stp_in (cs:=l) (by simpa [Value.cells] using hf) hs
 exact⟨y,by rw[hy];rfl,hok⟩
structure J8 (W:World) (x:jaj) (vL vS vK:Value):Prop where
 L:SlW W jaM vL x.L
 S:SlW W stpE vS x.S
 K:SlW W bE vK x.K
 o1:vL.oneCell'=true
 o2:vS.oneCell'=true
 o3:vK.oneCell'=true
 ok:MixOk x
theorem J8.one {x:jaj} {vL vS vK:Value} (h:J8 W x vL vS vK):J8 W ⟨x.L,[],[]⟩ vL (.slice none 0 0) (.slice none 0 0):=
 ⟨h.L,SlW.nil W stpE,SlW.nil W bE,h.o1,rfl,rfl,h.ok.L,(fun p hp=>by cases hp),(fun k hk=>by cases hk)⟩
end
open Go.RowKit
set_option maxRecDepth 10000
section
variable {g : PlG} {long nw : Nat} {x : jaj} {z : CyP}
end
theorem jcj {w0:World} {F:jb} {c:Cfg} {vc vt:Value} (hG:jw w0) (hR:j1 w0 F c vc vt) (hok:okY c=true) (hC:Sli w0 [] iE vc c.cl) (hvc:vc.oneCell'=true):
  ∃ (R0:List (List Int)) (g:PlG) (long nw caps:Nat),g=gOf c 0∧nw≤8∧1≤long∧ ∀ A,Part A F→Call Tryz.prog w0 10 [jt c vc vt] A
   (fun r H'=> ∃ X:WcM,WcR R0 c.gens w0 g long 1 X (newC g caps nw)∧X.y.nw=nw∧r= .tuple [.agg (wcL g long X (newC g caps nw)).toArray, .bool true].toArray∧H'=wcH X++A):=by
 have hok':=hok
 unfold okY at hok';simp only[Bool.and_eq_true,decide_eq_true_eq] at hok'
 have hcfg:=jar hok'.1.2.2
 have hwk:=hcfg.workers
 have hgy:=hcfg.grey
 refine⟨mR (fun t=>wordsP c (t:Nat)) c.tn.length,gOf c 0,c.grey.toNat,c.workers.toNat,(jcy c).toNat,rfl,by omega,by omega,fun A hp=>(cmade_K (Dc:=[]) (F:=A) hG (hR.part hp) hok hC hvc).mono ?_⟩;rintro _ _ ⟨X,⟨hX,hn⟩,rfl,rfl⟩;exact⟨X,hX,hn,rfl,rfl⟩
open Go.RowKit
set_option maxRecDepth 10000
section
variable {w0 : World} {D F : jb} {v : PlV} {g : PlG} {W : MwP} {z : KwV}
end
end Go.Proofs.YtldomapkmopomaaGreatDoor.Sw
