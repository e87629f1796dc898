/-The walker and the contracts that the law needs,part 43. -/
import Derived.Test.YtldomapkmopomaaGreatDoorD1
import Derived.ArgAppend
import Derived.ChangeMaps5
import Derived.Deep.Fields
import Derived.Deep.LoopGhost
import Derived.Deep.OwnRows
import Derived.Deep.Quiet
import Derived.Deep.Slices
import Derived.IntWalk
import Derived.LaidHandle
import Derived.LaidMore
import Derived.Laws.Cells
import Derived.Laws.CopyOwn
import Derived.Laws.Externs
import Derived.Laws.FloatArith
import Derived.Laws.IdiomStrings
import Derived.Laws.NewFold
import Derived.Laws.StructEq
import Derived.Lay
import Derived.Lib.BitFns
import Derived.Lib.Hide
import Derived.Lib.SmallJoins
import Derived.Lib.TrailingZeros
import Derived.Maps.RangeRun
import Derived.OpenShut
import Derived.OrdersIn
import Derived.ProofKit
import Derived.RangeFuncBound
import Derived.RangeFuncCalls
import Derived.RangeFuncLeaves
import Derived.RangeFuncNested
import Derived.RecoverIn
import Derived.Shelf.Bits.Mul64
import Derived.Shelf.Slices.Turned
import Derived.Shelf.Spec.TrailingZeros
import Derived.Shelf.Strconv.Itoa0
import Derived.SizedLaws
import Derived.Sort.BigQuietIn
import Derived.StillTailTactics
import Derived.Test.YtldomapkmopomaaGreatDoorProg
import Derived.Test.YtldomapkmopomaaGreatDoorRows
import Derived.WalkKit
import Derived.Test.YtldomapkmopomaaGreatDoorJ41
set_option linter.unusedVariables false set_option linter.unusedSimpArgs false namespace Go.Proofs.YtldomapkmopomaaGreatDoor.Sw
set_option maxHeartbeats 8000000
open Go.Proofs.YtldomapkmopomaaGreatDoor renaming lo → qL, hi → qH
open Go.RowKit
set_option linter.unusedVariables false
set_option linter.unusedSimpArgs false
set_option maxRecDepth 10000
theorem Taken_K {w0:World} {F:jb} {a:ArM} {p:jO} (ok:JW a p):
  Call Tryz.prog w0 42 [.pointer (some ⟨a.b,0,none⟩)] (jR a p++F) (fun u H'=> ∃ r',RowOk r'∧r'.bs=a.r.bs∧u= .pointer (some ⟨r'.b,0,none⟩)∧H'=jz r'++(jR a p++F)):=by
 have okr:=ok.r
 have hc:=fun A=>jew (w0:=w0) (F:=A) okr
 refine Call.enter1 (n:=10) (by kernel_rfl) Tryz.func42 rfl rfl rfl ?_;refine yq9 fun T hT=>?_;refine(CallV.fn (arnone_K (a:=a) (p:=p))).mono ?_;rintro _ _ ⟨rfl,rfl⟩;refine za ?_;clear hT T;simp only[jB,jN,arenaH_app];refine yq11 fun T hT=>?_;refine(CallV.part (CallV.fn (hc _)) ja).mono ?_;rintro _ _ ⟨r',h1,h2,rfl,rfl⟩;refine za ?_;clear hT T;refine yr4 ?_;exact KE.fin (H':=jz r'++(jR a p++F)) jd rfl jc (by simp only[arenaH_app];exact ja) ⟨r',h1,h2,rfl,rfl⟩
section
variable {R0 : List (List Int)} {gn : Int} {w0 : World} {g : PlG} {long nf nw pb pm pB pT pa : Nat} {y : CyM} {z : CyP} {F : jb}
theorem jhn (h:CwR R0 g long nw gn nf pb pm pB pT pa y z):
  Call Tryz.prog w0 42 [.pointer (some ⟨pa,0,none⟩)] (cycH y++F) (fun u H'=> ∃ r',RowOk r'∧r'.bs=z.A∧u= .pointer (some ⟨r'.b,0,none⟩)∧H'=jz r'++(cycH y++F)):=by
 rw[←h.a];refine Call.at_ (Taken_K h.p.oka) (by simp only[cycH_app];exact ja) ?_;rintro _ _ ⟨r',h1,h2,rfl,rfl⟩;exact⟨_,⟨r',h1,h2.trans h.p.A,rfl,rfl⟩,by simp only[cycH_app];exact ja⟩
end
end Go.Proofs.YtldomapkmopomaaGreatDoor.Sw
