/-The walker and the contracts that the law needs,part 44. -/
import Derived.Test.YtldomapkmopomaaGreatDoorD1
import Derived.ArgAppend
import Derived.ChangeMaps5
import Derived.Deep.Fields
import Derived.Deep.LoopGhost
import Derived.Deep.OwnRows
import Derived.Deep.Quiet
import Derived.Deep.Slices
import Derived.IntWalk
import Derived.LaidHandle
import Derived.LaidMore
import Derived.Laws.Cells
import Derived.Laws.CopyOwn
import Derived.Laws.Externs
import Derived.Laws.FloatArith
import Derived.Laws.IdiomStrings
import Derived.Laws.NewFold
import Derived.Laws.StructEq
import Derived.Lay
import Derived.Lib.BitFns
import Derived.Lib.Hide
import Derived.Lib.SmallJoins
import Derived.Lib.TrailingZeros
import Derived.Maps.RangeRun
import Derived.OpenShut
import Derived.OrdersIn
import Derived.ProofKit
import Derived.RangeFuncBound
import Derived.RangeFuncCalls
import Derived.RangeFuncLeaves
import Derived.RangeFuncNested
import Derived.RecoverIn
import Derived.Shelf.Bits.Mul64
import Derived.Shelf.Slices.Turned
import Derived.Shelf.Spec.TrailingZeros
import Derived.Shelf.Strconv.Itoa0
import Derived.SizedLaws
import Derived.Sort.BigQuietIn
import Derived.StillTailTactics
import Derived.Test.YtldomapkmopomaaGreatDoorProg
import Derived.Test.YtldomapkmopomaaGreatDoorRows
import Derived.WalkKit
import Derived.Test.YtldomapkmopomaaGreatDoorJ61
import Derived.Test.YtldomapkmopomaaGreatDoorJ41
set_option linter.unusedVariables false set_option linter.unusedSimpArgs false namespace Go.Proofs.YtldomapkmopomaaGreatDoor.Sw
set_option maxHeartbeats 8000000
open Go.Proofs.YtldomapkmopomaaGreatDoor renaming lo → qL, hi → qH
open Go.RowKit
set_option linter.unusedVariables false
set_option linter.unusedSimpArgs false
set_option maxRecDepth 10000
section
variable {R0 : List (List Int)} {gn : Int} {w0 : World} {g : PlG} {long nf nw pb pm pB pT pa : Nat} {y y' : CyM} {z z' : CyP} {S0 : Nat → Prop} {A0 : List Bool}
theorem jfq (ok:je g) (h:jp g long z) (h1:1≤z.ph) (hI:CyI g S0 A0 z) {p:J6}:1≤((stpC g long nw z p).getD z).ph∧CyI g S0 A0 ((stpC g long nw z p).getD z)∧jau g S0 A0 z ((stpC g long nw z p).getD z):=by
 refine⟨Nat.le_trans h1 stp_ph,?_⟩;unfold stpC
 split
 ·cases hh:helpC g long z with
  |none=>exact⟨hI, .refl⟩
  |some z'=>exact⟨hI.help ok h hh,help_W ok h hI hh⟩
 ·cases hh:stepC g long nw z p.h (p.u:Nat) with
  |none=>exact⟨hI, .refl⟩
  |some z'=>exact⟨hI.step ok h hh,step_W ok h hI hh⟩
theorem jdC {R:List (List Int)} {x:List Int} {a:Nat} (hR:R=R0.set 0 x) (h0:0<R.length) (ha:a<x.length):R.flatten[a]?=some (wAt x a):=by
 subst hR
 cases R0 with
 |nil=>simp at h0
 |cons r rs=>
  show(x++rs.flatten)[a]?=_
  rw[List.getElem?_append_left ha];unfold wAt;rw[List.getElem?_eq_getElem ha];rfl
theorem CwR.word {n n':Nat} (h:CwR R0 g long nw gn n pb pm pB pT pa y z) (h':CwR R0 g long nw gn n' pb pm pB pT pa y' z') {t k:Nat} {q:ju} (hs:j0 g z.W.x z'.W.x t) (hq:g.L[t]?=some q) (hk:k<q.size):
  ∃ v,y.B.m.R.flatten[q.addr+k]?=some v∧y'.B.m.R.flatten[q.addr+k]?=some v:=by
 have hf:=h.p.okg.fits hq
 have hx:=h.p.i.w.x
 have hx':=h'.p.i.w.x
 refine⟨_,jdC h.R h.p.p.bo.m.t.1 (by omega),?_⟩;rw[jdC h'.R h'.p.p.bo.m.t.1 (by omega),hs q hq k hk]
end
end Go.Proofs.YtldomapkmopomaaGreatDoor.Sw
