/-The walker and the contracts that the law needs,part 47. -/
import Derived.Test.YtldomapkmopomaaGreatDoorD1
import Derived.ArgAppend
import Derived.ChangeMaps5
import Derived.Deep.Fields
import Derived.Deep.LoopGhost
import Derived.Deep.OwnRows
import Derived.Deep.Quiet
import Derived.Deep.Slices
import Derived.IntWalk
import Derived.LaidHandle
import Derived.LaidMore
import Derived.Laws.Cells
import Derived.Laws.CopyOwn
import Derived.Laws.Externs
import Derived.Laws.FloatArith
import Derived.Laws.IdiomStrings
import Derived.Laws.NewFold
import Derived.Laws.StructEq
import Derived.Lay
import Derived.Lib.BitFns
import Derived.Lib.Hide
import Derived.Lib.SmallJoins
import Derived.Lib.TrailingZeros
import Derived.Maps.RangeRun
import Derived.OpenShut
import Derived.OrdersIn
import Derived.ProofKit
import Derived.RangeFuncBound
import Derived.RangeFuncCalls
import Derived.RangeFuncLeaves
import Derived.RangeFuncNested
import Derived.RecoverIn
import Derived.Shelf.Bits.Mul64
import Derived.Shelf.Slices.Turned
import Derived.Shelf.Spec.TrailingZeros
import Derived.Shelf.Strconv.Itoa0
import Derived.SizedLaws
import Derived.Sort.BigQuietIn
import Derived.StillTailTactics
import Derived.Test.YtldomapkmopomaaGreatDoorProg
import Derived.Test.YtldomapkmopomaaGreatDoorRows
import Derived.WalkKit
import Derived.Test.YtldomapkmopomaaGreatDoorJ63
set_option linter.unusedVariables false set_option linter.unusedSimpArgs false namespace Go.Proofs.YtldomapkmopomaaGreatDoor.Sw
set_option maxHeartbeats 8000000
open Go.Proofs.YtldomapkmopomaaGreatDoor renaming lo → qL, hi → qH
open Go.RowKit
set_option linter.unusedVariables false
set_option linter.unusedSimpArgs false
set_option maxRecDepth 10000
section
variable {g : PlG} {long nw : Nat} {s z : CyP} {x : jaj} {S0 : Nat → Prop} {A0 : List Bool}
theorem jfW (ok:je g) (hi:jp g long s) (t:Int):(shdC g long s t).st+jY g (shdC g long s t)≤s.st+jY g s:=by
 unfold shdC
 split
 ·have h3:=je2 ok hi.m t
  have h5:=mes_m (s:=s) h3
  exact Nat.add_le_add_left h5 _
 ·exact zO
theorem shdO_sum (ok:je g) (hi:jp g long s) (t:Int):(shdO g long s t).st+jY g (shdO g long s t)≤s.st+jY g s:=by
 unfold shdO
 split
 ·exact jfW ok hi t
 ·exact zO
theorem jdW {W':MwP} (h:W'.T.length=s.W.T.length):({s with W:=W'}:CyP).st+jY g {s with W:=W'}=s.st+jY g s:=by rw[mes_W h]
theorem does_sum (ok:je g) (h:jp g long s) {a:Jw}:(doesC g long s a).st+jY g (doesC g long s a)≤s.st+jY g s:=by
 unfold doesC
 split
 ·unfold makesC
  split
  ·have h3:=jgN h.m (takeP g s.A a.n).1.toNat
   have h5:=mes_m (s:=s) h3
   refine Nat.add_le_add_left (Nat.le_trans (Nat.le_of_eq ?_) h5) _;exact mes_W (g:=g) (s:={s with m:=j2 s.m (takeP g s.A a.n).1.toNat}) (W':={s.W with T:=jZ s.W.T (takeP g s.A a.n).1,x:=(jW s.W.x (jC g (takeP g s.A a.n).1) (hdM (jC g (takeP g s.A a.n).1) a.i)).2}) jaX
  ·exact zO
 ·split
  ·unfold setsC
   split
   ·exact zO
   ·split
    ·exact zO
    ·split
     ·exact zO
     ·unfold putC;refine Nat.le_trans (Nat.le_of_eq (jdW rfl)) ?_;exact Nat.le_trans (shdO_sum ok (jfX ok h _) _) (shdO_sum ok h _)
  ·split
   ·exact zO
   ·split
    ·exact Nat.le_trans (Nat.le_of_eq (jdW jbR)) (jfW ok h _)
    ·split
     ·exact Nat.le_of_eq (jdW rfl)
     ·exact Nat.le_trans (Nat.le_of_eq (jdW rfl)) (jfW ok h _)
theorem does_T {a:Jw}:(doesC g long s a).W.T.length=s.W.T.length:=by
 unfold doesC
 split
 ·unfold makesC
  split
  ·exact jaX
  ·rfl
 ·split
  ·unfold setsC
   split
   ·rfl
   ·split
    ·rfl
    ·split
     ·rfl
     ·show(shdO g long (shdO g long s _) _).W.T.length=_
      rw[jb2,jb2]
  ·split
   ·rfl
   ·split
    ·show(Jt (shdC g long s _).W.T _).length=_
     rw[jbR,jan]
    ·split
     ·rfl
     ·show(shdC g long s _).W.T.length=_
      rw[jan]
theorem stp_sum (ok:je g) (h:jp g long z) {p:J6}:((stpC g long nw z p).getD z).st+jY g ((stpC g long nw z p).getD z)≤z.st+jY g z:=by
 unfold stpC
 split
 ·cases hh:helpC g long z with
  |none=>exact Nat.le_refl _
  |some z'=>exact help_sum ok h hh
 ·cases hh:stepC g long nw z p.h (p.u:Nat) with
  |none=>exact Nat.le_refl _
  |some z'=>exact step_sum ok h hh
structure FrI (g:PlG) (long:Nat) (S0:Nat→Prop) (A0:List Bool) (K n:Nat) (z:CyP):Prop where
 ok:jp g long z
 p:1≤z.ph
 I:CyI g S0 A0 z
 K:z.st+jY g z≤K
 n:z.W.T.length=n
theorem FrI.mix {K n:Nat} (ok:je g) (h:FrI g long S0 A0 K n z):FrI g long S0 A0 K n (mixC g long nw x z):=
 jex (I:=FrI g long S0 A0 K n) (fun z a h=>⟨jeE ok h.ok,by rw[jcY];exact h.p,h.I.does ok h.ok h.p,Nat.le_trans (does_sum ok h.ok) h.K,does_T.trans h.n⟩) (fun z p h=>by
  obtain⟨a,b,c⟩:=jfq (nw:=nw) ok h.ok h.p h.I (p:=p)
  exact⟨stp_cy ok h.ok,a,b,Nat.le_trans (stp_sum ok h.ok) h.K,by rw[c.T];exact h.n⟩) h
theorem FrI.fin {K n:Nat} (ok:je g) (h:FrI g long S0 A0 K n z):FrI g long S0 A0 K n (finC g long z).2:=by
 have hr:=jbU.ok ok h.ok
 have h1:=hr.st
 have h2:=hr.mes
 have h3:=h.K
 exact⟨hr.ok,Nat.le_trans h.p hr.ph,hr.I h.I,by omega,by rw[hr.T];exact h.n⟩
end
section
variable {R0 : List (List Int)} {gn : Int} {g : PlG} {long nf nw pb pm pB pT pa : Nat} {y : CyM} {z : CyP}
theorem CwR.zero (h:CwR R0 g long nw gn nf pb pm pB pT pa y z) {t k:Nat} {q:ju} (hz:jaE g z.W.x t) (hq:g.L[t]?=some q) (hk:k<q.size):y.B.m.R.flatten[q.addr+k]?=some 0:=by
 have hf:=h.p.okg.fits hq
 have hx:=h.p.i.w.x
 rw[jdC h.R h.p.p.bo.m.t.1 (by omega),hz q hq k hk]
end
end Go.Proofs.YtldomapkmopomaaGreatDoor.Sw
