/-The walker and the contracts that the law needs,part 48. -/
import Derived.Test.YtldomapkmopomaaGreatDoorD1
import Derived.ArgAppend
import Derived.ChangeMaps5
import Derived.Deep.Fields
import Derived.Deep.LoopGhost
import Derived.Deep.OwnRows
import Derived.Deep.Quiet
import Derived.Deep.Slices
import Derived.IntWalk
import Derived.LaidHandle
import Derived.LaidMore
import Derived.Laws.Cells
import Derived.Laws.CopyOwn
import Derived.Laws.Externs
import Derived.Laws.FloatArith
import Derived.Laws.IdiomStrings
import Derived.Laws.NewFold
import Derived.Laws.StructEq
import Derived.Lay
import Derived.Lib.BitFns
import Derived.Lib.Hide
import Derived.Lib.SmallJoins
import Derived.Lib.TrailingZeros
import Derived.Maps.RangeRun
import Derived.OpenShut
import Derived.OrdersIn
import Derived.ProofKit
import Derived.RangeFuncBound
import Derived.RangeFuncCalls
import Derived.RangeFuncLeaves
import Derived.RangeFuncNested
import Derived.RecoverIn
import Derived.Shelf.Bits.Mul64
import Derived.Shelf.Slices.Turned
import Derived.Shelf.Spec.TrailingZeros
import Derived.Shelf.Strconv.Itoa0
import Derived.SizedLaws
import Derived.Sort.BigQuietIn
import Derived.StillTailTactics
import Derived.Test.YtldomapkmopomaaGreatDoorProg
import Derived.Test.YtldomapkmopomaaGreatDoorRows
import Derived.WalkKit
import Derived.Test.YtldomapkmopomaaGreatDoorJ64
set_option linter.unusedVariables false set_option linter.unusedSimpArgs false namespace Go.Proofs.YtldomapkmopomaaGreatDoor.Sw
set_option maxHeartbeats 8000000
open Go.Proofs.YtldomapkmopomaaGreatDoor renaming lo → qL, hi → qH
open Go.RowKit
set_option linter.unusedVariables false
set_option linter.unusedSimpArgs false
set_option maxRecDepth 10000
structure EqI (g:PlG) (long:Nat) (S0:Nat→Prop) (A0:List Bool) (z z':CyP):Prop where
 ok:jp g long z
 ok':jp g long z'
 p:1≤z.ph
 p':1≤z'.ph
 I:CyI g S0 A0 z
 I':CyI g S0 A0 z'
 e:EqW g (NwP S0 A0 z.A) z z'
section
variable {g : PlG} {long nw : Nat} {z z' z'' s1 s1' : CyP} {x x' : List Int} {S0 : Nat → Prop} {A0 : List Bool} {t n : Nat} {y : ju}
theorem j0.symm (h:j0 g x x' t):j0 g x' x t:=fun y hy j hj=>(h y hy j hj).symm
theorem EqI.symm (h:EqI g long S0 A0 z z'):EqI g long S0 A0 z' z:=⟨h.ok',h.ok,h.p',h.p,h.I',h.I,⟨h.e.A.symm,h.e.T.symm,h.e.N.symm,fun t ht=>(h.e.x t (by rw[←h.e.A];exact ht)).symm,fun a ha=>(h.e.out a ha).symm⟩⟩
theorem EqI.refl (h:jp g long z) (hp:1≤z.ph) (hI:CyI g S0 A0 z):EqI g long S0 A0 z z:=⟨h,h,hp,hp,hI,hI,⟨rfl,rfl,rfl,fun _ _=>j0.refl,fun _ _=>rfl⟩⟩
theorem EqW.step (h:EqW g (NwP S0 A0 z.A) z z') (hw:jau g S0 A0 z' z''):EqW g (NwP S0 A0 z.A) z z'':=
 ⟨hw.A.trans h.A,hw.T.trans h.T,hw.N.trans h.N,fun t ht=>(h.x t ht).trans (hw.w t (by rw[h.A];exact ht)),fun a ha=>(hw.o a ha).trans (h.out a ha)⟩
theorem EqI.stp (ok:je g) (h:EqI g long S0 A0 z z') (p:J6):EqI g long S0 A0 z ((stpC g long nw z' p).getD z'):=by
 obtain⟨a,b,c⟩:=jfq (nw:=nw) ok h.ok' h.p' h.I' (p:=p)
 exact⟨h.ok,stp_cy ok h.ok',h.p,a,h.I,b,h.e.step c⟩
theorem EqI.fin1 (ok:je g) (h:EqI g long S0 A0 z z'):EqI g long S0 A0 z (finC g long z').2:=by
 have hr:=jbU.ok ok h.ok'
 exact⟨h.ok,hr.ok,h.p,Nat.le_trans h.p' hr.ph,h.I,hr.I h.I',h.e.step (fin_W ok h.ok' h.I')⟩
theorem EqI.fin (ok:je g) (h:EqI g long S0 A0 z z'):EqI g long S0 A0 (finC g long z).2 (finC g long z').2:=((h.fin1 ok).symm.fin1 ok).symm
theorem jdG (t:Int):(shdC g long z t).A=z.A:=by unfold shdC;split<;>rfl
theorem shdO_A (t:Int):(shdO g long z t).A=z.A:=by
 unfold shdO;split
 ·exact jdG t
 ·rfl
theorem make_out (ok:je g) (hx:x.length=g.words) (hy:g.L[n]?=some y) {hd:HdP} {a:Nat} (ha: ¬(y.addr≤a∧a<y.addr+y.size)):wAt (jW x y hd).2 a=wAt x a:=by
 have f1:=ok.fits hy
 unfold jW
 split
 ·split
  ·rfl
  ·dsimp only;rw[jax (by omega),jaY (by omega),if_neg ha]
 ·rfl
theorem jgx (ok:je g) (hy:g.L[n]?=some y) {i v:Int} {a:Nat} (ha: ¬(y.addr≤a∧a<y.addr+y.size)):wAt (j7 x g.slots y i v).2 a=wAt x a:=by
 unfold j7
 split
 ·rfl
 ·split
  ·rename_i hf
   have:=jae hf
   dsimp only;rw[jax (by omega)]
  ·rfl
theorem eq_of (h:EqI g long S0 A0 z z') (a1:s1.A=z.A) (x1:s1.W.x=z.W.x) (a1':s1'.A=z'.A) (x1':s1'.W.x=z'.W.x) (hT:s1'.W.T=s1.W.T) (hN:s1'.W.N=s1.W.N):EqW g (NwP S0 A0 s1.A) s1 s1':=by
 refine⟨by rw[a1',a1];exact h.e.A,hT,hN,fun t ht=>?_,fun b hb=>?_⟩
 ·rw[a1] at ht;rw [x1,x1'];exact h.e.x t ht
 ·rw[x1,x1'];exact h.e.out b hb
theorem put_eq (ok:je g) (h:EqI g long S0 A0 z z') (a1:s1.A=z.A) (w1:s1.W=z.W) (a1':s1'.A=z'.A) (w1':s1'.W=z'.W) (hy:g.L[n]?=some y) {i to:Int}:
  EqW g (NwP S0 A0 (putC g s1 (n:Nat) i to).A) (putC g s1 (n:Nat) i to) (putC g s1' (n:Nat) i to):=by
 unfold putC;rw[JF hy,w1,w1'];refine⟨a1'.trans (h.e.A.trans a1.symm),h.e.T,h.e.N,fun t ht=>?_,fun b hb=>?_⟩
 ·have ht':NwP S0 A0 s1.A t:=ht
  rw[a1] at ht'
  by_cases e:n=t
  ·subst e;exact jhI ok h.ok.w.x h.ok'.w.x (h.e.x _ ht') hy
  ·exact(jdQ ok hy e).symm.trans ((h.e.x t ht').trans (jdQ ok hy e))
 ·exact(jgx ok hy (hb _ _ hy)).trans ((h.e.out b hb).trans (jgx ok hy (hb _ _ hy)).symm)
theorem EqI.makes (ok:je g) (h:EqI g long S0 A0 z z') {a:Jw}:EqW g (NwP S0 A0 (makesC g z a).A) (makesC g z a) (makesC g z' a):=by
 have e:=h.e
 unfold makesC;rw[e.A,e.T]
 by_cases hc:(takeP g z.A a.n).2.1=0∧(jao z.W.T).isSome=true
 ·rw[if_pos hc,if_pos hc]
  obtain⟨k,j,_,_,hf,ht,_⟩:=jdc hc.1
  obtain⟨_,_,h3,_⟩:=jci hf
  have hl:=jl h3
  rw[h.ok.A] at hl
  obtain⟨y,hy⟩:=Jg hl
  rw[ht];dsimp only;rw[JF hy,Int.toNat_natCast]
  have hz:=h.I.zr j h3
  have hz':=h.I'.zr j (by rw[e.A];exact h3)
  have hs:j0 g z.W.x z'.W.x j:=fun q hq i hi=>by rw[hz' q hq i hi,hz q hq i hi]
  refine⟨rfl,rfl,e.N,fun t ht=>?_,fun b hb=>?_⟩
  ·by_cases etj:t=j
   ·subst etj;exact(make_cong ok h.ok.w.x h.ok'.w.x hs hy).2
   ·have hP:NwP S0 A0 z.A t:=by
     rcases ht with q|⟨q1,q2⟩
     ·exact .inl q
     ·have q1':(z.A.set j true)[t]?=some true:=q1
      rw[List.getElem?_set_ne (by omega)] at q1';exact .inr ⟨q1',q2⟩
    exact(jdg ok h.ok.w.x hy _ (fun e=>etj e.symm)).symm.trans ((e.x t hP).trans (jdg ok h.ok'.w.x hy _ (fun e=>etj e.symm)))
  ·exact(make_out ok h.ok'.w.x hy (hb _ _ hy)).trans ((e.out b hb).trans (make_out ok h.ok.w.x hy (hb _ _ hy)).symm)
 ·rw[if_neg hc,if_neg hc];exact e
theorem EqI.sets (ok:je g) (h:EqI g long S0 A0 z z') {a:Jw}:EqW g (NwP S0 A0 (setsC g long z a).A) (setsC g long z a) (setsC g long z' a):=by
 have e:=h.e
 unfold setsC;rw[e.T]
 cases hs:slotT z.W.T a.n with
 |none=>exact e
 |some sl=>
  dsimp only
  obtain⟨n,rfl,hn⟩:=nat_of (jck h.ok.w hs)
  obtain⟨y,hy⟩:=Jg hn
  have hPn:NwP S0 A0 z.A n:=h.I.cl.slot hs
  have hrf:refP z'.W.x g.slots (jC g (n:Nat)) a.i=refP z.W.x g.slots (jC g (n:Nat)) a.i:=by
   rw[JF hy];exact refP_same ok (e.x n hPn) hy
  rw[hrf]
  by_cases c1:a.t≥0∧(slotT z.W.T a.t).isNone=true
  ·rw[if_pos c1,if_pos c1];exact e
  ·rw[if_neg c1,if_neg c1]
   by_cases c2:(refP z.W.x g.slots (jC g (n:Nat)) a.i).2≠0
   ·rw[if_pos c2,if_pos c2];exact e
   ·rw[if_neg c2,if_neg c2];exact put_eq ok h (by rw[shdO_A,shdO_A]) (by rw[jb2,jb2]) (by rw[shdO_A,shdO_A]) (by rw[jb2,jb2]) hy
theorem EqI.does (ok:je g) (h:EqI g long S0 A0 z z') {a:Jw}:EqI g long S0 A0 (doesC g long z a) (doesC g long z' a):=by
 refine⟨jeE ok h.ok,jeE ok h.ok',by rw[jcY];exact h.p,by rw[jcY];exact h.p',h.I.does ok h.ok h.p,h.I'.does ok h.ok' h.p',?_⟩
 have e:=h.e
 unfold doesC
 by_cases ha:a.w%6<2
 ·rw[if_pos ha,if_pos ha];exact h.makes ok
 ·rw[if_neg ha,if_neg ha]
  by_cases h2:a.w%6=2
  ·rw[if_pos h2,if_pos h2];exact h.sets ok
  ·rw[if_neg h2,if_neg h2,e.T]
   cases hs:slotT z.W.T a.n with
   |none=>exact e
   |some sl=>
    dsimp only
    by_cases h3:a.w%6=3
    ·rw[if_pos h3,if_pos h3];exact eq_of h (jdG _) (by show(shdC g long z _).W.x=_;rw [jan]) (jdG _) (by show(shdC g long z' _).W.x=_;rw [jan]) (by show Jt (shdC g long z' _).W.T _=Jt (shdC g long z _).W.T _;rw [jan,jan,e.T]) (by show(shdC g long z' _).W.N=(shdC g long z _).W.N;rw [jan,jan,e.N])
    ·rw[if_neg h3,if_neg h3]
     by_cases h4:a.w%6=4
     ·rw[if_pos h4,if_pos h4];exact eq_of h rfl rfl rfl rfl e.T (by show JJ z'.W.N _=JJ z.W.N _;rw [e.N])
     ·rw[if_neg h4,if_neg h4];exact eq_of h (jdG _) (by show(shdC g long z _).W.x=_;rw [jan]) (jdG _) (by show(shdC g long z' _).W.x=_;rw [jan]) (by show(shdC g long z' _).W.T=(shdC g long z _).W.T;rw [jan,jan,e.T]) (by show JO (shdC g long z' _).W.N _=JO (shdC g long z _).W.N _;rw [jan,jan,e.N])
theorem EqI.mix (ok:je g) {m m':jaj} (hL:m'.L=m.L) (h:EqI g long S0 A0 z z'):EqI g long S0 A0 (mixC g long nw m z) (mixC g long nw m' z'):=by
 unfold mixC;rw[hL]
 generalize m.L.length=k
 induction k with
 |zero=>exact h
 |succ k ih=>
  unfold mixTo;rw[hL]
  cases hx:m.L[k]? with
  |none=>exact ih
  |some a=>
   dsimp only;refine jee (I:=fun q=>EqI g long S0 A0 _ q) (fun q p hq=>hq.stp ok p) ?_;refine jee (I:=fun q=>EqI g long S0 A0 q _) (fun q p hq=>(hq.symm.stp ok p).symm) ?_;exact ih.does ok
theorem bits_eq {l l':List Bool} (hl:l'.length=l.length) (h: ∀ t:Nat,l'[t]?=some true↔l[t]?=some true):l'=l:=List.ext_getElem? fun t=>by
 by_cases ht:t<l.length
 ·rcases bit_some ht with e|e
  ·rw[e,(h t).2 e]
  ·rcases bit_some (l:=l') (t:=t) (by omega) with e'|e'
   ·have:=(h t).1 e';rw [e] at this;cases this
   ·rw[e,e']
 ·rw[List.getElem?_eq_none (by omega),List.getElem?_eq_none (by omega)]
theorem words_eq {x x':List Int} (hl:x'.length=x.length) (h: ∀ a,wAt x' a=wAt x a):x'=x:=List.ext_getElem? fun t=>by
 by_cases ht:t<x.length
 ·have:=h t
  unfold wAt at this;rw[List.getElem?_eq_getElem ht,List.getElem?_eq_getElem (show t<x'.length by omega)] at this⊢
  simpa using this
 ·rw[List.getElem?_eq_none (by omega),List.getElem?_eq_none (by omega)]
theorem EqI.publish (h:EqI g long S0 A0 z z') (h3:z.ph=3) (h3':z'.ph=3) (gens:Int):(publishC g gens z').A=(publishC g gens z).A∧(publishC g gens z').W=(publishC g gens z).W∧z'.D.count true=z.D.count true∧recyN gens z'.W.T=recyN gens z.W.T:=by
 have e:=h.e
 obtain⟨a,b,c⟩:=h.ok.p3 h3
 obtain⟨a',b',c'⟩:=h.ok'.p3 h3'
 have hD:z'.D=z.D:=bits_eq (h.ok'.D.trans h.ok.D.symm) fun t=>by rw[h.I.D t,h.I'.D t,h3,h3',c,c']
 have hA:(publishC g gens z').A=(publishC g gens z).A:=by show(J0 z'.A z'.D).2=(J0 z.A z.D).2;rw [e.A,hD]
 obtain⟨k1,k2⟩:=h.I.publish h.ok h3 gens
 obtain⟨k1',k2'⟩:=h.I'.publish h.ok' h3' gens
 have hpl:=(jc8 h.ok h3 gens).A
 have hx:z'.W.x=z.W.x:=words_eq (h.ok'.w.x.trans h.ok.w.x.symm) fun w=>by
  by_cases hin: ∃ (t:Nat) (y:ju),g.L[t]?=some y∧y.addr≤w∧w<y.addr+y.size
  ·obtain⟨t,y,hy,w1,w2⟩:=hin
   obtain⟨j,hj⟩: ∃ j,w=y.addr+j:=⟨w-y.addr,by omega⟩
   subst hj
   have ht:t<(publishC g gens z).A.length:=by rw[hpl];have:=jl hy;rwa[jah] at this
   rcases bit_some ht with q|q
   ·exact e.x t ((k1 t).1 q) y hy j (by omega)
   ·rw[show wAt z'.W.x (y.addr+j)=0 from k2'.zr t (by rw[hA];exact q) y hy j (by omega),show wAt z.W.x (y.addr+j)=0 from k2.zr t q y hy j (by omega)]
  ·exact e.out w fun t y hy hw=>hin ⟨t,y,hy,hw⟩
 refine⟨hA,?_,by rw[hD],by rw[e.T]⟩
 show(⟨z'.W.x,j9 gens z'.W.T,z'.W.N⟩:MwP)=⟨z.W.x,j9 gens z.W.T,z.W.N⟩
 rw[e.T,e.N,hx]
end
section
variable {W : World} {x z : jaj} {vL vS vK uL uS uK : Value} {l k : Nat}
theorem J8.part (h:J8 W x vL vS vK) (h':J8 W z uL uS uK) (hl:l≤k) (hk:k≤x.L.length):J8 W ⟨(x.L.take k).drop l,z.S,z.K⟩ (j5 vL l k jaM.sz) uS uK:=by
 have hs:SlW W jaM (j5 vL l k jaM.sz) ((x.L.take k).drop l):=h.L.sub hl hk
 exact⟨hs,h'.S,h'.K,hs.one,h'.o2,h'.o3,⟨fun a ha=>h.ok.L a (List.mem_of_mem_take (List.mem_of_mem_drop ha)),h'.ok.S,h'.ok.K⟩⟩
theorem jgF {L:List Jw} (h:greatX x=false) (h':greatX z=false) (hl:L.length≤x.L.length):greatX ⟨L,z.S,z.K⟩=false:=by
 obtain⟨a,b⟩:=jaR h
 obtain⟨c,d⟩:=jaR h'
 unfold greatX;simp only[Bool.or_eq_false_iff,decide_eq_false_iff_not]
 omega
theorem great_one {L:List Jw} (h:greatX x=false) (hl:L.length≤x.L.length):greatX ⟨L,[],[]⟩=false:=by
 obtain⟨a,b⟩:=jaR h
 unfold greatX;simp only[Bool.or_eq_false_iff,decide_eq_false_iff_not,List.length_nil]
 omega
end
end Go.Proofs.YtldomapkmopomaaGreatDoor.Sw
