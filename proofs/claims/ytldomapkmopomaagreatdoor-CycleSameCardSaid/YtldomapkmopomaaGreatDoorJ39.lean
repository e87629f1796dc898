/-The walker and the contracts that the law needs,part 39. -/
import Derived.Test.YtldomapkmopomaaGreatDoorD1
import Derived.ArgAppend
import Derived.ChangeMaps5
import Derived.Deep.Fields
import Derived.Deep.LoopGhost
import Derived.Deep.OwnRows
import Derived.Deep.Quiet
import Derived.Deep.Slices
import Derived.IntWalk
import Derived.Laws.Cells
import Derived.Laws.CopyOwn
import Derived.Laws.Externs
import Derived.Laws.FloatArith
import Derived.Laws.IdiomStrings
import Derived.Laws.NewFold
import Derived.Laws.StructEq
import Derived.Lib.BitFns
import Derived.Lib.Hide
import Derived.Lib.SmallJoins
import Derived.Lib.TrailingZeros
import Derived.Maps.RangeRun
import Derived.OrdersIn
import Derived.ProofKit
import Derived.RangeFuncBound
import Derived.RangeFuncCalls
import Derived.RangeFuncLeaves
import Derived.RangeFuncNested
import Derived.RecoverIn
import Derived.Shelf.Bits.Mul64
import Derived.Shelf.Slices.Turned
import Derived.Shelf.Spec.TrailingZeros
import Derived.Shelf.Strconv.Itoa0
import Derived.SizedLaws
import Derived.Sort.BigQuietIn
import Derived.StillTailTactics
import Derived.Test.YtldomapkmopomaaGreatDoorProg
import Derived.WalkKit
import Derived.Test.YtldomapkmopomaaGreatDoorJ37
set_option linter.unusedVariables false set_option linter.unusedSimpArgs false namespace Go.Proofs.YtldomapkmopomaaGreatDoor.Sw
set_option maxHeartbeats 8000000
open Go.Proofs.YtldomapkmopomaaGreatDoor renaming lo → qL, hi → qH
open Go.RowKit
set_option linter.unusedVariables false
set_option linter.unusedSimpArgs false
set_option maxRecDepth 10000
structure CsS where
 X:WcM
 s:CyP
section
variable {R0 : List (List Int)} {gn : Int} {w0 : World} {g : PlG} {long nf : Nat} {X : WcM} {s s' : CyP} {F : jb} {a : Jw}
theorem jdF {w0:World} {H:jb} {α:Type} {E:Enc α} {v:Value} {xs:List α} (h:Sli w0 H E v xs):Sli w0 (H++ []) E v xs:=by rw[List.append_nil];exact h
structure WcS (X X':WcM):Prop where
 b:X'.y.b=X.y.b
 mb:X'.y.B.m.b=X.y.B.m.b
 nw:X'.y.nw=X.y.nw
theorem WcS.trans {X X' X'':WcM} (h:WcS X X') (h':WcS X' X''):WcS X X'':=⟨h'.b.trans h.b,h'.mb.trans h.mb,h'.nw.trans h.nw⟩
theorem jfB (h:Jb g s.W) {n sl:Int} (hs:slotT s.W.T n=some sl): ∃ q:Nat,sl=q∧q<g.slots:=by
 have h1:=jck h hs
 exact⟨sl.toNat,by have:=h1.1;omega,by have:=h1.1;have:=h1.2;omega⟩
theorem jbz {n:Int} (hX:WcR R0 gn w0 g long nf X s): ∀ F,Call Tryz.prog w0 88 [.agg (wcL g long X s).toArray, .int .i64 n] (wcH X++F) (fun r H'=>r= .tuple [.int .i64 ((slotT s.W.T n).getD 0), .bool (slotT s.W.T n).isSome].toArray∧H'=wcH X++F):=fun F=>
 Call.ro (A:=X.D) (fun F=>named_K (F:=F) hX.d) (by rw[wcH_app];exact ja)
theorem ref_lt {x:List Int} {n:Nat} {y:ju} {i:Int} (hx:Jx x) (h:(refP x n y i).2=0): -1≤(refP x n y i).1∧(refP x n y i).1<(n:Nat):=by
 unfold refP at h⊢
 split
 ·rename_i hf
  rw[if_pos hf] at h
  split
  ·rename_i hg;rw [if_pos hg] at h;cases h
  ·have:=hx.at_ (fAt y i);dsimp only;omega
 ·rename_i hf;rw [if_neg hf] at h;exact absurd h hf
set_option maxHeartbeats 4000000 in
theorem sets_K (hG:jw w0) {z:CyP} (hX:WcR R0 gn w0 g long nf X z):
  Call Tryz.prog w0 155 [.agg (wcL g long X z).toArray, .agg (JI a).toArray] (wcH X++F) (WcQ R0 gn w0 g long nf X (setsC g long z a) F id):=by
 have okg:=hX.okg
 have hi:=hX.p.i
 have hsl:=okg.slots
 have hn1:=jbz (n:=a.n) hX
 have hn2:=jbz (n:=a.t) hX
 obtain⟨q1,q2,q3,q4,q5,q6,q7,q8,q9,r1,r2,r3,r4,r5⟩:=hX.d.c
 unfold WcQ id
 cases hs:slotT z.W.T a.n with
 |none=>
  have hm:setsC g long z a=z:=by unfold setsC;rw [hs]
  rw[hm];simp only[hs,Option.getD_none,Option.isSome_none] at hn1;unfold wcL JI at*;refine zcl ?_;refine yr2 ?_;refine zn ?_;intro b2 b3 b4;refine yq7 fun T hT=>?_;refine zae ?_;clear hT T;refine yq12 fun T hT=>?_;refine(CallV.part (CallV.fn (hn2 _)) ja).mono ?_;refine zc ?_;clear hT T;refine yr32 ?_;exact zc4
 |some sl=>
  obtain⟨n,rfl,hn⟩:=jfB hi.w hs
  simp only[hs,Option.getD_some,Option.isSome_some] at hn1
  by_cases hto:a.t≥0∧(slotT z.W.T a.t).isNone=true
  ·have hm:setsC g long z a=z:=by unfold setsC;rw [hs];dsimp only;rw [if_pos hto]
   rw[hm]
   obtain⟨ht0,ht1⟩:=hto
   rw[Option.isNone_iff_eq_none] at ht1;simp only[ht1,Option.getD_none,Option.isSome_none] at hn2;unfold wcL JI at*;refine zcl ?_;refine yr2 ?_;refine zn ?_;intro b2 b3 b4;refine yq7 fun T hT=>?_;refine zae ?_;clear hT T;refine yq12 fun T hT=>?_;refine(CallV.part (CallV.fn (hn2 _)) ja).mono ?_;refine zc ?_;clear hT T;refine yr39 ?_;exact zc4
  ·obtain⟨y0,hy0⟩:=Jg hn
   have eA:=JF hy0
   have hrf:=fun A=>jf1 (F:=A) (i:=a.i) hX.d.W.B hX.d.W.f hy0
   obtain⟨tv,tis,htv,htc,htl⟩: ∃ (tv:Int) (tis:Bool),(∀ F,Call Tryz.prog w0 88 [.agg (wcL g long X z).toArray, .int .i64 a.t] (wcH X++F) (fun r H'=>r= .tuple [.int .i64 tv, .bool tis].toArray∧H'=wcH X++F))∧(a.t<0∨a.t≥0∧tis=true∧tv=toC z.W.T a.t)∧(toC z.W.T a.t= -1∨ ∃ q:Nat,toC z.W.T a.t=q∧q<g.slots):=by
    refine⟨_,_,hn2,?_,?_⟩
    ·by_cases h0:a.t<0
     ·exact .inl h0
     ·right
      cases ht:slotT z.W.T a.t with
      |none=>exact absurd ⟨by omega,by rw[ht];rfl⟩ hto
      |some v=>exact⟨by omega,rfl,by unfold toC;rw [if_neg h0,ht];rfl⟩
    ·by_cases h0:a.t<0
     ·left;unfold toC;rw [if_pos h0]
     ·right
      cases ht:slotT z.W.T a.t with
      |none=>exact absurd ⟨by omega,by rw[ht];rfl⟩ hto
      |some v=>
       obtain⟨q,rfl,hq⟩:=jfB hi.w ht
       exact⟨q,by unfold toC;rw [if_neg h0,ht];rfl,hq⟩
   by_cases h0:(refP z.W.x g.slots y0 a.i).2=0
   ·have hm:setsC g long z a=putC g (shdO g long (shdO g long z (refP z.W.x g.slots y0 a.i).1) (toC z.W.T a.t)) (n:Nat) a.i (toC z.W.T a.t):=by
     unfold setsC;rw [hs];dsimp only;rw [if_neg hto,eA,if_neg (fun e=>e h0)]
    rw[hm]
    obtain⟨ho1,ho2⟩:=ref_lt hi.w.w h0
    obtain⟨old,hold⟩: ∃ old,(refP z.W.x g.slots y0 a.i).1=old:=⟨_,rfl⟩
    obtain⟨to,hto'⟩: ∃ to,toC z.W.T a.t=to:=⟨_,rfl⟩
    rw[hold] at ho1 ho2;simp only[hold,h0] at hrf;rw[hto'] at htc htl;rw[hold,hto']
    have hsd:=fun A (X1:WcM) (s1:CyP) (t:Nat) (ht:t<g.slots) (h1:WcR R0 gn w0 g long nf X1 s1)=>jfu (F:=A) h1 ht
    have pSt:=fun A y1 s1 (h1:CpR g long y1 s1)=>cSetRef_K (w0:=w0) (F:=A) (i:=a.i) (to:=to) hG h1 hy0
    have dSt:=fun(D' A:jb) v1 d1 s1 (hd:CyD R0 gn w0 D' v1 g d1 s1)=>rbSetRef_K (F:=A) (i:=a.i) (to:=to) hd.W.B hd.W.f hy0
    have dWd:=fun D' v1 d1 s1 vr' R' N (hd:CyD R0 gn w0 D' v1 g d1 s1) hB hY hw hr=>CyD.words (vr':=vr') (R':=R') (N:=N) (x':=(j7 s1.W.x g.slots y0 a.i to).2) hd hB hY hw hr
    have hnx:=fun(X1:WcM) (s1:CyP) (h1:WcR R0 gn w0 g long nf X1 s1) y' d' N hp ht hd=>h1.next (y':=y') (d':=d') (N:=N) (n:=0) (s':={s1 with W:={s1.W with x:=(j7 s1.W.x g.slots y0 a.i to).2}}) hp ht hd rfl
    have hpe: ∀ s1:CyP,putC g s1 (n:Nat) a.i to={s1 with W:={s1.W with x:=(j7 s1.W.x g.slots y0 a.i to).2}}:=fun s1=>by unfold putC;rw [eA]
    unfold WcQ id at hsd;unfold CyQ at pSt;unfold boL at hrf dSt
    rcases htc with ht|⟨ht,rfl,htv0⟩
    ·have htm:to= -1:=by rw[←hto'];unfold toC;rw [if_pos ht]
     subst htm;refine zcl ?_;unfold wcL JI;unfold wcL at hn1 htv;refine yr2 ?_;refine zn ?_;intro b2 b3 b4;refine yq7 fun T hT=>?_;refine zae ?_;clear hT T;refine yq12 fun T hT=>?_;refine zdY ?_;refine zc ?_;clear hT T;rw[wcH_app];refine yq53 fun T hT=>?_;refine zbV ?_;clear hT T;refine yr17 ?_;refine K.cutT (σ:=CsS) [(2,_),(3,_),(4,_),(5,_),(7,_)] jg (fun s kp_=>kp_) (fun s=>(b2,cells (wcL g long s.X s.s) 57)::(b3,cells [.int .u8 (a.w:Nat), .int .i64 a.n, .int .i64 a.i, .int .i64 a.t] 162)::(b4,cells wc0 57)::(wcH s.X++F)) (fun s=>WcR R0 gn w0 g long nf s.X s.s∧s.s=shdO g long z old∧WcS X s.X) ?_ ?_
     ·by_cases hold0:old≥0
      ·obtain⟨od,rfl⟩: ∃ od:Nat,old=od:=⟨old.toNat,by omega⟩
       have hs1:=fun A=>hsd A X z od (by omega) hX
       unfold wcL at hs1;refine yq10 fun T hT=>?_;refine(CallV.part (CallV.fn (hs1 _)) (by rw[wcH_app];exact ja)).mono ?_;rintro _ _ ⟨X1,hX1,e1,e2,e3,rfl,rfl⟩
       obtain⟨_,_,_,_,v5,v6,v7,v8,v9,x1,x2,x3,x4,x5⟩:=hX1.d.c
       refine za ?_;clear hT T;refine yr2 ?_;exact zfT
      ·refine yr8 ?_;exact zfU
     ·rintro⟨X1,z1⟩ ⟨hX1,ez1,eS1⟩;dsimp only at hX1 ez1 eS1⊢;unfold wcL
      obtain⟨_,_,_,_,t5,t6,t7,t8,t9,u1,u2,u3,u4,u5⟩:=hX1.d.c
      have eS2:=eS1
      have hX2:=hX1
      have ez2:z1=shdO g long z1 (-1):=by unfold shdO;rw [if_neg (by decide)]
      have cB:=fun A=>jdw (w0:=w0) (F:=A) (y:=X1.y)
      have pS:=fun A=>pSt A X1.y z1 hX2.p
      have dS:=fun A=>dSt X1.D A X1.v X1.d z1 hX2.d
      have hn2':=hnx X1 z1 hX2
      have dW:=fun vr' R' N=>dWd X1.D X1.v X1.d z1 vr' R' N hX2.d
      have hfe:putC g (shdO g long (shdO g long z old) (-1)) (n:Nat) a.i (-1)={z1 with W:={z1.W with x:=(j7 z1.W.x g.slots y0 a.i (-1)).2}}:=by rw[←ez1,←ez2,hpe]
      rw[hfe]
      obtain⟨es1,es2,es3⟩:=eS2
      rw[←es1,←es2,←es3];clear hsd pSt dSt hnx dWd hX1 hX ez1 ez2 eS1 hfe hpe hn1 hn2 htv es1 es2 es3 hrf
      obtain⟨y,v,d,D⟩:=X1
      dsimp only at*;refine yr10 ?_;rw[wcH_app];refine zw ?_;refine zfV ?_;refine zbv ?_;refine zm ?_;refine zaj ?_;refine zcp ?_;refine zi fun T hT=>?_;refine(CallV.part (CallV.fn (cB _)) ja).mono ?_;refine zl ?_;clear hT T;refine zi fun T hT=>?_;refine(CallV.part (CallV.fn (pS _)) ja).mono ?_;rintro _ _ ⟨rfl,y',hp,o1,rfl⟩;refine zh ?_;clear hT T;refine zp ?_;refine yq11 fun T hT=>?_;refine(CallV.part (CallV.fn (dS _)) ja).mono ?_;rintro _ _ ⟨vr',R',N,hB,hY,rfl,rfl⟩
      have hd':=dW vr' R' N hB hY hp.i.w hp.i.rf
      have hX':=hn2' y' _ N hp o1 hd'
      have z9:=hB.m.o
      refine za ?_;clear hT T;refine yr16 ?_;exact zfW
    ·subst htv0
     obtain⟨td,rfl,htd⟩: ∃ td:Nat,tv=td∧td<g.slots:=by
      rcases htl with e|e
      ·exfalso
       rw[e] at hto';unfold toC at hto';rw[if_neg (by omega)] at hto'
       cases hq:slotT z.W.T a.t with
       |none=>exact hto ⟨ht,by rw[hq];rfl⟩
       |some q=>rw [hq] at hto';have:=(jck hi.w hq).1;simp only[Option.getD_some] at hto';omega
      ·exact e
     have hto0:((td:Nat):Int)≥0:=by omega
     refine zcl ?_;unfold wcL JI;unfold wcL at hn1 htv;refine yr2 ?_;refine zn ?_;intro b2 b3 b4;refine yq7 fun T hT=>?_;refine zae ?_;clear hT T;refine yq12 fun T hT=>?_;refine zdY ?_;refine zc ?_;clear hT T;rw[wcH_app];refine yq53 fun T hT=>?_;refine zbV ?_;clear hT T;refine yr17 ?_;refine K.cutT (σ:=CsS) [(2,_),(3,_),(4,_),(5,_),(7,_)] jg (fun s kp_=>kp_) (fun s=>(b2,cells (wcL g long s.X s.s) 57)::(b3,cells [.int .u8 (a.w:Nat), .int .i64 a.n, .int .i64 a.i, .int .i64 a.t] 162)::(b4,cells wc0 57)::(wcH s.X++F)) (fun s=>WcR R0 gn w0 g long nf s.X s.s∧s.s=shdO g long z old∧WcS X s.X) ?_ ?_
     ·by_cases hold0:old≥0
      ·obtain⟨od,rfl⟩: ∃ od:Nat,old=od:=⟨old.toNat,by omega⟩
       have hs1:=fun A=>hsd A X z od (by omega) hX
       unfold wcL at hs1;refine yq10 fun T hT=>?_;refine(CallV.part (CallV.fn (hs1 _)) (by rw[wcH_app];exact ja)).mono ?_;rintro _ _ ⟨X1,hX1,e1,e2,e3,rfl,rfl⟩
       obtain⟨_,_,_,_,v5,v6,v7,v8,v9,x1,x2,x3,x4,x5⟩:=hX1.d.c
       refine za ?_;clear hT T;refine yr2 ?_;exact zfT
      ·refine yr8 ?_;exact zfU
     ·rintro⟨X1,z1⟩ ⟨hX1,ez1,eS1⟩;dsimp only at hX1 ez1 eS1⊢;unfold wcL
      obtain⟨_,_,_,_,t5,t6,t7,t8,t9,u1,u2,u3,u4,u5⟩:=hX1.d.c
      have hs1:=fun A=>hsd A X1 z1 td htd hX1
      unfold wcL at hs1;refine yq11 fun T hT=>?_;refine zdZ ?_;rintro _ _ ⟨X2,hX2,e1,e2,e3,rfl,rfl⟩
      obtain⟨_,_,_,_,v5,v6,v7,v8,v9,x1,x2,x3,x4,x5⟩:=hX2.d.c
      refine za ?_;clear hT T
      have eS2:=eS1.trans ⟨e1,e2,e3⟩
      obtain⟨z2,hz2⟩: ∃ z2,shdC g long z1 (td:Nat)=z2:=⟨_,rfl⟩
      have ez2:z2=shdO g long z1 (td:Nat):=by rw[←hz2];unfold shdO;rw [if_pos hto0]
      rw[hz2] at hX2⊢
      have cB:=fun A=>jdw (w0:=w0) (F:=A) (y:=X2.y)
      have pS:=fun A=>pSt A X2.y z2 hX2.p
      have dS:=fun A=>dSt X2.D A X2.v X2.d z2 hX2.d
      have hn2':=hnx X2 z2 hX2
      have dW:=fun vr' R' N=>dWd X2.D X2.v X2.d z2 vr' R' N hX2.d
      have hfe:putC g (shdO g long (shdO g long z old) (td:Nat)) (n:Nat) a.i (td:Nat)={z2 with W:={z2.W with x:=(j7 z2.W.x g.slots y0 a.i (td:Nat)).2}}:=by rw[←ez1,←ez2,hpe]
      rw[hfe]
      obtain⟨es1,es2,es3⟩:=eS2
      rw[←es1,←es2,←es3];clear hsd pSt dSt hnx dWd hX1 hX ez1 ez2 eS1 hfe hpe hn1 hn2 htv es1 es2 es3 hrf
      obtain⟨y,v,d,D⟩:=X2
      dsimp only at*;refine yr3 ?_;rw[wcH_app];refine zw ?_;refine zfV ?_;refine zbv ?_;refine zm ?_;refine zaj ?_;refine zcp ?_;refine zi fun T hT=>?_;refine(CallV.part (CallV.fn (cB _)) ja).mono ?_;refine zl ?_;clear hT T;refine zi fun T hT=>?_;refine(CallV.part (CallV.fn (pS _)) ja).mono ?_;rintro _ _ ⟨rfl,y',hp,o1,rfl⟩;refine zh ?_;clear hT T;refine zp ?_;refine yq11 fun T hT=>?_;refine(CallV.part (CallV.fn (dS _)) ja).mono ?_;rintro _ _ ⟨vr',R',N,hB,hY,rfl,rfl⟩
      have hd':=dW vr' R' N hB hY hp.i.w hp.i.rf
      have hX':=hn2' y' _ N hp o1 hd'
      have z9:=hB.m.o
      refine za ?_;clear hT T;refine yr16 ?_;exact zfW
   ·have hm:setsC g long z a=z:=by unfold setsC;rw [hs];dsimp only;rw [if_neg hto,eA,if_pos h0]
    rw[hm];unfold boL at hrf;unfold wcL JI at*
    rcases htc with ht|⟨ht,rfl,rfl⟩
    ·refine zcl ?_;refine yr2 ?_;refine zn ?_;intro b2 b3 b4;refine yq7 fun T hT=>?_;refine zae ?_;clear hT T;refine yq12 fun T hT=>?_;refine zdY ?_;refine zc ?_;clear hT T;rw[wcH_app];refine yq53 fun T hT=>?_;refine zbV ?_;clear hT T;refine yr23 ?_;exact zfX
    ·refine zcl ?_;refine yr2 ?_;refine zn ?_;intro b2 b3 b4;refine yq7 fun T hT=>?_;refine zae ?_;clear hT T;refine yq12 fun T hT=>?_;refine zdY ?_;refine zc ?_;clear hT T;rw[wcH_app];refine yq53 fun T hT=>?_;refine zbV ?_;clear hT T;refine yr23 ?_;exact zfX
end
open Go.RowKit
set_option maxRecDepth 10000
section
variable {R0 : List (List Int)} {gn : Int} {w0 : World} {g : PlG} {long nf : Nat} {X : WcM} {z s' : CyP} {F : jb} {a : Jw}
theorem slotT_at {T:List jj} {n:Int} {sl:Int} (h:slotT T n=some sl): ∃ (i:Nat) (e:jj),n=i∧T[i]?=some e∧e.st=1∧e.slot=sl:=by
 unfold slotT at h
 split at h
 ·rename_i h0
  cases he:T[n.toNat]? with
  |none=>rw [he] at h;cases h
  |some e=>
   rw[he] at h;dsimp only at h
   split at h
   ·rename_i h1;exact⟨n.toNat,e,by omega,he,h1,Option.some.inj h⟩
   ·cases h
 ·cases h
theorem drop_st {T:List jj} {i:Int} (h:StOk T):StOk (Jt T i):=⟨by rw[jbR];exact h.1,fun e he=>by
 obtain⟨q,hq⟩:=List.getElem?_of_mem he
 rcases drop_at hq with h2|h2
 ·exact h.2 e (List.mem_of_getElem? h2)
 ·omega⟩
set_option maxHeartbeats 4000000 in
theorem does3_K {sl:Nat} (hX:WcR R0 gn w0 g long nf X z) (hw:a.w%6=3) (ha:a.w<256) (hs:slotT z.W.T a.n=some ((sl:Nat):Int)) (hn:sl<g.slots):
  Call Tryz.prog w0 77 [.agg (wcL g long X z).toArray, .agg (JI a).toArray] (wcH X++F) (WcQ R0 gn w0 g long nf X (doesC g long z a) F id):=by
 have okg:=hX.okg
 have hn1:=jbz (n:=a.n) hX
 simp only[hs,Option.getD_some,Option.isSome_some] at hn1
 have hsd:=fun A=>jfu (F:=A) hX hn
 obtain⟨q1,q2,q3,q4,q5,q6,q7,q8,q9,r1,r2,r3,r4,r5⟩:=hX.d.c
 obtain⟨i,e,hi,he,h1,_⟩:=slotT_at hs
 have hm:doesC g long z a={shdC g long z (sl:Nat) with W:={(shdC g long z (sl:Nat)).W with T:=Jt (shdC g long z (sl:Nat)).W.T (i:Nat)}}:=by
  unfold doesC;rw [if_neg (by omega),if_neg (by omega),hs];dsimp only;rw [if_pos hw,hi]
 rw[hm]
 have hW:=jan (g:=g) (long:=long) (s:=z) (sl:Nat)
 obtain⟨z1,hz1⟩: ∃ z1,shdC g long z (sl:Nat)=z1:=⟨_,rfl⟩
 rw[hz1] at hsd hW;rw[hz1]
 have he1:z1.W.T[i]?=some e:=by rw[hW];exact he
 have hst: ∀ X1,WcR R0 gn w0 g long nf X1 z1→StOk z1.W.T:=fun X1 h=>h.d.W.st
 have pDr:=fun A (y1:CyM) (h:CpR g long y1 z1)=>cDrop_K (w0:=w0) (F:=A) h he1 h1
 have hde:docE e=e:=by unfold docE;rw [if_pos h1]
 have hed:(z1.W.T.map docE)[i]?=some e:=by rw[List.getElem?_map,he1];show some (docE e)=_;rw [hde]
 have dDr:=fun(X1:WcM) (h:WcR R0 gn w0 g long nf X1 z1) A=>rDrop_K (w0:=w0) (F:=A) (gens:=X1.d.z.gens) (i:=i) (e:=e) h.d.W.T h.d.W.oT (by rw[List.length_map];exact h.d.W.st.1) hed h1
 simp only[drop_doc he1 h1] at dDr
 have hrd: ∀ (X1:WcM),WcR R0 gn w0 g long nf X1 z1→Sli w0 X1.D wE X1.d.z.vt (z1.W.T.map docE):=fun X1 h=>h.d.W.T
 have hwm:((a.w:Nat):Int)%6=3:=by omega
 have hil:=jl hed
 obtain⟨aw,an,ai,at_⟩:=a
 dsimp only at*;subst hi
 obtain⟨est,esl,ege⟩:=e
 dsimp only at*;unfold WcQ id at*;unfold wcL JI at*;dsimp only at*;refine zbs ?_;refine yr2 ?_;refine zn ?_;intro b2 b3 b4;refine yq7 fun T hT=>?_;refine zae ?_;clear hT T;refine yq40 fun T hT=>?_;refine(CallV.part (CallV.fn (hsd _)) ja).mono ?_;rintro _ _ ⟨X1,hX1,e1,e2,e3,rfl,rfl⟩
 obtain⟨_,_,_,_,v5,v6,v7,v8,v9,x1,x2,x3,x4,x5⟩:=hX1.d.c
 have hrd1:=hrd X1 hX1
 have hrd2:Sli w0 (wcH X1++ []) wE X1.d.z.vt (z1.W.T.map docE):=jdF (hrd1.part (by unfold wcH;exact ja))
 have dD:=dDr X1 hX1
 have hlen:(Jt z1.W.T ((i:Nat):Int)).length=z1.W.T.length:=jbR
 have hX1y:=hX1.p
 have cT:=fun A=>jdj (w0:=w0) (F:=A) (y:=X1.y)
 have pD:=fun A=>pDr A X1.y hX1y
 unfold CyQ at pD
 have hnx:=fun y' d' N hp ht hd=>hX1.next (y':=y') (d':=d') (N:=N) (n:=0) (s':={z1 with W:={z1.W with T:=Jt z1.W.T ((i:Nat):Int)}}) hp ht hd hlen
 have hdt:=fun vt' N hT ho hw=>CyD.tab (vt':=vt') (N:=N) (T':=Jt z1.W.T (i:Nat)) hX1.d hT ho hw (drop_st (hst X1 hX1))
 refine za ?_;clear hT T;refine yr18 ?_;rw[←e1,←e2,←e3];rw[wcH_app];refine zw ?_
 (first|refine K.seq (K.drawn ((b3,cells [.int .u8 (aw:Nat), .int .i64 (i:Nat), .int .i64 ai, .int .i64 at_] 162)::[]) [(0,0),(1,0),(3,1),(4,1),(5,1),(2,2),(6,2)] (by kernel_rfl) (by kernel_rfl) (by kernel_rfl) (by kernel_rfl) (by kernel_rfl) (by kernel_rfl) ja ?_)|refine K.seq (K.seq (K.drawn ((b3,cells [.int .u8 (aw:Nat), .int .i64 (i:Nat), .int .i64 ai, .int .i64 at_] 162)::[]) [(0,0),(1,0),(3,1),(4,1),(5,1),(2,2),(6,2)] (by kernel_rfl) (by kernel_rfl) (by kernel_rfl) (by kernel_rfl) (by kernel_rfl) (by kernel_rfl) ja ?_))|refine K.drawn ((b3,cells [.int .u8 (aw:Nat), .int .i64 (i:Nat), .int .i64 ai, .int .i64 at_] 162)::[]) [(0,0),(1,0),(3,1),(4,1),(5,1),(2,2),(6,2)] (by kernel_rfl) (by kernel_rfl) (by kernel_rfl) (by kernel_rfl) (by kernel_rfl) (by kernel_rfl) ja ?_)
 refine zbv ?_;refine zbm ?_;refine zcp ?_;refine zi fun T hT=>?_;refine(CallV.part (CallV.fn (cT _)) ja).mono ?_;refine zl ?_;clear hT T;refine zi fun T hT=>?_;refine(CallV.part (CallV.fn (pD _)) ja).mono ?_;rintro _ _ ⟨rfl,y',hp,o1,rfl⟩;refine zh ?_;clear hT T;refine zp ?_;refine yq9 fun T hT=>?_;refine(CallV.part (CallV.fn (dD _)) ja).mono ?_;rintro _ _ ⟨vt',N,hT',ho',rfl,rfl⟩
 have hd':=hdt vt' N hT' ho' hp.i.w
 have hX':=hnx y' _ N hp o1 hd'
 refine za ?_;clear hT T;refine yr18 ?_;exact zeS
set_option maxHeartbeats 4000000 in
theorem does4_K {sl:Nat} (hX:WcR R0 gn w0 g long nf X z) (hw:a.w%6=4) (ha:a.w<256) (hs:slotT z.W.T a.n=some ((sl:Nat):Int)) (hn:sl<g.slots):
  Call Tryz.prog w0 77 [.agg (wcL g long X z).toArray, .agg (JI a).toArray] (wcH X++F) (WcQ R0 gn w0 g long nf X (doesC g long z a) F id):=by
 have okg:=hX.okg
 have hsl:=okg.slots
 have hn1:=jbz (n:=a.n) hX
 simp only[hs,Option.getD_some,Option.isSome_some] at hn1
 obtain⟨q1,q2,q3,q4,q5,q6,q7,q8,q9,r1,r2,r3,r4,r5⟩:=hX.d.c
 have hm:doesC g long z a={z with W:={z.W with N:=JJ z.W.N sl}}:=by
  unfold doesC;rw [if_neg (by omega),if_neg (by omega),hs];dsimp only;rw [if_neg (by omega),if_pos hw];rfl
 rw[hm]
 have pPi:=fun A (y1:CyM) (h:CpR g long y1 z)=>cPin_K (w0:=w0) (F:=A) h hn
 have dPi:=fun(X1:WcM) (h:WcR R0 gn w0 g long nf X1 z) A=>rPin_K (w0:=w0) (F:=A) (s:=sl) h.d.W.N h.d.W.oN (by rw[h.d.W.w.N];exact hn) (by rw[h.d.W.w.N];omega) h.d.W.w.n
 have hwm:((a.w:Nat):Int)%6=4:=by omega
 obtain⟨aw,an,ai,at_⟩:=a
 dsimp only at*;unfold WcQ id at*;unfold wcL JI at*;dsimp only at*;refine zbs ?_;refine yr2 ?_;refine zn ?_;intro b2 b3 b4;refine yq7 fun T hT=>?_;refine zae ?_;clear hT T
 obtain⟨X1,hX1,rfl⟩: ∃ X1,WcR R0 gn w0 g long nf X1 z∧X1=X:=⟨X,hX,rfl⟩
 have dP:=dPi X1 hX1
 have hX1y:=hX1.p
 have cN:=fun A=>jcO (w0:=w0) (F:=A) (y:=X1.y)
 have pP:=fun A=>pPi A X1.y hX1y
 unfold CyQ at pP
 have hnx:=fun y' d' N hp ht hd=>hX1.next (y':=y') (d':=d') (N:=N) (n:=0) (s':={z with W:={z.W with N:=JJ z.W.N sl}}) hp ht hd rfl
 have hdt:=fun vn' N hT ho hw=>CyD.pin (vn':=vn') (N:=N) (N':=JJ z.W.N sl) hX1.d hT ho hw
 rw[wcH_app];refine yq47 fun T hT=>?_;refine(CallV.part (CallV.fn (cN _)) ja).mono ?_;refine zc ?_;clear hT T;refine yq1 fun T hT=>?_;refine(CallV.part (CallV.fn (pP _)) ja).mono ?_;rintro _ _ ⟨⟨er,rfl⟩,y',hp,o1,rfl⟩;refine za ?_;clear hT T;refine yq8 fun T hT=>?_;refine(CallV.part (CallV.fn (dP _)) ja).mono ?_;rintro _ _ ⟨vn',N,er2,hN',ho',rfl,rfl⟩
 have hd':=hdt vn' N hN' ho' hp.i.w
 have hX':=hnx y' _ N hp o1 hd'
 refine za ?_;clear hT T;refine yr17 ?_;exact zeS
set_option maxHeartbeats 4000000 in
theorem does5_K {sl:Nat} (hX:WcR R0 gn w0 g long nf X z) (hw:a.w%6=5) (ha:a.w<256) (hs:slotT z.W.T a.n=some ((sl:Nat):Int)) (hn:sl<g.slots):
  Call Tryz.prog w0 77 [.agg (wcL g long X z).toArray, .agg (JI a).toArray] (wcH X++F) (WcQ R0 gn w0 g long nf X (doesC g long z a) F id):=by
 have okg:=hX.okg
 have hsl:=okg.slots
 have hn1:=jbz (n:=a.n) hX
 simp only[hs,Option.getD_some,Option.isSome_some] at hn1
 obtain⟨q1,q2,q3,q4,q5,q6,q7,q8,q9,r1,r2,r3,r4,r5⟩:=hX.d.c
 have hsd:=fun A=>jfu (F:=A) hX hn
 have hm:doesC g long z a={shdC g long z (sl:Nat) with W:={(shdC g long z (sl:Nat)).W with N:=JO (shdC g long z (sl:Nat)).W.N sl}}:=by
  unfold doesC;rw [if_neg (by omega),if_neg (by omega),hs];dsimp only;rw [if_neg (by omega),if_neg (by omega)];rfl
 rw[hm]
 have hW:=jan (g:=g) (long:=long) (s:=z) (sl:Nat)
 obtain⟨z1,hz1⟩: ∃ z1,shdC g long z (sl:Nat)=z1:=⟨_,rfl⟩
 rw[hz1] at hsd hW;rw[hz1]
 have pPi:=fun A (y1:CyM) (h:CpR g long y1 z1)=>cUnpin_K (w0:=w0) (F:=A) h hn
 have dPi:=fun(X1:WcM) (h:WcR R0 gn w0 g long nf X1 z1) A=>rUnpin_K (w0:=w0) (F:=A) (s:=sl) h.d.W.N h.d.W.oN (by rw[h.d.W.w.N];exact hn) (by rw[h.d.W.w.N];omega) h.d.W.w.n
 have hwm:((a.w:Nat):Int)%6=5:=by omega
 obtain⟨aw,an,ai,at_⟩:=a
 dsimp only at*;unfold WcQ id at*;unfold wcL JI at*;dsimp only at*;refine zbs ?_;refine yr2 ?_;refine zn ?_;intro b2 b3 b4;refine yq7 fun T hT=>?_;refine zae ?_;clear hT T;refine yq54 fun T hT=>?_;refine(CallV.part (CallV.fn (hsd _)) ja).mono ?_;rintro _ _ ⟨X1,hX1,e1,e2,e3,rfl,rfl⟩
 obtain⟨_,_,_,_,v5,v6,v7,v8,v9,x1,x2,x3,x4,x5⟩:=hX1.d.c
 have dP:=dPi X1 hX1
 have hX1y:=hX1.p
 have cN:=fun A=>jcO (w0:=w0) (F:=A) (y:=X1.y)
 have pP:=fun A=>pPi A X1.y hX1y
 unfold CyQ at pP
 have hnx:=fun y' d' N hp ht hd=>hX1.next (y':=y') (d':=d') (N:=N) (n:=0) (s':={z1 with W:={z1.W with N:=JO z1.W.N sl}}) hp ht hd rfl
 have hdt:=fun vn' N hT ho hw=>CyD.pin (vn':=vn') (N:=N) (N':=JO z1.W.N sl) hX1.d hT ho hw
 refine za ?_;clear hT T;refine yr3 ?_;rw[←e1,←e2,←e3];rw[wcH_app];refine yq4 fun T hT=>?_;refine(CallV.part (CallV.fn (cN _)) ja).mono ?_;refine zc ?_;clear hT T;refine yq1 fun T hT=>?_;refine(CallV.part (CallV.fn (pP _)) ja).mono ?_;rintro _ _ ⟨⟨er,rfl⟩,y',hp,o1,rfl⟩;refine za ?_;clear hT T;refine yq8 fun T hT=>?_;refine(CallV.part (CallV.fn (dP _)) ja).mono ?_;rintro _ _ ⟨vn',N,er2,hN',ho',rfl,rfl⟩
 have hd':=hdt vn' N hN' ho' hp.i.w
 have hX':=hnx y' _ N hp o1 hd'
 refine za ?_;clear hT T;refine yr17 ?_;exact zeS
theorem does0_K (hG:jw w0) (hX:WcR R0 gn w0 g long nf X z) (hw:a.w%6<2) (ha:a.w<256):
  Call Tryz.prog w0 77 [.agg (wcL g long X z).toArray, .agg (JI a).toArray] (wcH X++F) (WcQ R0 gn w0 g long nf X (doesC g long z a) F id):=by
 have hn1:=jbz (n:=a.n) hX
 have hc:=fun A=>makes_K (F:=A) (a:=a) hG hX
 obtain⟨q1,q2,q3,q4,q5,q6,q7,q8,q9,r1,r2,r3,r4,r5⟩:=hX.d.c
 have hm:doesC g long z a=makesC g z a:=by unfold doesC;rw [if_pos hw]
 rw[hm]
 obtain⟨z',hz'⟩: ∃ z',makesC g z a=z':=⟨_,rfl⟩
 rw[hz'] at hc;rw[hz']
 have hw2: ¬((a.w:Nat):Int)%6=2:=by omega
 have hw3: ¬((a.w:Nat):Int)%6=3:=by omega
 have hw4: ¬((a.w:Nat):Int)%6=4:=by omega
 have hw5: ¬((a.w:Nat):Int)%6=5:=by omega
 unfold WcQ id at*;unfold wcL JI at*;refine zbs ?_;refine yr2 ?_;refine zn ?_;intro b2 b3 b4;refine yq7 fun T hT=>?_;refine zae ?_;clear hT T;refine yq48 fun T hT=>?_;refine(CallV.part (CallV.fn (hc _)) ja).mono ?_;rintro _ _ ⟨X1,hX1,e1,e2,e3,rfl,rfl⟩
 obtain⟨_,_,_,_,v5,v6,v7,v8,v9,x1,x2,x3,x4,x5⟩:=hX1.d.c
 refine za ?_;clear hT T;refine yr6 ?_;exact zeT
theorem does2_K (hG:jw w0) (hX:WcR R0 gn w0 g long nf X z) (hw:a.w%6=2) (ha:a.w<256):
  Call Tryz.prog w0 77 [.agg (wcL g long X z).toArray, .agg (JI a).toArray] (wcH X++F) (WcQ R0 gn w0 g long nf X (doesC g long z a) F id):=by
 have hn1:=jbz (n:=a.n) hX
 have hc:=fun A=>sets_K (F:=A) (a:=a) hG hX
 obtain⟨q1,q2,q3,q4,q5,q6,q7,q8,q9,r1,r2,r3,r4,r5⟩:=hX.d.c
 have hm:doesC g long z a=setsC g long z a:=by unfold doesC;rw [if_neg (by omega),if_pos hw]
 rw[hm]
 obtain⟨z',hz'⟩: ∃ z',setsC g long z a=z':=⟨_,rfl⟩
 rw[hz'] at hc;rw[hz']
 have hw2:((a.w:Nat):Int)%6=2:=by omega
 unfold WcQ id at*;unfold wcL JI at*;refine zbs ?_;refine yr2 ?_;refine zn ?_;intro b2 b3 b4;refine yq7 fun T hT=>?_;refine zae ?_;clear hT T;refine yq27 fun T hT=>?_;refine(CallV.part (CallV.fn (hc _)) ja).mono ?_;rintro _ _ ⟨X1,hX1,e1,e2,e3,rfl,rfl⟩
 obtain⟨_,_,_,_,v5,v6,v7,v8,v9,x1,x2,x3,x4,x5⟩:=hX1.d.c
 refine za ?_;clear hT T;refine yr6 ?_;exact zeT
theorem doesN_K (hX:WcR R0 gn w0 g long nf X z) (hw:3≤a.w%6) (ha:a.w<256) (hs:slotT z.W.T a.n=none):
  Call Tryz.prog w0 77 [.agg (wcL g long X z).toArray, .agg (JI a).toArray] (wcH X++F) (WcQ R0 gn w0 g long nf X (doesC g long z a) F id):=by
 have hn1:=jbz (n:=a.n) hX
 obtain⟨q1,q2,q3,q4,q5,q6,q7,q8,q9,r1,r2,r3,r4,r5⟩:=hX.d.c
 simp only[hs,Option.getD_none,Option.isSome_none] at hn1
 have hm:doesC g long z a=z:=by unfold doesC;rw [if_neg (by omega),if_neg (by omega),hs]
 rw[hm];unfold WcQ id at*;unfold wcL JI at*
 rcases(show a.w%6=3∨a.w%6=4∨a.w%6=5 by omega) with h|h|h
 ·have hwm:((a.w:Nat):Int)%6=3:=by omega
  refine zbs ?_;refine yr2 ?_;refine zn ?_;intro b2 b3 b4;refine yq7 fun T hT=>?_;refine zae ?_;clear hT T;refine yr46 ?_;exact zc4
 ·have hwm:((a.w:Nat):Int)%6=4:=by omega
  refine zbs ?_;refine yr2 ?_;refine zn ?_;intro b2 b3 b4;refine yq7 fun T hT=>?_;refine zae ?_;clear hT T;refine yr53 ?_;exact zc4
 ·have hwm:((a.w:Nat):Int)%6=5:=by omega
  refine zbs ?_;refine yr2 ?_;refine zn ?_;intro b2 b3 b4;refine yq7 fun T hT=>?_;refine zae ?_;clear hT T;refine yr60 ?_;exact zc4
theorem does_K (hG:jw w0) (hX:WcR R0 gn w0 g long nf X z) (ha:a.w<256):
  Call Tryz.prog w0 77 [.agg (wcL g long X z).toArray, .agg (JI a).toArray] (wcH X++F) (WcQ R0 gn w0 g long nf X (doesC g long z a) F id):=by
 by_cases h1:a.w%6<2
 ·exact does0_K hG hX h1 ha
 ·by_cases h2:a.w%6=2
  ·exact does2_K hG hX h2 ha
  ·cases hs:slotT z.W.T a.n with
   |none=>exact doesN_K hX (by omega) ha hs
   |some sl=>
    obtain⟨n,rfl,hn⟩:=jfB hX.p.i.w hs
    rcases(show a.w%6=3∨a.w%6=4∨a.w%6=5 by omega) with h|h|h
    ·exact does3_K hX h ha hs hn
    ·exact does4_K hX h ha hs hn
    ·exact does5_K hX h ha hs hn
end
end Go.Proofs.YtldomapkmopomaaGreatDoor.Sw
