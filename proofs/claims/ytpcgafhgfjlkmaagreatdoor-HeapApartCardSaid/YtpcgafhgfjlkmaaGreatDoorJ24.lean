/-The walker and the contracts that the law needs,part 24. -/
import Derived.Test.YtpcgafhgfjlkmaaGreatDoorD1
import Derived.ArgAppend
import Derived.ChangeMaps5
import Derived.Deep.Fields
import Derived.Deep.LoopGhost
import Derived.Deep.OwnRows
import Derived.Deep.Quiet
import Derived.Deep.Slices
import Derived.IntWalk
import Derived.Laws.Cells
import Derived.Laws.CopyOwn
import Derived.Laws.Externs
import Derived.Laws.FloatArith
import Derived.Laws.IdiomStrings
import Derived.Laws.NewFold
import Derived.Laws.StructEq
import Derived.Lib.BitFns
import Derived.Lib.Hide
import Derived.Lib.SmallJoins
import Derived.Lib.TrailingZeros
import Derived.Maps.RangeRun
import Derived.OrdersIn
import Derived.ProofKit
import Derived.RangeFuncBound
import Derived.RangeFuncCalls
import Derived.RangeFuncLeaves
import Derived.RangeFuncNested
import Derived.RecoverIn
import Derived.Shelf.Bits.Mul64
import Derived.Shelf.Slices.Turned
import Derived.Shelf.Spec.TrailingZeros
import Derived.Shelf.Strconv.Itoa0
import Derived.SizedLaws
import Derived.Sort.BigQuietIn
import Derived.StillTailTactics
import Derived.Test.YtpcgafhgfjlkmaaGreatDoorProg
import Derived.WalkKit
import Derived.Test.YtpcgafhgfjlkmaaGreatDoorJ21
import Derived.Test.YtpcgafhgfjlkmaaGreatDoorJ22
set_option linter.unusedVariables false set_option linter.unusedSimpArgs false set_option linter.unusedVariables false
set_option linter.unusedSimpArgs false
namespace Go.Proofs.YtpcgafhgfjlkmaaGreatDoor.Sw
set_option maxHeartbeats 8000000
open Go.Proofs.YtpcgafhgfjlkmaaGreatDoor renaming lo → qL, hi → qH
open Go.RowKit
set_option maxRecDepth 10000
def sumN (f:Nat→Int):Nat→Int
 |0=>0
 |k+1=>sumN f k+f k
theorem jcX {f:Nat→Int} {B:Int}: ∀ {n:Nat},(∀ i,i<n→0≤f i∧f i≤B)→0≤sumN f n∧sumN f n≤(n:Int)*B
 |0,_=>by simp[sumN]
 |n+1,h=>by
  obtain⟨h1,h2⟩:=jcX (n:=n) (fun i hi=>h i (by omega))
  grind[sumN]
structure SmS where
 k:Nat
theorem sumI_K {w0:World} {H:jb} {v fv:Value} {l:List Int} {f:Nat→Int} (hS:Sli w0 H iE v l) (hl:l.length≤8) (hB: ∀ i,i<l.length→0≤f i∧f i≤1048576)
  (hf: ∀ i,i<l.length→CallV Tryz.prog w0 fv [.int .i64 (i:Nat)] H (fun r H'=>r= .int .i64 (f i)∧H'=H)):
  Call Tryz.prog w0 165 [v,fv] H (fun r H'=>r= .int .i64 (sumN f l.length)∧H'=H):=by
 refine Call.enter2 (n:=19) (by rfl) Tryz.func165 rfl rfl rfl ?_;refine z7 ?_;refine z6 ?_;refine zad ?_;refine zcH ?_;refine zlD ?_;rintro⟨k⟩ hk;dsimp only at hk⊢
 by_cases hlt:k<l.length
 ·have b1:=jcX (f:=f) (n:=k) (fun i hi=>hB i (by omega))
  have b2:=hB k hlt
  obtain⟨a,ha⟩: ∃ a,a=sumN f k:=⟨_,rfl⟩
  obtain⟨b,hb⟩: ∃ b,b=f k:=⟨_,rfl⟩
  have hs:sumN f (k+1)=a+b:=by rw[ha,hb];rfl
  rw[←ha] at b1⊢;rw[←hb] at b2
  have hfk:=hf k hlt
  rw[←hb] at hfk;refine zaN ?_;refine zbe ?_;refine za0 ?_;refine zm ?_;refine zx fun T hT=>?_;refine hfk.mono ?_;rintro _ _ ⟨rfl,rfl⟩;refine zd ?_;clear hT T;refine zea ?_;refine zbL ?_;refine zal ?_;refine zff ?_;rw[←hs];exact zi7
 ·have hke:k=l.length:=by omega
  subst hke;refine zeR ?_;refine ze ?_;exact zt
theorem sumT_K {w0:World} {H:jb} {v fv:Value} {l:List Tn} {f:Nat→Int} (hS:Sli w0 H tnE v l) (hl:l.length≤8) (hB: ∀ i,i<l.length→0≤f i∧f i≤1048576)
  (hf: ∀ i,i<l.length→CallV Tryz.prog w0 fv [.int .i64 (i:Nat)] H (fun r H'=>r= .int .i64 (f i)∧H'=H)):
  Call Tryz.prog w0 120 [v,fv] H (fun r H'=>r= .int .i64 (sumN f l.length)∧H'=H):=by
 refine Call.enter2 (n:=19) (by rfl) Tryz.func120 rfl rfl rfl ?_;refine z7 ?_;refine z6 ?_;refine zad ?_;refine zcH ?_;refine zlD ?_;rintro⟨k⟩ hk;dsimp only at hk⊢
 by_cases hlt:k<l.length
 ·have b1:=jcX (f:=f) (n:=k) (fun i hi=>hB i (by omega))
  have b2:=hB k hlt
  obtain⟨a,ha⟩: ∃ a,a=sumN f k:=⟨_,rfl⟩
  obtain⟨b,hb⟩: ∃ b,b=f k:=⟨_,rfl⟩
  have hs:sumN f (k+1)=a+b:=by rw[ha,hb];rfl
  rw[←ha] at b1⊢;rw[←hb] at b2
  have hfk:=hf k hlt
  rw[←hb] at hfk;refine zaN ?_;refine zbe ?_;refine za0 ?_;refine zm ?_;refine zx fun T hT=>?_;refine hfk.mono ?_;rintro _ _ ⟨rfl,rfl⟩;refine zd ?_;clear hT T;refine zea ?_;refine zbL ?_;refine zal ?_;refine zff ?_;rw[←hs];exact zi7
 ·have hke:k=l.length:=by omega
  subst hke;refine zeR ?_;refine ze ?_;exact zt
set_option maxRecDepth 10000
structure SpM where
 b:Nat
 d:jan
 at_:Nat
 act:Bool
 ab:Nat
 bb:Nat
 mb:Nat
def J9 (s:SpM):jb:=(s.b,cells [.pointer (some ⟨s.ab,0,none⟩), .pointer (some ⟨s.bb,0,none⟩), .pointer (some ⟨s.mb,0,none⟩), .pointer (some ⟨s.d.b,0,none⟩), .int .i64 (s.at_:Nat), .bool s.act] 223)::jH s.d
theorem sweepH_app {s:SpM} {F:jb}:J9 s++F=(s.b,cells [.pointer (some ⟨s.ab,0,none⟩), .pointer (some ⟨s.bb,0,none⟩), .pointer (some ⟨s.mb,0,none⟩), .pointer (some ⟨s.d.b,0,none⟩), .int .i64 (s.at_:Nat), .bool s.act] 223)::(jH s.d++F):=rfl
structure SpOk (s:SpM) (n:Nat):Prop where
 d:RowOk s.d
 dn:s.d.bs.length=n
 at_:s.at_≤n
section
variable {w0 : World} {F : jb} {s : SpM}
theorem jhn:Call Tryz.prog w0 220 [.pointer (some ⟨s.b,0,none⟩)] (J9 s++F) (fun r H'=>r= .bool false∧H'=J9 s++F):=by
 refine Call.enter1 (n:=12) (by rfl) Tryz.func220 rfl rfl rfl ?_;simp only[sweepH_app];refine zcp ?_;refine zd9 ?_;refine zef ?_;refine zf ?_;exact zh0
theorem jgH:Call Tryz.prog w0 173 [.pointer (some ⟨s.b,0,none⟩)] (J9 s++F) (fun r H'=>r= .bool s.act∧H'=J9 s++F):=by
 refine Call.enter1 (n:=12) (by rfl) Tryz.func173 rfl rfl rfl ?_;refine zbB ?_;refine jq (jhn (s:=s)) ?_;simp only[sweepH_app];refine zU ?_;refine zan ?_;refine zca ?_;refine zi ?_;refine zp ?_;refine zcE ?_;exact zh0
def jbW (s:SpM):Bool:=s.act&&decide (s.at_=s.d.bs.length)
theorem jho:Call Tryz.prog w0 169 [.pointer (some ⟨s.b,0,none⟩)] (J9 s++F) (fun r H'=>r= .bool (jbW s)∧H'=J9 s++F):=by
 have hd:jbW s=(s.act&&decide (((s.at_:Nat):Int)=(s.d.bs.length:Nat))):=by
  grind[jbW]
 rw[hd]
 cases ha:s.act with
 |true=>
  refine Call.enter1 (n:=17) (by rfl) Tryz.func169 rfl rfl rfl ?_;refine zeW ?_;refine zlE ?_;refine zc1 fun T hT=>?_;refine(CallV.fn (jgH (s:=s))).mono ?_;rintro _ _ ⟨rfl,rfl⟩;rw[ha];refine zg ?_;clear hT T;simp only[sweepH_app];refine zj ?_;refine KD.y1 rfl rfl rfl rfl (Val.move rfl) ?_;refine KD.y1 rfl rfl rfl rfl (Val.nilCheck rfl) ?_;refine KD.y1 rfl rfl rfl rfl (Val.fieldAddr0 (k:=4) rfl rfl) ?_;refine zhc ?_;refine zd2 ?_;refine KD.y0 rfl rfl rfl rfl (Val.fieldAddr0 (k:=3) rfl rfl) ?_;refine zao ?_;refine zcb fun T hT=>?_;refine(CallV.part (CallV.fn (jgl (r:=s.d))) ja).mono ?_;rintro _ _ ⟨rfl,rfl⟩;refine zg ?_;clear hT T;refine KD.y0 rfl rfl rfl rfl (Val.eql rfl rfl) ?_;refine zem ?_;refine zaV ?_;exact zh0
 |false=>
  refine Call.enter1 (n:=17) (by rfl) Tryz.func169 rfl rfl rfl ?_;refine zeW ?_;refine zlE ?_;refine zc1 fun T hT=>?_;refine(CallV.fn (jgH (s:=s))).mono ?_;rintro _ _ ⟨rfl,rfl⟩;rw[ha];refine zg ?_;clear hT T;refine zcT ?_;refine zfg ?_;refine zgp ?_;refine zbV ?_;refine zaV ?_;exact zh0
theorem jmM (ha:s.act=false):Call Tryz.prog w0 168 [.pointer (some ⟨s.b,0,none⟩)] (J9 s++F) (fun r H'=>r= .int .i64 0∧H'=J9 {s with act:=true}++F):=by
 refine Call.enter1 (n:=14) (by rfl) Tryz.func168 rfl rfl rfl ?_;refine zae ?_;refine zaP ?_;refine jq (jhn (s:=s)) ?_;simp only[sweepH_app,ha];refine zau ?_;refine zcF ?_;refine zp ?_;refine zay ?_;refine zcF ?_;refine zeN ?_;exact zh0
end
open Go.RowKit
set_option maxRecDepth 10000
section
variable {g : PlG} {long : Nat} {W W' : MwP} {m m' : MaP} {a : jcI} {x x' : List Int}
theorem jeD {t:Nat} {i s:Int} (h:refO g x (t:Nat) i=some s):t<g.slots∧fldP x (ju g (t:Nat)) true i=0:=by
 unfold refO at h
 split at h
 ·rename_i hc
  have hf:fldP x (ju g (t:Nat)) true i=0:=by
   grind[refP]
  refine⟨?_,hf⟩
  rcases Nat.lt_or_ge t g.slots with h1|h1
  ·omega
  ·have e:ju g (t:Nat)=⟨0,0,0,0⟩:=by
    grind[ju,jbX]
   have:=JQ hf
   grind
 grind
theorem jgJ {t:Nat} {i:Int} (h1:wAt x' (ju g (t:Nat)).addr=wAt x (ju g (t:Nat)).addr) (h2:wAt x' (fAt (ju g (t:Nat)) i)=wAt x (fAt (ju g (t:Nat)) i)):refO g x' (t:Nat) i=refO g x (t:Nat) i:=by
 grind[refP,ju,refO,jcQ,h1,h2]
theorem set_refO (ok:jc g) {s0:Nat} {y:jg} (hy:g.L[s0]?=some y) {i0 v:Int} {t:Nat} {i s:Int} (h:refO g x (t:Nat) i=some s):
  (t=s0∧i=i0)∨refO g (Jl x g.slots y i0 v).2 (t:Nat) i=some s:=by
 obtain⟨ht,hf⟩:=jeD h
 obtain⟨z,hz⟩:=jY ht
 have hin:=JQ hf
 have e:=jC hz
 have f1:=ok.fits hy
 have f2:=ok.fits hz
 by_cases hti:t=s0∧i=i0
 ·omega
 ·right
  rw[←h];unfold Jl
  split
  ·rfl
  ·split
   ·rename_i hv hf0
    have hin0:=JQ hf0
    rw[e] at hin
    have ha:fAt y i0≠z.addr∧fAt y i0≠fAt z i:=by
     by_cases et:s0=t
     ·grind[fAt]
     ·have:=ok.apart hy hz et
      omega
    grind[jgJ,jaj]
   ·rfl
theorem jcK (ok:jc g) (hm:jG g long W m) (hi:jav m) (ha:m.act=true) (s:Int):
  jav (j7 g long m s)∧JJ g W' W' m (j7 g long m s)∧(∀ n:Nat,s=n→n<g.slots→NW (j7 g long m s) n):=by
 grind[jj6,h1,h2,h3,shade_keep]
theorem root_T {W W':MwP} (hl:W'.T.length=W.T.length) (hN:W'.N=W.N) {r s:Nat} (h:jP g W r=some (s:Nat)) (hT:r<W.T.length→W'.T[r]?=W.T[r]?):jP g W' r=some (s:Nat):=by
 grind[jP]
theorem jkT (ok:jc g) (hm:jG g long W m) (hW:JX g W) (hi:jav m) (ha:m.act=true) (h2: ¬a.w%10<2):jav (jaL g long W m a)∧JJ g W (JI g W a) m (jaL g long W m a):=by
 have hsame: ∀ {m':MaP},Mic g W m m'→jav m'∧JJ g W W m m':=fun h=>⟨h.i,h.k⟩
 unfold jaL JI;simp only[if_neg h2]
 by_cases h4:a.w%10<4
 ·simp only[if_pos h4]
  by_cases hc:inS g a.s∧(oldS g W a).2=0
  ·simp only[if_pos hc]
   obtain⟨s0,y,hs0,hy,hsl⟩:=jee hc.1
   obtain⟨i1,k1,n1⟩:=jcK (W':=W) ok hm hi ha (oldS g W a).1
   have hm1:=jfX ok hm (oldS g W a).1
   have ha1:(j7 g long m (oldS g W a).1).act=true:=(jeT _).2.2.1.trans ha
   obtain⟨i2,k2,n2⟩:=jcK (W':=W) ok hm1 i1 ha1 a.t
   refine⟨i2,(k1.trans k2).trans (jcp rfl (fun r s h=> .inr h) fun t s i h=>?_)⟩;dsimp only;rw[hsl]
   rcases set_refO (i0:=a.i) (v:=a.t) ok hy h with⟨rfl,rfl⟩|h'
   ·left
    have hin:=jdx h hW.w
    refine k2.nw s (n1 s ?_ (by omega))
    grind[refO,oldS]
   grind
  grind[JJ.refl]
 ·simp only[if_neg h4]
  by_cases e4:a.w%10=4
  ·have e5: ¬a.w%10=5:=by omega
   have e8:a.w%10<8:=by omega
   simp only[if_pos e4,if_neg e5,if_pos e8]
   by_cases hc:inS g a.s
   ·simp only[if_pos hc]
    obtain⟨i1,k1,n1⟩:=jcK (W':={W with T:=jK W.T a.s}) ok hm hi ha a.s
    refine⟨i1,(jcp (W':={W with T:=jK W.T a.s}) jbB (fun r s h=> .inr ?_) fun t s i h=> .inr h).trans k1⟩
    grind[jK,g1,g2,jP,root_T,jbB,ja7]
   grind[j7,hi,JJ.refl]
  ·simp only[if_neg e4]
   by_cases e5:a.w%10=5
   ·simp only[if_pos e5]
    have hno:slotT W.T a.i=none→Jm W.T a.i=W.T→jav (match slotT W.T a.i with|some s=>j7 g long m s|none=>m)∧JJ g W {W with T:=Jm W.T a.i} m (match slotT W.T a.i with|some s=>j7 g long m s|none=>m):=fun h1 h2=>by
     rw[h1,h2];exact⟨hi,JJ.refl⟩
    by_cases h0:0≤a.i
    ·cases hT:W.T[a.i.toNat]? with
     |none=>grind[slotT,Jm]
     |some e=>
      by_cases h1:e.st=1
      ·have e1:slotT W.T a.i=some e.slot:=by grind[slotT]
       have e2:Jm W.T a.i=W.T.set a.i.toNat {e with st:=2}:=by grind[Jm]
       rw[e1,e2];dsimp only
       obtain⟨i1,k1,n1⟩:=jcK (W':=W) ok hm hi ha e.slot
       refine⟨i1,k1.trans (jcp (W':={W with T:=W.T.set a.i.toNat {e with st:=2}}) (by simp) (fun r s h=>?_) fun t s i h=> .inr h)⟩
       by_cases hr:r=a.i.toNat
       ·unfold jP at h
        have hin:=hW.t e (List.mem_of_getElem? hT) h1
        grind
       grind[root_T]
      grind[slotT,Jm]
    grind[slotT,Jm]
   ·simp only[if_neg e5]
    have hpl: ∀ {N':List Int},N'.length=W.N.length→(∀ k:Nat,0<(W.N[k]?).getD 0→NW (j7 g long m a.s) k∨0<(N'[k]?).getD 0)→ ∀ r s:Nat,jP g W r=some (s:Nat)→NW (j7 g long m a.s) s∨jP g {W with N:=N'} r=some (s:Nat):=fun{N'} hl hk r s h=>by
     grind[jP]
    by_cases e6:a.w%10=6
    ·have e8:a.w%10<8:=by omega
     simp only[if_pos e6,if_pos e8]
     by_cases hc:inS g a.s
     ·simp only[if_pos hc]
      obtain⟨i1,k1,n1⟩:=jcK (W':=W) ok hm hi ha a.s
      exact⟨i1,k1.trans (jcp rfl (hpl jkg fun k hk=> .inr (jhz hk)) fun t s i h=> .inr h)⟩
     grind[j7,hi,JJ.refl]
    ·simp only[if_neg e6]
     by_cases e7:a.w%10=7
     ·have e8:a.w%10<8:=by omega
      simp only[if_pos e7,if_pos e8]
      by_cases hc:inS g a.s
      ·simp only[if_pos hc]
       obtain⟨i1,k1,n1⟩:=jcK (W':=W) ok hm hi ha a.s
       refine⟨i1,k1.trans (jcp rfl (hpl jiV fun k hk=>?_) fun t s i h=> .inr h)⟩
       grind[inS,jmF]
      grind[j7,hi,JJ.refl]
     ·have e8: ¬a.w%10<8:=by omega
      simp only[if_neg e7,if_neg e8]
      by_cases e9:a.w%10=8
      ·simp only[if_pos e9]
       cases h:j1 g long W m a.i (a.u:Nat) with
       |none=>grind[JJ.refl]
       |some m'=>grind[jfF]
      ·simp only[if_neg e9]
       cases h:jae g long W m with
       |none=>grind[JJ.refl]
       |some m'=>
        grind[jdk,jfF]
end
structure MsP where
 W:MwP
 m:MaP
 k:MaP
def actS2 (g:PlG) (long:Nat) (S:MsP) (a:jcI):MsP:=⟨JI g S.W a,jaL g long S.W S.m a,jaL g long S.W S.k a⟩
structure MsOk (g:PlG) (long:Nat) (S:MsP):Prop where
 W:JX g S.W
 rf:ja6 g S.W.x
 m:jG g long S.W S.m
 k:jG g long S.W S.k
theorem MsOk.act {g:PlG} {long:Nat} {S:MsP} (ok:jc g) (h:MsOk g long S) (a:jcI):MsOk g long (actS2 g long S a):=
 ⟨actW_ok ok h.W,actW_rf ok h.W h.rf,actK_ok ok h.W h.m,actK_ok ok h.W h.k⟩
open Go.RowKit
set_option maxRecDepth 10000
structure CyP where
 W:MwP
 m:MaP
 A:List Bool
 sa:Bool
 at_:Nat
 D:List Bool
 ph:Nat
 st:Nat
def Jb (g:PlG) (s:CyP):CyP:=
 if s.ph=1∧JV g s.W s.m=true then{s with sa:=true,ph:=if s.at_=g.slots then 3 else 2}
 else if s.ph=2∧s.at_=g.slots then{s with ph:=3} else s
def madeC (g:PlG) (s:CyP):CyP:=Jb g {s with st:=s.st+1}
def sweepC (g:PlG) (s:CyP):Option CyP:=
 if s.sa=true∧s.at_<g.slots then
  some (if s.A[s.at_]?=some true∧s.m.C[s.at_]?=some 0 then{s with W:={s.W with x:=JU s.W.x (ju g (s.at_:Nat))},D:=s.D.set s.at_ true,at_:=s.at_+1} else{s with at_:=s.at_+1})
 else none
def stepC (g:PlG) (long nw:Nat) (s:CyP) (hd u:Int):Option CyP:=
 if s.ph=1 then(j1 g long s.W s.m hd u).map fun m'=>madeC g {s with m:=m'}
 else if s.ph=2∧u=5∧0≤hd∧hd≤((nw:Nat):Int) then(sweepC g s).map (madeC g)
 else none
def jZ (g:PlG) (long:Nat) (s:CyP):Option CyP:=
 if s.ph=1 then(jae g long s.W s.m).map fun m'=>madeC g {s with m:=m'}
 else if s.ph=2 then(sweepC g s).map (madeC g) else none
def beginC (g:PlG) (s:CyP):CyP:={s with m:=je3 g s.m,ph:=1,st:=0}
def jaz (gens:Int) (e:jh):jh:=if e.st=2 then(if e.gen≥gens then⟨3,0,e.gen⟩ else⟨0,0,e.gen+1⟩) else e
def Ji (gens:Int) (T:List jh):List jh:=T.map (jaz gens)
def recyN (gens:Int) (T:List jh):Nat:=T.countP fun e=>decide (e.st=2∧ ¬e.gen≥gens)
def publishC (g:PlG) (gens:Int) (s:CyP):CyP:=
 {s with A:=(jaZ s.A s.D).2,sa:=false,at_:=0,D:=List.replicate g.slots false,W:={s.W with T:=Ji gens s.W.T},m:={s.m with act:=false},ph:=0}
def shdC (g:PlG) (long:Nat) (s:CyP) (sl:Int):CyP:=if s.ph=1 then{s with m:=j7 g long s.m sl} else s
def Jt (m:MaP) (s:Nat):MaP:=if m.act=true then{m with C:=m.C.set s 2} else m
structure jaB where
 w:Nat
 n:Int
 i:Int
 t:Int
def makesC (g:PlG) (s:CyP) (a:jaB):CyP:=
  if (takeP g s.A a.n).2.1=0∧(Ju s.W.T).isSome=true then
    {s with A:=(takeP g s.A a.n).2.2,m:=Jt s.m (takeP g s.A a.n).1.toNat,
             W:={s.W with T:=jK s.W.T (takeP g s.A a.n).1,x:=(makeP s.W.x (ju g (takeP g s.A a.n).1) (hdM (ju g (takeP g s.A a.n).1) a.i)).2}}
  else s
def jM (g:PlG) (long:Nat) (s:CyP) (t:Int):CyP:=if t≥0 then shdC g long s t else s
def toC (T:List jh) (t:Int):Int:=if t<0 then-1 else(slotT T t).getD (-1)
def jbZ (g:PlG) (s:CyP) (sl i to:Int):CyP:={s with W:={s.W with x:=(Jl s.W.x g.slots (ju g sl) i to).2}}
def jaU (g:PlG) (long:Nat) (s:CyP) (a:jaB):CyP:=
 match slotT s.W.T a.n with
 |none=>s
 |some sl=>
  if a.t≥0∧(slotT s.W.T a.t).isNone=true then s
  else if (refP s.W.x g.slots (ju g sl) a.i).2≠0 then s
  else
   jbZ g (jM g long (jM g long s (refP s.W.x g.slots (ju g sl) a.i).1) (toC s.W.T a.t)) sl a.i (toC s.W.T a.t)
def doesC (g:PlG) (long:Nat) (s:CyP) (a:jaB):CyP:=
 if a.w%6<2 then makesC g s a
 else if a.w%6=2 then jaU g long s a
 else match slotT s.W.T a.n with
  |none=>s
  |some sl=>
   if a.w%6=3 then(let s1:=shdC g long s sl;{s1 with W:={s1.W with T:=Jm s1.W.T a.n}})
   else if a.w%6=4 then{s with W:={s.W with N:=JA s.W.N sl.toNat}}
   else(let s1:=shdC g long s sl;{s1 with W:={s1.W with N:=J0 s1.W.N sl.toNat}})
structure CyPre (g:PlG) (long:Nat) (s:CyP):Prop where
 w:JX g s.W
 rf:ja6 g s.W.x
 m:jG g long s.W s.m
 i:jav s.m
 A:s.A.length=g.slots
 D:s.D.length=g.slots
 p0:s.ph=0→s.m.act=false∧s.sa=false∧s.at_=0∧s.D=List.replicate g.slots false
 p1:s.ph=1→s.m.act=true∧s.sa=false∧s.at_=0∧s.D=List.replicate g.slots false
 p2:s.ph=2→s.m.act=true∧s.sa=true∧s.at_≤g.slots
 p3:s.ph=3→s.m.act=true∧s.sa=true∧s.at_=g.slots
 ph:s.ph≤3
 dn:2≤s.ph→ ∀ t,¬Lst s.m t
structure jr (g:PlG) (long:Nat) (s:CyP):Prop extends CyPre g long s where
 lt:s.ph=2→s.at_<g.slots
 go:s.ph=1→JV g s.W s.m=false
def Jj (g:PlG) (s:CyP):Nat:=if s.ph=1 then jS g s.W s.m+g.slots+1 else if s.ph=2 then g.slots-s.at_ else 0
section
variable {g : PlG} {long : Nat} {s s' : CyP}
theorem goes_mes (hs:1≤g.slots):Jj g (Jb g s)≤Jj g s:=by
 grind[Jb,Jj]
theorem jdr (ok:jc g) (h:jr g long s) (hh:jZ g long s=some s'):Jj g s'<Jj g s:=by
 have hsl:=ok.slots
 unfold jZ at hh
 split at hh
 ·rename_i h1
  cases hm:jae g long s.W s.m with
  |none=>grind
  |some m'=>
   rw[hm] at hh
   cases hh
   obtain⟨k,u,hk⟩:=jdk hm
   obtain⟨_,h2,_,_,_⟩:=jec ok h.m hk
   refine zi8 ?_
   grind[Jj]
 ·split at hh
  ·rename_i h1 h2
   unfold sweepC at hh
   split at hh
   ·cases hh
    refine zi8 ?_
    grind[Jj]
   grind
  grind
theorem jjE (ok:jc g) (h:jr g long s) (h0:s.ph≠0) (hh:jZ g long s=none):s.ph=3:=by
 have h3:=h.ph
 unfold jZ at hh
 split at hh
 ·rename_i h1
  cases hm:jae g long s.W s.m with
  |none=>have:=help_done ok h.m (h.p1 h1).1 hm;rw [h.go h1] at this;grind
  |some m'=>grind
 ·split at hh
  ·rename_i h1 h2
   obtain⟨_,a,_⟩:=h.p2 h2
   have b:=h.lt h2
   grind[sweepC]
  omega
end
open Go.RowKit
set_option maxRecDepth 10000
section
variable {g : PlG} {long nw : Nat} {s s' : CyP} {W W' : MwP} {m : MaP}
theorem put_empty {G:GyP} {t:Nat} (h:t<G.ow.length):jbn (jam g long G t)=false:=by
 unfold jbn jam
 split
 ·simp
 grind
theorem shd_done (hm:jG g long W m) (h:JV g W m=false) (t:Int):JV g W (j7 g long m t)=false:=by
 unfold j7 jb9 JP
 split
 ·split
  ·split
   ·rename_i hc
    have hl:=jx hc.2
    rw[hm.C,←hm.G.ow] at hl
    grind[JV,put_empty]
   omega
  omega
 omega
theorem jgP (h:W'.T.length=W.T.length):JV g W' m=JV g W m:=by grind[JV]
theorem jr.world (ok:jc g) (h:jr g long s) {a:jcI}:jr g long {s with W:=JI g s.W a}:=
 ⟨⟨actW_ok ok h.w,actW_rf ok h.w h.rf,h.m.world jhS fun t ht hq=>jjR ok h.w ht hq,h.i,h.A,h.D,h.p0,h.p1,h.p2,h.p3,h.ph,h.dn⟩,h.lt,fun e=>(jgP jhS).trans (h.go e)⟩
theorem jr.shd (ok:jc g) (h:jr g long s) (t:Int):jr g long (shdC g long s t):=by
 unfold shdC
 split
 ·rename_i h1
  obtain⟨a,b,c,d⟩:=h.p1 h1
  have z:=jcK (W':=s.W) ok h.m h.i a t
  exact⟨⟨h.w,h.rf,jfX ok h.m t,z.1,h.A,h.D,fun e=>(by grind),fun _=>⟨(jeT t).2.2.1.trans a,b,c,d⟩,fun e=>(by grind),fun e=>(by grind),h.ph,fun e=>absurd (show 2≤s.ph from e) (by omega)⟩,fun e=>(by grind),fun _=>shd_done h.m (h.go h1) t⟩
 omega
theorem black_ok (hm:jG g long W m) (t:Nat):jG g long W (Jt m t):=by
 unfold Jt
 split
 ·refine⟨by rw[List.length_set];exact hm.C,fun v hv=>?_,hm.G,hm.hs,hm.h,hm.root⟩
  rcases List.mem_or_eq_of_mem_set hv with e|e
  ·exact hm.c v e
  omega
 omega
theorem black_in (hi:jav m) (t:Nat):jav (Jt m t):=by
 unfold Jt
 split
 ·refine⟨fun q hq=>?_,fun q hq=>?_⟩
  ·by_cases e:t=q
   ·grind
   ·have hq':(m.C.set t 2)[q]?=some 1:=hq
    rw[List.getElem?_set_ne e] at hq';exact hi.grey q hq'
  ·obtain⟨c,h1,h2⟩:=hi.lst q hq
   by_cases e:t=q
   ·subst e;exact⟨2,List.getElem?_set_self (jx h1),by decide⟩
   ·exact⟨c,(List.getElem?_set_ne e).trans h1,h2⟩
 omega
theorem jex (m:MaP) (t:Nat):(Jt m t).G=m.G∧(Jt m t).hs=m.hs∧(Jt m t).root=m.root∧(Jt m t).act=m.act∧(Jt m t).steps=m.steps:=by
 grind[Jt]
theorem jmw (t:Nat):JV g W (Jt m t)=JV g W m:=by
 grind[JV,fullM,J1,jex]
theorem jr.black (h:jr g long s) (t:Nat):jr g long {s with m:=Jt s.m t}:=by
 obtain⟨a,b,c,d,_⟩:=jex s.m t
 refine⟨⟨h.w,h.rf,black_ok h.m t,black_in h.i t,h.A,h.D,fun e=>?_,fun e=>?_,fun e=>?_,fun e=>?_,h.ph,fun e q hq=>h.dn e q ?_⟩,h.lt,fun e=>(jmw t).trans (h.go e)⟩
 ·exact⟨d.trans (h.p0 e).1,(h.p0 e).2⟩
 ·exact⟨d.trans (h.p1 e).1,(h.p1 e).2⟩
 ·exact⟨d.trans (h.p2 e).1,(h.p2 e).2⟩
 ·exact⟨d.trans (h.p3 e).1,(h.p3 e).2⟩
 grind[Lst,Jt]
theorem jr.take (h:jr g long s) {A':List Bool} (hA:A'.length=s.A.length):jr g long {s with A:=A'}:=
 ⟨⟨h.w,h.rf,h.m,h.i,hA.trans h.A,h.D,h.p0,h.p1,h.p2,h.p3,h.ph,h.dn⟩,h.lt,h.go⟩
end
open Go.RowKit
set_option maxRecDepth 10000
section
variable {g : PlG} {long nw : Nat} {s s' : CyP}
theorem jeX:(Jb g s).st=s.st:=by
 grind[Jb]
theorem jf8:s.ph≤(Jb g s).ph:=by
 grind[Jb]
theorem jcO:(Jb g s).W=s.W∧(Jb g s).m=s.m∧(Jb g s).A=s.A∧(Jb g s).at_=s.at_∧(Jb g s).D=s.D:=by
 grind[Jb]
theorem jhl (hs:sweepC g s=some s'):s'.st=s.st∧s'.ph=s.ph∧s'.at_=s.at_+1:=by
 grind[sweepC]
theorem jf5 (hs:jZ g long s=some s'):s'.st=s.st+1∧s.ph≤s'.ph:=by
 unfold jZ at hs
 split at hs
 ·cases hm:jae g long s.W s.m with
  |none=>grind
  |some m'=>rw [hm] at hs;cases hs;exact⟨jeX,jf8 (s:={s with m:=m',st:=s.st+1})⟩
 ·split at hs
  ·cases hm:sweepC g s with
   |none=>grind
   |some q=>
    rw[hm] at hs;cases hs
    obtain⟨a,b,_⟩:=jhl hm
    refine⟨jeX.trans (by grind),?_⟩
    have:=jf8 (g:=g) (s:={q with st:=q.st+1})
    exact Nat.le_trans (Nat.le_of_eq b.symm) this
  grind
theorem jh4 {k u:Int} (hs:stepC g long nw s k u=some s'):s'.st=s.st+1∧s.ph≤s'.ph:=by
 unfold stepC at hs
 split at hs
 ·cases hm:j1 g long s.W s.m k u with
  |none=>grind
  |some m'=>rw [hm] at hs;cases hs;exact⟨jeX,jf8 (s:={s with m:=m',st:=s.st+1})⟩
 ·split at hs
  ·cases hm:sweepC g s with
   |none=>grind
   |some q=>
    rw[hm] at hs;cases hs
    obtain⟨a,b,_⟩:=jhl hm
    refine⟨jeX.trans (by grind),?_⟩
    have:=jf8 (g:=g) (s:={q with st:=q.st+1})
    exact Nat.le_trans (Nat.le_of_eq b.symm) this
  grind
theorem step_mes (ok:jc g) (h:jr g long s) {k u:Int} (hh:stepC g long nw s k u=some s'):Jj g s'<Jj g s:=by
 have hsl:=ok.slots
 unfold stepC at hh
 split at hh
 ·rename_i h1
  cases hm:j1 g long s.W s.m k u with
  |none=>grind
  |some m'=>
   rw[hm] at hh
   cases hh
   obtain⟨_,h2,_,_,_⟩:=jec ok h.m hm
   refine zi8 ?_
   grind[Jj]
 ·split at hh
  ·rename_i h1 h2
   cases hm:sweepC g s with
   |none=>grind
   |some q=>
    rw[hm] at hh
    cases hh
    obtain⟨a,b,c⟩:=jhl hm
    have hlt:=h.lt h2.1
    refine zi8 ?_
    grind[Jj]
  grind
theorem jkA (ok:jc g) (h:jr g long s) (hs:jZ g long s=some s'):s'.st+Jj g s'≤s.st+Jj g s:=by
 have h1:=(jf5 hs).1
 have h2:=jdr ok h hs
 omega
theorem jj4 (ok:jc g) (h:jr g long s) {k u:Int} (hs:stepC g long nw s k u=some s'):s'.st+Jj g s'≤s.st+Jj g s:=by
 have h1:=(jh4 hs).1
 have h2:=step_mes ok h hs
 omega
theorem jjO (ok:jc g):(beginC g s).st+Jj g (beginC g s)≤18*g.words+s.W.T.length+g.slots+1:=by
 have:=jgG (W:=s.W) ok (s.m.hs.length-1)
 show 0+(if (1:Nat)=1 then jS g s.W (je3 g s.m)+g.slots+1 else _)≤_
 grind[je3]
end
open Go.RowKit
set_option maxRecDepth 10000
theorem jej {t:TbM} {i:Nat} {e:jh} (ok:TbOk t) (he:0≤e.st∧e.st<4∧1≤e.gen∧e.gen≤2147483648∧0≤e.slot∧e.slot≤1000000):TbOk ⟨t.b,t.l.set i e,t.gens,t.o⟩:=by
 refine⟨ok.o.set _ _,by simpa using ok.n,ok.g,fun x hx=>?_⟩
 rcases List.mem_or_eq_of_mem_set hx with h|rfl
 ·exact ok.e x h
 omega
section
variable {w0 : World} {F : jb} {t : TbM}
theorem jlR {i:Nat} {e:jh} (ok:TbOk t) (he:t.l[i]?=some e) (h0:e.st=0):
  Call Tryz.prog w0 254 [.pointer (some ⟨t.b,0,none⟩), .pointer (some (adr (oV t.o t.l.length) (i*enE.sz))), .int .i64 1] (jy t++F) (fun r H'=>r= .tuple #[]∧H'=jy ⟨t.b,t.l.set i ⟨1,e.slot,e.gen⟩,t.gens,t.o⟩++F):=by
 have ho:=ok.o
 have hn:=ok.n
 obtain⟨st,sl,ge⟩:=e
 dsimp only at h0;subst h0
 have c0:=jaF he ⟨1,sl,ge⟩ 0
 have c1:=jaF he ⟨1,sl,ge⟩ 1
 have c2:=jaF he ⟨1,sl,ge⟩ 2
 have c3:=jaF he ⟨1,sl,ge⟩ 3
 have p0:1≤cntP 0 t.l:=jgc he
 have p1:=jc7 1 t.l
 have p2:=jc7 0 t.l
 simp at c0 c1 c2 c3
 have e0:((cntP 0 t.l:Nat):Int)-1=((cntP 0 (t.l.set i ⟨1,sl,ge⟩):Nat):Int):=by omega
 have e1:((cntP 1 t.l:Nat):Int)+1=((cntP 1 (t.l.set i ⟨1,sl,ge⟩):Nat):Int):=by omega
 refine zi9 ?_;simp only[Jf];refine K.seq ?_;refine zgW ?_;refine zj ?_;refine zeb ?_;refine zej ?_;refine zdF ?_;dsimp only;refine zbX ?_;refine zP ?_;refine zg4 ?_;refine zdF ?_;refine zbX ?_;refine zby ?_;refine za1 ?_;refine zhW ?_;refine zj ?_;refine zap ?_;refine zg2 ?_;refine zbX ?_;refine zP ?_;refine zc5 ?_;refine zdF ?_;refine zbX ?_;refine zby ?_;refine zbG ?_;refine zbm ?_;refine zbK ?_;refine zfR ?_;refine KL.eN (Eff.stSl0 (x1:=(⟨1,sl,ge⟩:jh)) rfl rfl rfl rfl jn ho he rfl rfl) ?_;rintro _ _ rfl;refine zN ?_;rw[e0,e1];exact KE.finN (H':=jy ⟨t.b,t.l.set i ⟨1,sl,ge⟩,t.gens,t.o⟩++F) je rfl jd (by simp only[Jf,List.length_set,c2,c3];exact ja) ⟨rfl,rfl⟩
theorem jlQ {i:Nat} {e:jh} (ok:TbOk t) (he:t.l[i]?=some e) (h0:e.st=1):
  Call Tryz.prog w0 254 [.pointer (some ⟨t.b,0,none⟩), .pointer (some (adr (oV t.o t.l.length) (i*enE.sz))), .int .i64 2] (jy t++F) (fun r H'=>r= .tuple #[]∧H'=jy ⟨t.b,t.l.set i ⟨2,e.slot,e.gen⟩,t.gens,t.o⟩++F):=by
 have ho:=ok.o
 have hn:=ok.n
 obtain⟨st,sl,ge⟩:=e
 dsimp only at h0;subst h0
 have c0:=jaF he ⟨2,sl,ge⟩ 0
 have c1:=jaF he ⟨2,sl,ge⟩ 1
 have c2:=jaF he ⟨2,sl,ge⟩ 2
 have c3:=jaF he ⟨2,sl,ge⟩ 3
 have p0:1≤cntP 1 t.l:=jgc he
 have p1:=jc7 1 t.l
 have p2:=jc7 2 t.l
 simp at c0 c1 c2 c3
 have e0:((cntP 1 t.l:Nat):Int)-1=((cntP 1 (t.l.set i ⟨2,sl,ge⟩):Nat):Int):=by omega
 have e1:((cntP 2 t.l:Nat):Int)+1=((cntP 2 (t.l.set i ⟨2,sl,ge⟩):Nat):Int):=by omega
 refine zi9 ?_;simp only[Jf];refine K.seq ?_;refine zgW ?_;refine zj ?_;refine zeb ?_;refine zej ?_;refine zdF ?_;dsimp only;refine zbX ?_;refine zP ?_;refine zg4 ?_;refine zdF ?_;refine zbX ?_;refine zby ?_;refine za1 ?_;refine zhW ?_;refine zj ?_;refine zap ?_;refine zg2 ?_;refine zbX ?_;refine zP ?_;refine zc5 ?_;refine zdF ?_;refine zbX ?_;refine zby ?_;refine zbG ?_;refine zbm ?_;refine zbK ?_;refine zfR ?_;refine KL.eN (Eff.stSl0 (x1:=(⟨2,sl,ge⟩:jh)) rfl rfl rfl rfl jn ho he rfl rfl) ?_;rintro _ _ rfl;refine zN ?_;rw[e0,e1];exact KE.finN (H':=jy ⟨t.b,t.l.set i ⟨2,sl,ge⟩,t.gens,t.o⟩++F) je rfl jd (by simp only[Jf,List.length_set,c0,c3];exact ja) ⟨rfl,rfl⟩
theorem tbin_K {H:jb} {b:Nat} {st:Int}:
  Call Tryz.prog w0 280 [.pointer (some ⟨b,0,none⟩), .int .i64 st] H (fun u H'=> ∃ b1 b2,u= .func (.func 301) #[] [.pointer (some ⟨b1,0,none⟩), .pointer (some ⟨b2,0,none⟩)].toArray∧H'=(b1,cells [.pointer (some ⟨b,0,none⟩)] 70)::(b2,cells [.int .i64 st] 3)::H):=by
 refine Call.enter2 (n:=6) (by rfl) Tryz.func280 rfl rfl rfl ?_;refine zaU ?_;intro b2 b3;refine zu ?_;refine zbF ?_;refine zf ?_;exact KE.fin (H':=(b2,cells [.pointer (some ⟨b,0,none⟩)] 70)::(b3,cells [.int .i64 st] 3)::H) je rfl jd ja ⟨b2,b3,rfl,rfl⟩
structure TbI where
 i:Nat
theorem tbin1_K {A0:jb} {st:Int} {q1 q2:Nat} {yv:Value} (ok:TbOk t) (E:jb→Prop)
  (hy: ∀ (i:Nat) (e:jh),t.l[i]?=some e→e.st=st→(∀ (j:Nat) (e:jh),j<i→t.l[j]?=some e→e.st≠st)→CallV Tryz.prog w0 yv [.int .i64 (i:Nat), .pointer (some (adr (oV t.o t.l.length) (i*enE.sz)))] (A0++((q1,cells [.pointer (some ⟨t.b,0,none⟩)] 70)::(q2,cells [.int .i64 st] 3)::(jy t++F))) (fun u H'=>u= .bool false∧E H')):
  Call Tryz.prog w0 301 [yv, .pointer (some ⟨q1,0,none⟩), .pointer (some ⟨q2,0,none⟩)] (A0++((q1,cells [.pointer (some ⟨t.b,0,none⟩)] 70)::(q2,cells [.int .i64 st] 3)::(jy t++F)))
   (fun _ H'=>((∀ (j:Nat) (e:jh),t.l[j]?=some e→e.st≠st)∧H'=A0++((q1,cells [.pointer (some ⟨t.b,0,none⟩)] 70)::(q2,cells [.int .i64 st] 3)::(jy t++F)))∨E H'):=by
 have ho:=ok.o
 have hn:=ok.n
 refine Call.enter3 (n:=34) (by rfl) Tryz.func301 rfl rfl rfl ?_;simp only[Jf];refine zy ?_;refine zec ?_;refine zbp ?_;refine zcH ?_;refine K.loopT (σ:=TbI) [(0,_),(1,_),(2,_),(10,_)] (fun s kp_=>(11, .int .i64 (s.i:Nat))::kp_) (fun s=>A0++((q1,cells [.pointer (some ⟨t.b,0,none⟩)] 70)::(q2,cells [.int .i64 st] 3)::(jy t++F))) (fun s=>s.i≤t.l.length∧ ∀ (j:Nat) (e:jh),j<s.i→t.l[j]?=some e→e.st≠st) (fun s=>t.l.length-s.i) (⟨0⟩) jj (by first|exact ja|(simp only[Jf];exact ja)) (⟨Nat.zero_le _,fun j e h=>absurd h (Nat.not_lt_zero _)⟩) ?_;rintro⟨i⟩ ⟨hi,hno⟩;dsimp only at hi hno⊢;simp only[Jf]
 by_cases hlt:i<t.l.length
 ·obtain⟨e,he⟩:=jA hlt
  by_cases hst:e.st=st
  ·refine zgR ?_;refine zk5 ?_;refine ze ?_;refine zu ?_;refine zec ?_;refine ze ?_;refine ze8 ?_;refine zk ?_;refine zcK ?_;refine zja ?_;refine zeb ?_;refine zgz ?_;refine zP ?_;refine zha ?_;refine zj ?_;refine zbi ?_;refine zbt ?_;refine zcb fun T hT=>?_;refine(CallV.part (hy i e he hst hno) (by first|exact ja|(simp only[Jf];exact ja))).mono ?_;rintro _ H' ⟨rfl,hE⟩;refine zg ?_;clear hT T;refine zjb ?_;refine zcB ?_;refine KE.next (K.condT rfl ?_);refine zdr ?_;refine zbE ?_;refine zbS ?_;exact KE.fin je rfl jd ja (.inr hE)
  ·refine zgR ?_;refine zk5 ?_;refine ze ?_;refine zu ?_;refine zec ?_;refine ze ?_;refine ze8 ?_;refine zk ?_;refine zcK ?_;refine zja ?_;refine zeb ?_;refine zgz ?_;refine zP ?_;refine zhb ?_;refine zj ?_;refine zft ?_;refine zgp ?_;refine zaB ?_;refine zbH ?_;refine zcS ?_
   exact KE.again ⟨i+1⟩ jj (by first|exact ja|(simp only[Jf];exact ja)) ⟨hlt,fun j e' (hj:j<i+1) he'=>by
    rcases Nat.lt_or_ge j i with h|h
    ·exact hno j e' h he'
    ·have:j=i:=by omega
     subst this
     rw[he] at he';cases he';exact hst⟩ (by show t.l.length-(i+1)<t.l.length-i;omega)
 ·refine zgR ?_;refine zk7 ?_;exact KE.finN je rfl jd (by first|exact ja|(simp only[Jf];exact ja)) (.inl ⟨fun j e he=>hno j e (by have:=jx he;omega) he,rfl⟩)
end
set_option maxRecDepth 10000
section
variable {w0 : World} {F : jb} {t : TbM}
theorem jj0 {i:Nat} (ok:TbOk t):Call Tryz.prog w0 29 [.pointer (some ⟨t.b,0,none⟩), .int .i64 (i:Nat)] (jy t++F)
  (fun r H'=>r= .tuple [.int .i64 ((slotT t.l (i:Nat)).getD 0), .bool (slotT t.l (i:Nat)).isSome].toArray∧H'=jy t++F):=by
 have ho:=ok.o
 have hn:=ok.n
 unfold slotT;rw[if_pos (by omega),Int.toNat_natCast]
 by_cases hlt:i<t.l.length
 ·obtain⟨e,he⟩:=jA hlt
  have hge: ¬((i:Nat):Int)≥(t.l.length:Nat):=by omega
  rw[he];dsimp only
  obtain⟨st,sl,ge⟩:=e
  dsimp only
  by_cases h1:st=1
  ·subst h1;simp only[if_true,Option.getD,Option.isSome];refine zku ?_;refine zfH ?_;refine zcL ?_;simp only[Jf];refine zdw ?_;refine zaq ?_;refine zfC ?_;refine zan ?_;refine zaq ?_;refine zL ?_;refine zgt ?_;refine zfq ?_;refine zi ?_;refine zcJ ?_;refine zi ?_;refine KL.v rfl (Val.neq rfl rfl) ?_;refine zC ?_;refine zR ?_;refine zB ?_;refine zfE ?_;refine zh1 ?_;refine zkv ?_;refine zaI ?_;exact zaK
  ·simp only[if_neg h1,Option.getD,Option.isSome];refine zku ?_;refine zfH ?_;refine zcL ?_;simp only[Jf];refine zdw ?_;refine zaq ?_;refine zfC ?_;refine zan ?_;refine zaq ?_;refine zL ?_;refine zgt ?_;refine zfq ?_;refine zi ?_;refine zcJ ?_;refine zi ?_;refine zag ?_;refine zC ?_;refine zgh ?_;exact zaK
 ·have hge:((i:Nat):Int)≥(t.l.length:Nat):=by omega
  rw[List.getElem?_eq_none (by omega)];simp only[Option.getD,Option.isSome];refine zku ?_;refine zfH ?_;refine zcL ?_;simp only[Jf];refine zdw ?_;refine zaq ?_;refine zbp ?_;refine zgo ?_;refine zdZ ?_;refine zcc ?_;refine zfZ ?_;refine zgh ?_;exact zaK
theorem jjf {i:Nat} {e:jh} (ok:TbOk t) (he:t.l[i]?=some e) (h1:e.st=1):Call Tryz.prog w0 203 [.pointer (some ⟨t.b,0,none⟩), .int .i64 (i:Nat), .int .u32 e.gen] (jy t++F)
  (fun r H'=>r= .pointer (some (adr (oV t.o t.l.length) (i*enE.sz)))∧H'=jy t++F):=by
 have ho:=ok.o
 have hlt:=jx he
 have hge: ¬((i:Nat):Int)≥(t.l.length:Nat):=by omega
 have hst: ¬e.st≠1:=fun h=>h h1
 have hgn: ¬e.gen≠e.gen:=fun h=>h rfl
 refine Call.enter3 (n:=47) (by rfl) Tryz.func203 rfl rfl rfl ?_;simp only[Jf];refine zaa ?_;refine zT ?_;refine zci ?_;refine zaq ?_;refine zfC ?_;refine zan ?_;refine zaq ?_;refine zL ?_;refine zgt ?_;refine zfq ?_;refine zi ?_;refine zcJ ?_;refine zi ?_;refine zed ?_;refine zan ?_;refine zaq ?_;refine zL ?_;refine zgt ?_;refine zi ?_;refine zgA ?_;refine zi ?_;refine zkv ?_;refine zeC ?_;refine zed ?_;refine zR ?_;refine zB ?_;refine zfE ?_;refine zf ?_;exact zaK
theorem jj1 {i:Nat} {e:jh} (ok:TbOk t) (he:t.l[i]?=some e) (h1:e.st=1):Call Tryz.prog w0 140 [.pointer (some ⟨t.b,0,none⟩), .int .i64 (i:Nat), .int .u32 e.gen] (jy t++F)
  (fun r H'=>r= .tuple [.int .i64 e.slot, .int .i64 0].toArray∧H'=jy t++F):=by
 have ho:=ok.o
 have hlt:=jx he
 refine Call.enter3 (n:=21) (by rfl) Tryz.func140 rfl rfl rfl ?_;refine zfH ?_;refine zcL ?_;refine zz ?_;refine zm ?_;refine zo ?_;refine ji (jjf ok he h1) ja ?_;simp only[Jf];refine z6 ?_;refine zgq ?_;refine zR ?_;refine zh1 ?_;refine zkv ?_;refine zaI ?_;exact zaK
theorem tbDrop_K {i:Nat} {e:jh} (ok:TbOk t) (he:t.l[i]?=some e) (h1:e.st=1):Call Tryz.prog w0 198 [.pointer (some ⟨t.b,0,none⟩), .int .i64 (i:Nat), .int .u32 e.gen] (jy t++F)
  (fun r H'=>r= .tuple [.int .i64 e.slot, .int .i64 0].toArray∧H'=jy ⟨t.b,t.l.set i ⟨2,e.slot,e.gen⟩,t.gens,t.o⟩++F):=by
 refine Call.enter3 (n:=27) (by rfl) Tryz.func198 rfl rfl rfl ?_;refine za6 ?_;refine zm ?_;refine zo ?_;refine ji (jj1 ok he h1) ja ?_;refine zaM ?_;refine zJ ?_;refine zaS ?_;refine zm ?_;refine zat ?_;refine ji (jjf ok he h1) ja ?_;refine zn ?_;refine ji (jlQ ok he h1) ja ?_;refine zW ?_;refine zm ?_;refine zaI ?_;exact zaK
set_option maxHeartbeats 1000000 in
theorem tbMint_K {s:Nat} (ok:TbOk t) (hs:s≤1000000):Call Tryz.prog w0 241 [.pointer (some ⟨t.b,0,none⟩), .int .i64 (s:Nat)] (jy t++F)
  (fun r H'=> ∃ t':TbM,TbOk t'∧t'.b=t.b∧t'.gens=t.gens∧t'.l=jK t.l (s:Nat)∧r= .tuple [.int .i64 (jar t.l).1, .int .u32 (jar t.l).2.1, .int .i64 (jar t.l).2.2].toArray∧H'=jy t'++F):=by
 have ho:=ok.o
 have hn:=ok.n
 refine Call.enter2 (n:=31) (by kernel_rfl) Tryz.func241 rfl rfl rfl ?_;refine zaU ?_;intro b2 b3;refine zaD ?_;intro b4;refine zaD ?_;intro b5;refine zaD ?_;intro b6;refine zdI ?_;refine zV ?_;refine zcL ?_;refine zau ?_;refine zp ?_;refine zT ?_;refine zdd ?_;refine zev ?_;refine zV ?_;refine jat (tbin_K (b:=t.b) (st:=0)) ?_;rintro _ _ ⟨c1,c2,rfl,rfl⟩;refine zb9 ?_;refine K.rangeFunc (lb:=[.pointer (some ⟨c1,0,none⟩), .pointer (some ⟨c2,0,none⟩)]) rfl
  (fun D G=>G=(D, .deferred (some []))::(b6,cells [.int .i64 0] 40)::(b5,cells [.int .u32 0] 122)::(b4,cells [.int .i64 0] 3)::(b3,cells [.int .i64 (s:Nat)] 3)::(b2,cells [.pointer (some ⟨t.b,0,none⟩)] 70)::(jy t++F)∧Ju t.l=none)
  (fun D c G=>c= .ret∧ ∃ (i:Nat) (e:jh),t.l[i]?=some e∧Ju t.l=some i∧G=(D, .deferred (some []))::(b6,cells [.int .i64 0] 40)::(b5,cells [.int .u32 e.gen] 122)::(b4,cells [.int .i64 (i:Nat)] 3)::(b3,cells [.int .i64 (s:Nat)] 3)::(b2,cells [.pointer (some ⟨t.b,0,none⟩)] 70)::(jy ⟨t.b,t.l.set i ⟨1,(s:Nat),e.gen⟩,t.gens,t.o⟩++F)) ?_ ?_ ?_
 ·intro l D rc hyl
  refine(Call.part (tbin1_K (F:=F) (st:=0) (q1:=c1) (q2:=c2) ok
   (fun H'=> ∃ (i:Nat) (e:jh),t.l[i]?=some e∧Ju t.l=some i∧H'=(l, .loop (rc .done (some .ret)))::((D, .deferred (some []))::(b6,cells [.int .i64 0] 40)::(b5,cells [.int .u32 e.gen] 122)::(b4,cells [.int .i64 (i:Nat)] 3)::(b3,cells [.int .i64 (s:Nat)] 3)::(b2,cells [.pointer (some ⟨t.b,0,none⟩)] 70)::(c1,cells [.pointer (some ⟨t.b,0,none⟩)] 70)::(c2,cells [.int .i64 0] 3)::(jy ⟨t.b,t.l.set i ⟨1,(s:Nat),e.gen⟩,t.gens,t.o⟩++F)))
   (A0:=(l, .loop (rc .ready none))::(D, .deferred (some []))::(b6,cells [.int .i64 0] 40)::(b5,cells [.int .u32 0] 122)::(b4,cells [.int .i64 0] 3)::(b3,cells [.int .i64 (s:Nat)] 3)::(b2,cells [.pointer (some ⟨t.b,0,none⟩)] 70)::[]) ?_) (by simp only[List.cons_append,List.nil_append];exact ja)).mono ?_
  ·intro i e he h0 hno
   have hF:=freeT_is he h0 hno
   have hb:=ok.e e (List.mem_of_getElem? he)
   have hlt:=jx he
   have ok1:TbOk ⟨t.b,t.l.set i ⟨1,e.slot,e.gen⟩,t.gens,t.o⟩:=jej ok (by dsimp only;omega)
   have ho1:=ok1.o
   dsimp only at ho1
   have he1:(t.l.set i (⟨1,e.slot,e.gen⟩:jh))[i]?=some ⟨1,e.slot,e.gen⟩:=List.getElem?_set_self hlt
   have hll:(t.l.set i (⟨1,e.slot,e.gen⟩:jh)).length=t.l.length:=List.length_set
   have hcs: ∀ q:Int,cntP q (t.l.set i ⟨1,(s:Nat),e.gen⟩)=cntP q (t.l.set i (⟨1,e.slot,e.gen⟩:jh)):=fun q=>by
    have:=jaF he1 ⟨1,(s:Nat),e.gen⟩ q
    rw[List.set_set] at this;dsimp only at this
    omega
   refine ziz ?_;refine ziD ?_;refine zge ?_;refine K.block (K.seq (K.region ?_));refine zdu ?_;refine ji (jlR ok he h0) ja ?_;simp only[Jf];refine zaY ?_;refine zdC ?_;refine zbo ?_;refine zbK ?_;refine zc7 ?_;refine KL.eN (Eff.stSl (j:=1) (x1:=(⟨1,(s:Nat),e.gen⟩:jh)) rfl rfl rfl rfl jn ho1 he1 rfl rfl) ?_;rintro _ _ rfl;refine zN ?_
   have he2:(t.l.set i (⟨1,(s:Nat),e.gen⟩:jh))[i]?=some ⟨1,(s:Nat),e.gen⟩:=List.getElem?_set_self hlt
   have ho2:oOk enE (t.l.set i ⟨1,(s:Nat),e.gen⟩) t.o:=ho.set _ _
   rw[List.set_set];refine za1 ?_;refine K.drawn _ [(0,0),(1,1),(2,1),(3,1),(4,1),(5,2),(6,2),(7,2)] (by kernel_rfl) (by kernel_rfl) (by kernel_rfl) (by kernel_rfl) (by kernel_rfl) (by kernel_rfl) (Part.takeA Jn.head (Part.take j3.head (Part.take j3.head (Part.take j3.head (Part.drop (Part.drop (Part.drop Part.all))))))) ?_;refine zj ?_;refine zdA ?_;refine KD.v1 rfl rfl (Val.fieldSl (k:=2) rfl rfl) ?_;refine KD.v1 rfl rfl (Val.loadP rfl rfl (jI.sl (Sli.own jn (by assumption) j6) (by assumption) rfl)) ?_;refine zgY ?_;refine zbQ ?_;refine zgY ?_;refine zbQ ?_;refine zby ?_;refine zgL ?_;refine zbS ?_;refine KE.part ((l, .loop (rc .busy none))::((D, .deferred (some []))::(b6,cells [.int .i64 0] 40)::(b5,cells [.int .u32 e.gen] 122)::(b4,cells [.int .i64 (i:Nat)] 3)::(b3,cells [.int .i64 (s:Nat)] 3)::(b2,cells [.pointer (some ⟨t.b,0,none⟩)] 70)::(c1,cells [.pointer (some ⟨t.b,0,none⟩)] 70)::(c2,cells [.int .i64 0] 3)::(jy ⟨t.b,t.l.set i ⟨1,(s:Nat),e.gen⟩,t.gens,t.o⟩++F))) (by simp only[Jf,hcs,List.length_set];exact ja) ?_;exact KE.roundR j3.head ⟨rfl,i,e,he,hF,rfl⟩
  ·rintro _ _ (⟨hno,rfl⟩|⟨i,e,he,hF,rfl⟩)
   ·refine .inl ⟨_,?_,rfl,freeT_no hno⟩;exact zf0
   ·exact .inr ⟨.ret,_,ja,rfl,i,e,he,hF,rfl⟩
 ·rintro D G ⟨rfl,hF⟩
  have h1:jar t.l=(0,0,131):=by unfold jar;rw [hF]
  have h2:jK t.l (s:Nat)=t.l:=by unfold jK;rw [hF]
  refine zeU ?_;refine zO ?_;refine zO ?_;refine zcl ?_;exact KE.fin (H':=jy t++F) je rfl jd ja ⟨t,ok,rfl,rfl,h2.symm,by rw[h1];rfl,rfl⟩
 ·rintro D c G ⟨rfl,i,e,he,hF,rfl⟩
  have h1:jar t.l=(((i:Nat):Int),e.gen,0):=by unfold jar;rw [hF];dsimp only;rw [jcd he]
  have h2:jK t.l (s:Nat)=t.l.set i ⟨1,(s:Nat),e.gen⟩:=by unfold jK;rw [hF];dsimp only;rw [jcd he]
  have hb:=ok.e e (List.mem_of_getElem? he)
  refine zdr ?_;exact KE.fin (H':=jy ⟨t.b,t.l.set i ⟨1,(s:Nat),e.gen⟩,t.gens,t.o⟩++F) je rfl jd ja ⟨⟨t.b,t.l.set i ⟨1,(s:Nat),e.gen⟩,t.gens,t.o⟩,jej ok (by dsimp only;omega),rfl,rfl,h2.symm,by rw[h1];rfl,rfl⟩
end
end Go.Proofs.YtpcgafhgfjlkmaaGreatDoor.Sw
