/-The walker and the contracts that the law needs,part 25. -/
import Derived.Test.YtpcgafhgfjlkmaaGreatDoorD1
import Derived.ArgAppend
import Derived.ChangeMaps5
import Derived.Deep.Fields
import Derived.Deep.LoopGhost
import Derived.Deep.OwnRows
import Derived.Deep.Quiet
import Derived.Deep.Slices
import Derived.IntWalk
import Derived.Laws.Cells
import Derived.Laws.CopyOwn
import Derived.Laws.Externs
import Derived.Laws.FloatArith
import Derived.Laws.IdiomStrings
import Derived.Laws.NewFold
import Derived.Laws.StructEq
import Derived.Lib.BitFns
import Derived.Lib.Hide
import Derived.Lib.SmallJoins
import Derived.Lib.TrailingZeros
import Derived.Maps.RangeRun
import Derived.OrdersIn
import Derived.ProofKit
import Derived.RangeFuncBound
import Derived.RangeFuncCalls
import Derived.RangeFuncLeaves
import Derived.RangeFuncNested
import Derived.RecoverIn
import Derived.Shelf.Bits.Mul64
import Derived.Shelf.Slices.Turned
import Derived.Shelf.Spec.TrailingZeros
import Derived.Shelf.Strconv.Itoa0
import Derived.SizedLaws
import Derived.Sort.BigQuietIn
import Derived.StillTailTactics
import Derived.Test.YtpcgafhgfjlkmaaGreatDoorProg
import Derived.WalkKit
import Derived.Test.YtpcgafhgfjlkmaaGreatDoorJ23
import Derived.Test.YtpcgafhgfjlkmaaGreatDoorJ24
set_option linter.unusedVariables false set_option linter.unusedSimpArgs false set_option linter.unusedVariables false
set_option linter.unusedSimpArgs false
namespace Go.Proofs.YtpcgafhgfjlkmaaGreatDoor.Sw
set_option maxHeartbeats 8000000
open Go.Proofs.YtpcgafhgfjlkmaaGreatDoor renaming lo → qL, hi → qH
open Go.RowKit
set_option maxRecDepth 10000
def pwP (c:Cfg) (t:Int) (k:Nat):Int:=(pagesP c t (k:Nat)).1*c.page
def wordsP (c:Cfg) (t:Int):Int:=sumN (pwP c t) c.cl.length
def jaw (c:Cfg) (t:Int):Int × Int:=if j9 c t 0 then(wordsP c t,0) else(0,2)
def jbH (c:Cfg) (t:Int):Int × Int:=if j9 c t 0 then(sumN (fun i=>wordsP c (i:Nat)) t.toNat,0) else(0,2)
def totalP (c:Cfg):Int × Int:=if jX c then(sumN (fun i=>wordsP c (i:Nat)) c.tn.length,0) else(0,2)
theorem jb4 {c:Cfg} {i j:Nat} (hc:jX c=true) (hi:i<c.tn.length) (hj:j<c.cl.length):j9 c (i:Nat) (j:Nat)=true:=by
 grind[j9,jao]
theorem jhA {c:Cfg} {t k:Int} (h:j9 c t k=true):1≤(pagesP c t k).1∧(pagesP c t k).1≤2048∧(pagesP c t k).2=0:=by
 have h':=h
 obtain⟨i,j,x,y,rfl,rfl,hx,hy,ok⟩:=jbQ h
 have hb:=(ok.ten x (List.mem_of_getElem? hx)).1
 have hb2:=ok.el y (List.mem_of_getElem? hy)
 have hpg:=ok.page
 have he:pagesP c (i:Nat) (j:Nat)=(jda c.page x.quota y,0):=by grind[pagesP,jbf,cfgC]
 have hsl:=jhp (q:=x.quota) (y:=y) (by omega) (by omega) hb.2
 have hper:1≤c.page/y∧c.page/y≤64:=⟨(Int.le_ediv_iff_mul_le (by omega)).2 (by omega),Int.le_trans (Int.ediv_le_self _ (by omega)) hpg.2⟩
 rw[he];unfold jda;unfold jbp at hsl
 obtain⟨n,hn⟩: ∃ n,n=x.quota/y:=⟨_,rfl⟩
 obtain⟨p,hp⟩: ∃ p,p=c.page/y:=⟨_,rfl⟩
 rw[←hn] at hsl⊢;rw[←hp] at hper⊢;refine⟨(Int.le_ediv_iff_mul_le (by omega)).2 (by omega),?_,rfl⟩
 have h1:(n+p-1)/p<n+1:=(Int.ediv_lt_iff_lt_mul (by omega)).2 (by
  have e:(n+1)*p=n*p+p:=by grind
  have:n*1≤n*p:=Int.mul_le_mul_of_nonneg_left hper.1 (by omega)
  omega)
 omega
theorem pw_le {c:Cfg} {t:Int} {k:Nat} (h:j9 c t (k:Nat)=true):0≤pwP c t k∧pwP c t k≤131072:=by
 obtain⟨h1,h2,_⟩:=jhA h
 obtain⟨i,j,x,y,_,_,hx,hy,ok⟩:=jbQ h
 have hb2:=ok.el y (List.mem_of_getElem? hy)
 have hpg:=ok.page
 unfold pwP;refine⟨Int.mul_nonneg (by omega) (by omega),?_⟩
 have h3:(pagesP c t (k:Nat)).1*c.page≤2048*c.page:=Int.mul_le_mul_of_nonneg_right h2 (by omega)
 omega
theorem jeJ {c:Cfg} {i:Nat} (hc:jX c=true) (hi:i<c.tn.length):0≤wordsP c (i:Nat)∧wordsP c (i:Nat)≤1048576:=by
 have ok:=ja2 hc
 have h:=jcX (f:=pwP c (i:Nat)) (B:=131072) (n:=c.cl.length) (fun k hk=>pw_le (jb4 hc hi hk))
 have:=ok.cl.2
 grind[wordsP]
set_option maxHeartbeats 2000000 in
theorem words1_K {w0:World} {F:jb} {c:Cfg} {vc vt:Value} {b1 b2 i k:Nat} (hR:Jo w0 F c vc vt) (hc:jX c=true) (hi:i<c.tn.length) (hk:k<c.cl.length):
  Call Tryz.prog w0 166 [.int .i64 (k:Nat), .pointer (some ⟨b1,0,none⟩), .pointer (some ⟨b2,0,none⟩)] ((b1,cells (jT c vc vt) 25)::(b2,cells [.int .i64 (i:Nat)] 3)::F)
   (fun r H'=>r= .int .i64 (pwP c (i:Nat) k)∧H'=(b1,cells (jT c vc vt) 25)::(b2,cells [.int .i64 (i:Nat)] 3)::F):=by
 have hth:=jb4 hc hi hk
 have hc0:=fun A (hp:Part A F)=>Pages_K (t:=(i:Nat)) (k:=(k:Nat)) (hR.part hp)
 have hpl:=jhA hth
 have hpw:=pw_le hth
 have hok:=ja2 hc
 have e1:pwP c (i:Nat) k=(pagesP c (i:Nat) (k:Nat)).1*c.page:=rfl
 rw[e1] at hpw⊢
 obtain⟨p,hp⟩: ∃ p,p=(pagesP c (i:Nat) (k:Nat)):=⟨_,rfl⟩
 rw[←hp] at hc0 hpl hpw⊢
 obtain⟨p1,p2⟩:=p
 obtain⟨hS,hT',o1,o2,l1,l2⟩:=hR
 obtain⟨cl,page,tn,workers,grey,gens⟩:=c
 dsimp only at hS hT' l1 l2 hpl hpw hc0⊢
 obtain⟨_,_,rfl⟩:=hpl
 simp only[jw,jT,prV] at hc0⊢;refine Call.enter3 (n:=18) (by kernel_rfl) Tryz.func166 rfl rfl rfl ?_;refine z7 ?_;refine z3 ?_;refine zdu ?_;refine zbJ ?_;refine zcZ ?_;refine zF ?_;refine ziM ?_;exact zt
set_option maxRecDepth 10000
section
variable {w0 : World} {F : jb} {B : BoM} {x : List Int} {s : Nat} {y : jg}
theorem zero_ok {m:Js} {t:Nat} {p:jg} (okm:jau m) (hr:m.R[t]?=some x) (hl:p.addr+p.size≤x.length):jau (jaf m t (JU x p)):=putM_ok okm hr (jcR hl)
theorem bWipe_K (ok:jag B x) (hy:B.p.g.L[s]?=some y):
  Call Tryz.prog w0 176 [.pointer (some ⟨B.b,0,none⟩), .int .i64 (s:Nat)] (jR B++(jv B.m++(planH B.p++F))) (fun r H'=>r= .int .i64 0∧H'=jR B++(jv (jaf B.m B.t (JU x y))++(planH B.p++F))):=by
 have okm:=ok.m
 have hr:=ok.r
 obtain⟨f1,f2,_⟩:=ok.p.g.fits hy
 have hz:=ji9 (p:=y) hr
 refine Call.enter2 (n:=29) (by rfl) Tryz.func176 rfl rfl rfl ?_;refine zck ?_;refine zgy ?_;rw[jaX];refine za9 ?_;refine zdB ?_;refine zbU ?_;refine K.drawn [] [(0,0),(1,0),(2,0),(3,0),(4,0),(5,0),(6,0),(7,0),(8,0),(9,0),(10,2),(11,0)] (by rfl) (by rfl) (by kernel_rfl) (by rfl) (by rfl) (by rfl) Part.nil ?_;refine zb4 ?_;refine zeZ ?_;refine zbf ?_;refine zl fun T hT=>?_;refine(CallV.part (CallV.fn (Zero_K (n:=y.size) okm hr (by omega) (by rw[ok.n];omega))) ja).mono ?_;rintro _ _ ⟨rfl,rfl⟩;rw[hz];refine zg ?_;clear hT T;refine zaV ?_;exact zlF
theorem Make_K {h:HdP} (hG:js w0) (ok:jag B x) (hy:B.p.g.L[s]?=some y):
  Call Tryz.prog w0 184 [.pointer (some ⟨B.b,0,none⟩), .int .i64 (s:Nat),hdV h] (jR B++(jv B.m++(planH B.p++F))) (fun r H'=>r= .int .i64 (makeP x y h).1∧H'=jR B++(jv (jaf B.m B.t (makeP x y h).2)++(planH B.p++F))):=by
 have okm:=ok.m
 have hr:=ok.r
 obtain⟨f1,f2,_⟩:=ok.p.g.fits hy
 have hz:=ji9 (p:=y) hr
 have hself:=jfr hr
 have hput:=fun A (hm:Jd h=true)=>Put_K (w0:=w0) (H:=A) hG hm
 have hlies:=fun A=>lies_K (w0:=w0) (F:=A) (h:=h) ok hy
 have hmk:makeP x y h=if jad y h then(if (headP x y).isSome then(8,x) else(0,(JU x y).set y.addr (putW h))) else(2,x):=rfl
 have hpw:putW h=(putN h.c.toNat h.r.toNat h.w.toNat:Nat):=rfl
 have hlm:=fun e=>(jaD (p:=y) (h:=h) e).1
 obtain⟨pw,hpw'⟩: ∃ pw,pw=putW h:=⟨_,rfl⟩
 rw[←hpw'] at hmk hpw;simp only[←hpw] at hput
 obtain⟨mk,hmk'⟩: ∃ mk,mk=makeP x y h:=⟨_,rfl⟩
 rw[←hmk'] at hmk⊢
 obtain⟨li,hli⟩: ∃ li,li=jad y h:=⟨_,rfl⟩
 rw[←hli] at hmk hlm;simp only[←hli] at hlies
 obtain⟨c,r,w⟩:=h
 unfold hdV at*;dsimp only at*;clear hpw hpw' hmk' hli;refine Call.enter3 (n:=65) (by rfl) Tryz.func184 rfl rfl rfl ?_;refine zcN ?_;intro b5;refine zat ?_;refine zgy ?_;refine za9 ?_;refine zdB ?_;refine z9 ?_;refine zm ?_;refine ze ?_;refine zc2 fun T hT=>?_;refine(CallV.part (CallV.fn (hlies _)) ja).mono ?_;rintro _ _ ⟨rfl,rfl⟩
 cases li with
 |false=>
  refine zd ?_;clear hT T;simp only[Bool.false_eq_true,if_false] at hmk;rw[hmk];dsimp only;rw[hself];refine zU ?_;exact zdv
 |true=>
  simp only[if_true] at hmk;refine zd ?_;clear hT T;refine zE ?_;refine z9 ?_;refine zaC fun T hT=>?_;refine(CallV.part (CallV.fn (jdO hG ok hy)) ja).mono ?_;rintro _ _ ⟨rfl,rfl⟩;unfold headV
  cases hh:headP x y with
  |some h'=>
   rw[hh] at hmk;simp only[Option.isSome,if_true] at hmk;dsimp only
   obtain⟨c',r',w'⟩:=h'
   unfold hdV;dsimp only;refine zd ?_;clear hT T;rw[hmk];dsimp only;rw[hself];refine zaX ?_;intro b10;refine zcA ?_;refine zJ ?_;exact zdv
  |none=>
   rw[hh] at hmk;simp only[Option.isSome,Bool.false_eq_true,if_false] at hmk;dsimp only;unfold hdV;dsimp only;refine zd ?_;clear hT T;refine zaX ?_;intro b10;refine zcA ?_;refine zG ?_;refine zz ?_;refine zbx ?_;refine jq (hput _ (hlm rfl)) ?_;rw[jaX];refine zcw ?_;refine zcK ?_;refine K.drawn [] [(0,0),(1,0),(2,0),(3,0),(4,0),(5,0),(6,0),(7,0),(8,0),(9,0),(10,2)] (by kernel_rfl) (by kernel_rfl) (by kernel_rfl) (by kernel_rfl) (by kernel_rfl) (by kernel_rfl) Part.nil ?_;refine zb4 ?_;refine zeZ ?_;refine zbf ?_;refine zl fun T hT=>?_;refine(CallV.part (CallV.fn (Zero_K (n:=y.size) okm hr (by omega) (by rw[ok.n];omega))) ja).mono ?_;rintro _ _ ⟨rfl,rfl⟩;rw[hz];refine zg ?_;clear hT T;refine zD ?_;refine za1 ?_;refine K.drawn [] [(0,0),(1,0),(2,0),(3,0),(4,0),(5,0),(6,0),(7,0),(8,0),(9,0),(10,2),(11,0)] (by kernel_rfl) (by kernel_rfl) (by kernel_rfl) (by kernel_rfl) (by kernel_rfl) (by kernel_rfl) Part.nil ?_;refine zb4 ?_;refine zeZ ?_;refine zbf ?_;refine zl fun T hT=>?_;refine(CallV.part (CallV.fn (Store_K (t:=B.t) (a:=y.addr) (x:=JU x y) (w:=pw) (zero_ok okm hr (by rw[ok.n];omega)) (putM_R hr) (by rw[jcR (by rw[ok.n];omega),ok.n];omega))) ja).mono ?_;rintro _ _ ⟨rfl,rfl⟩;rw[jj9 (putM_R hr),jke];refine zg ?_;clear hT T;rw[hmk];dsimp only;refine zaV ?_;exact zlF
end
open Go.RowKit
set_option maxRecDepth 10000
section
variable {g : PlG} {long nw : Nat} {s s' : CyP}
theorem goes_cy (ok:jc g) (h:CyPre g long s):jr g long (Jb g s):=by
 have hsl:=ok.slots
 unfold Jb
 split
 ·rename_i h1
  obtain⟨a,b,c,d⟩:=h.p1 h1.1
  rw[if_neg (by omega)];exact⟨⟨h.w,h.rf,h.m,h.i,h.A,h.D,fun e=>(by grind),fun e=>(by grind),fun _=>⟨a,rfl,by grind⟩,fun e=>(by grind),by grind,fun _ t=>jkG h1.2 t⟩,fun _=>by grind,fun e=>(by grind)⟩
 ·rename_i h1
  split
  ·rename_i h2
   obtain⟨a,b,c⟩:=h.p2 h2.1
   exact⟨⟨h.w,h.rf,h.m,h.i,h.A,h.D,fun e=>(by grind),fun e=>(by grind),fun e=>(by grind),fun _=>⟨a,b,h2.2⟩,by grind,fun _=>h.dn (by omega)⟩,fun e=>(by grind),fun e=>(by grind)⟩
  ·rename_i h2
   refine⟨h,fun e=>?_,fun e=>?_⟩
   ·have:=(h.p2 e).2.2
    omega
   grind
theorem jef (ok:jc g) (h:CyPre g long s):jr g long (madeC g s):=
 goes_cy ok ⟨h.w,h.rf,h.m,h.i,h.A,h.D,h.p0,h.p1,h.p2,h.p3,h.ph,h.dn⟩
theorem wipe_rf (ok:jc g) {x:List Int} (hx:x.length=g.words) (h:ja6 g x) {t:Nat} {y:jg} (hy:g.L[t]?=some y):ja6 g (JU x y):=fun q z hz j hj=>by
 have f1:=ok.fits hy
 have f2:=ok.fits hz
 have h1:=JQ hj
 by_cases e:t=q
 ·grind[ja8]
 ·have:=ok.apart hy hz e
  rw[jcQ (x:=x) (by grind[ja8])] at hj;rw[ja8 (by omega),if_neg (by omega)];exact h q z hz j hj
theorem CyPre.wipe (ok:jc g) (h:CyPre g long s) (h2:s.ph=2) {t:Nat} (ht:t<g.slots):JX g {s.W with x:=JU s.W.x (ju g (t:Nat))}∧ja6 g (JU s.W.x (ju g (t:Nat)))∧jG g long {s.W with x:=JU s.W.x (ju g (t:Nat))} s.m:=by
 obtain⟨y,hy⟩:=jY ht
 rw[jC hy]
 have hf:=ok.fits hy
 have hx:=h.w.x
 refine⟨⟨(jcR (by omega)).trans hx,JW.cleared h.w.w,h.w.N,h.w.n,h.w.t⟩,wipe_rf ok hx h.rf hy,⟨h.m.C,h.m.c,h.m.G,h.m.hs,fun k q hk=>?_,h.m.root⟩⟩
 rcases h.m.h k q hk with⟨e1,e2,e3,_⟩|e
 ·exact absurd (.inr (.inr ⟨k,q,hk,e1,by omega⟩)) (h.dn (by omega) q.slot.toNat)
 grind
theorem jcu (ok:jc g) (h:jr g long s) (h2:s.ph=2) (hs:sweepC g s=some s'):CyPre g long s'∧s'.ph=2∧s'.at_=s.at_+1∧s'.m=s.m∧s'.A=s.A∧s'.W.T=s.W.T∧s'.W.N=s.W.N∧s'.st=s.st:=by
 have hlt:=h.lt h2
 obtain⟨a,b,_⟩:=h.p2 h2
 unfold sweepC at hs;rw[if_pos ⟨b,hlt⟩] at hs
 have hdn:=h.dn (by omega)
 split at hs
 ·cases hs
  obtain⟨w1,w2,w3⟩:=h.toCyPre.wipe ok h2 hlt
  exact⟨⟨w1,w2,w3,h.i,h.A,by rw[List.length_set];exact h.D,fun e=>(by grind),fun e=>(by grind),fun _=>⟨a,b,hlt⟩,fun e=>(by grind),by grind,fun _=>hdn⟩,h2,rfl,rfl,rfl,rfl,rfl,rfl⟩
 ·cases hs
  exact⟨⟨h.w,h.rf,h.m,h.i,h.A,h.D,fun e=>(by grind),fun e=>(by grind),fun _=>⟨a,b,hlt⟩,fun e=>(by grind),by grind,fun _=>hdn⟩,h2,rfl,rfl,rfl,rfl,rfl,rfl⟩
theorem jdz (ok:jc g) (h:jr g long s) (h1:s.ph=1) {m':MaP} {k u:Int} (hm:j1 g long s.W s.m k u=some m'):CyPre g long {s with m:=m'}:=by
 obtain⟨a,b,c,d⟩:=h.p1 h1
 obtain⟨z1,_,_,z4,_⟩:=jec ok h.m hm
 have z5:=jfF ok h.m h.w h.i hm
 exact⟨h.w,h.rf,z1,z5.i,h.A,h.D,fun e=>(by grind),fun _=>⟨z4.trans a,b,c,d⟩,fun e=>(by grind),fun e=>(by grind),h.ph,fun e=>absurd (show 2≤s.ph from e) (by omega)⟩
theorem jla (ok:jc g) (h:jr g long s) {k u:Int} (hs:stepC g long nw s k u=some s'):jr g long s':=by
 unfold stepC at hs
 split at hs
 ·rename_i h1
  cases hm:j1 g long s.W s.m k u with
  |none=>grind
  |some m'=>grind[jef,jdz,h1]
 grind[sweepC,h2,jef,jcu]
theorem jf6 (ok:jc g) (h:jr g long s) (hs:jZ g long s=some s'):jr g long s':=by
 unfold jZ at hs
 split at hs
 ·rename_i h1
  cases hm:jae g long s.W s.m with
  |none=>grind
  |some m'=>
   grind[jdk,jef,jdz,h1]
 grind[sweepC,h2,jef,jcu]
theorem jhP (ok:jc g) (hl:1≤long) (h:jr g long s) (h0:s.ph=0):jr g long (beginC g s):=by
 obtain⟨a,b,c,d⟩:=h.p0 h0
 have h9:=h.m.hs
 have hsl:=ok.slots
 refine⟨⟨h.w,h.rf,new_ok hl (by omega),new_in,h.A,h.D,fun e=>(by cases e),fun _=>⟨rfl,b,c,d⟩,fun e=>(by cases e),fun e=>(by cases e),by show 1≤3;decide,fun e=>absurd (show 2≤1 from e) (by decide)⟩,fun e=>(by cases e),fun _=>?_⟩
 show JV g s.W (J5 g _ true)=false
 grind[JV,J5]
end
open Go.RowKit
set_option maxRecDepth 10000
section
variable {g : PlG} {long nw : Nat} {s s' : CyP} {W W' : MwP} {m : MaP} {sl r i to : Int}
theorem actW_make (hin:inS g sl):JI g W ⟨0,sl,0,0,r,0⟩={W with x:=(makeP W.x (ju g sl) (hdM (ju g sl) r)).2}:=by
 grind[JI]
theorem jkU (hin:inS g sl) (h0:(refP W.x g.slots (ju g sl) i).2=0):JI g W ⟨2,sl,i,to,0,0⟩={W with x:=(Jl W.x g.slots (ju g sl) i to).2}:=by
 unfold JI;dsimp only;rw [if_neg (by decide),if_pos (by decide),if_pos ⟨hin,h0⟩]
theorem jdm (hin:inS g sl):JI g W ⟨4,sl,0,0,0,0⟩={W with T:=jK W.T sl}:=by
 grind[JI]
theorem jfB:JI g W ⟨5,0,i,0,0,0⟩={W with T:=Jm W.T i}:=by
 rfl
theorem jkV (hin:inS g sl):JI g W ⟨6,sl,0,0,0,0⟩={W with N:=JA W.N sl.toNat}:=by
 grind[JI]
theorem jey (hin:inS g sl):JI g W ⟨7,sl,0,0,0,0⟩={W with N:=J0 W.N sl.toNat}:=by
 grind[JI]
theorem J8 (hW:JX g W) {n:Int} (h:slotT W.T n=some sl):inS g sl:=by
 unfold slotT at h
 split at h
 ·split at h
  ·rename_i e he
   split at h
   ·rename_i h1
    cases h
    exact hW.t e (List.mem_of_getElem? he) h1
   grind
  grind
 grind
theorem makes_cy (ok:jc g) (h:jr g long s) {a:jaB}:jr g long (makesC g s a):=by
 unfold makesC
 split
 ·rename_i hc
  obtain⟨k,j,_,_,hf,ht,_⟩:=jdh hc.1
  obtain⟨_,_,h3,_⟩:=jcP hf
  have hl:=jx h3
  rw[h.A] at hl;rw[ht]
  have hin:inS g (j:Nat):=⟨by omega,by omega⟩
  have h1:=(h.world ok (a:=⟨4,(j:Nat),0,0,0,0⟩)).world ok (a:=⟨0,(j:Nat),0,0,a.i,0⟩)
  rw[jdm hin,actW_make hin] at h1;exact(h1.black _).take (by grind)
 omega
theorem Jh (t:Int):(shdC g long s t).W=s.W:=by grind[shdC]
theorem jb6 (t:Int):(jM g long s t).W=s.W:=by
 grind[jM,Jh]
theorem jld (ok:jc g) (h:jr g long s) (t:Int):jr g long (jM g long s t):=by
 unfold jM;split
 ·exact h.shd ok t
 omega
theorem put_cy (ok:jc g) (h:jr g long s) (hin:inS g sl) (h0:(refP s.W.x g.slots (ju g sl) i).2=0) (to:Int):jr g long (jbZ g s sl i to):=by
 have h1:=h.world ok (a:=⟨2,sl,i,to,0,0⟩)
 rw[jkU hin h0] at h1;exact h1
theorem sets_cy (ok:jc g) (h:jr g long s) {a:jaB}:jr g long (jaU g long s a):=by
 unfold jaU
 split
 ·omega
 ·rename_i sl hs
  have hin:=J8 h.w hs
  grind[put_cy,jld,jb6]
theorem jim (ok:jc g) (h:jr g long s) {a:jaB}:jr g long (doesC g long s a):=by
 unfold doesC
 split
 ·grind[makes_cy]
 ·split
  ·grind[sets_cy]
  ·split
   ·omega
   ·rename_i sl hs
    have hin:=J8 h.w hs
    split
    ·have h1:=(h.shd ok sl).world ok (a:=⟨5,0,a.n,0,0,0⟩)
     rwa[jfB] at h1
    ·split
     ·have h1:=h.world ok (a:=⟨6,sl,0,0,0,0⟩)
      grind[jkV,h1]
     ·have h1:=(h.shd ok sl).world ok (a:=⟨7,sl,0,0,0,0⟩)
      grind[jey,h1]
theorem recy_live {gens:Int} {e:jh} (h:(jaz gens e).st=1):jaz gens e=e:=by
 grind[jaz]
theorem jfi (h:jr g long s) (h3:s.ph=3) (gens:Int):jr g long (publishC g gens s):=by
 refine⟨⟨⟨h.w.x,h.w.w,h.w.N,h.w.n,fun e he h1=>?_⟩,h.rf,⟨h.m.C,h.m.c,h.m.G,h.m.hs,h.m.h,by show s.m.root≤(Ji gens s.W.T).length+_;unfold Ji;rw [List.length_map];exact h.m.root⟩,⟨h.i.grey,h.i.lst⟩,(jlE _ _).trans h.A,List.length_replicate ..,fun _=>⟨rfl,rfl,rfl,rfl⟩,fun e=>(by cases e),fun e=>(by cases e),fun e=>(by cases e),by show 0≤3;decide,fun e=>absurd (show 2≤0 from e) (by decide)⟩,fun e=>(by cases e),fun e=>(by rfl)⟩
 have he':e∈s.W.T.map (jaz gens):=he
 obtain⟨q,hq,rfl⟩:=List.mem_map.1 he'
 have e:=recy_live h1
 rw[e] at h1⊢;exact h.w.t q hq h1
end
open Go.RowKit
set_option maxRecDepth 10000
structure JY (g:PlG) (s:CyP):Prop where
 m:s.m.steps+jS g s.W s.m≤100000000
 s:s.st+Jj g s≤100000000
section
variable {g : PlG} {long nw : Nat} {s s' : CyP}
theorem goes_left:(Jb g s).m.steps+jS g (Jb g s).W (Jb g s).m=s.m.steps+jS g s.W s.m:=by
 grind[jcO]
theorem jfs:(madeC g s).m.steps+jS g (madeC g s).W (madeC g s).m=s.m.steps+jS g s.W s.m:=goes_left (s:={s with st:=s.st+1})
theorem jiW (h:sweepC g s=some s'):s'.m.steps+jS g s'.W s'.m=s.m.steps+jS g s.W s.m:=by
 grind[sweepC,JU,ju,jgM]
theorem JY.step (ok:jc g) (hi:jr g long s) (h:JY g s) {k u:Int} (hs:stepC g long nw s k u=some s'):JY g s':=by
 refine⟨?_,Nat.le_trans (jj4 ok hi hs) h.s⟩
 have h1:=h.m
 unfold stepC at hs
 split at hs
 ·cases hm:j1 g long s.W s.m k u with
  |none=>grind
  |some m'=>
   rw[hm] at hs;cases hs;rw[jfs]
   obtain⟨_,h2,h3,_⟩:=jec ok hi.m hm
   grind
 grind[sweepC,s,jfs,jiW,h1]
theorem JY.help (ok:jc g) (hi:jr g long s) (h:JY g s) (hs:jZ g long s=some s'):JY g s':=by
 refine⟨?_,Nat.le_trans (jkA ok hi hs) h.s⟩
 have h1:=h.m
 unfold jZ at hs
 split at hs
 ·cases hm:jae g long s.W s.m with
  |none=>grind
  |some m'=>
   rw[hm] at hs;cases hs;rw[jfs]
   obtain⟨k,u,hk⟩:=jdk hm
   obtain⟨_,h2,h3,_⟩:=jec ok hi.m hk
   grind
 grind[sweepC,s,jfs,jiW,h1]
theorem JY.begin (ok:jc g) (hT:s.W.T.length≤1024):JY g (beginC g s):=by
 have h1:=jjO (s:=s) ok
 have h2:=ok.words
 have h3:=ok.slots
 refine⟨?_,by omega⟩
 have:=jgG (W:=s.W) ok (s.m.hs.length-1)
 show 0+jS g s.W (je3 g s.m)≤_
 grind[je3]
theorem JY.publish (h:JY g s) (gens:Int):JY g (publishC g gens s):=by
 have h1:=h.m
 have h2:=h.s
 refine⟨?_,?_⟩
 ·show s.m.steps+jS g {s.W with T:=Ji gens s.W.T} {s.m with act:=false}≤_
  grind[jS,Ji]
 ·show s.st+0≤_;omega
theorem mes_m {m':MaP} (h:jS g s.W m'≤jS g s.W s.m):Jj g {s with m:=m'}≤Jj g s:=by
 grind[Jj]
theorem mes_W {W':MwP} (h:W'.T.length=s.W.T.length):Jj g {s with W:=W'}=Jj g s:=by
 grind[Jj,jgM]
theorem JY.shd (ok:jc g) (hi:jr g long s) (h:JY g s) (t:Int):JY g (shdC g long s t):=by
 unfold shdC
 split
 ·have h1:=h.m
  have h2:=h.s
  have h3:=jgX ok hi.m t
  have h4:=(jeT (g:=g) (long:=long) (m:=s.m) t).2.2.2
  have h5:=mes_m (s:=s) h3
  exact⟨by grind,by grind⟩
 omega
theorem jgR (hm:jG g long s.W s.m) (t:Nat):jS g s.W (Jt s.m t)≤jS g s.W s.m:=by
 obtain⟨a,b,c,d,e⟩:=jex s.m t
 unfold jS;rw[a,b,c];refine Nat.add_le_add_right ?_ _;unfold Jt
 split
 ·by_cases ht:t<g.slots
  ·grind[jhY]
  ·dsimp only;rw[List.set_eq_of_length_le (by rw[hm.C];omega)]
   omega
 omega
theorem JY.black (hi:jr g long s) (h:JY g s) (t:Nat):JY g {s with m:=Jt s.m t}:=by
 have h1:=h.m
 have h2:=h.s
 have h3:=jgR hi.m t
 have h4:=(jex s.m t).2.2.2.2
 have h5:=mes_m (s:=s) h3
 exact⟨by grind,by grind⟩
theorem JY.world (h:JY g s) {W':MwP} (hT:W'.T.length=s.W.T.length):JY g {s with W:=W'}:=by
 have h1:=h.m
 have h2:=h.s
 exact⟨by grind[jgM,h1],by grind[mes_W,h2]⟩
end
open Go.RowKit
set_option maxRecDepth 10000
def jJ (g:PlG) (x x':List Int) (t:Nat):Prop:= ∀ y,g.L[t]?=some y→ ∀ j,j<y.size→wAt x' (y.addr+j)=wAt x (y.addr+j)
def jbt (g:PlG) (x:List Int) (t:Nat):Prop:= ∀ y,g.L[t]?=some y→ ∀ j,j<y.size→wAt x (y.addr+j)=0
section
variable {g : PlG} {x x' x'' : List Int} {s t : Nat} {y : jg}
theorem jJ.refl:jJ g x x t:=fun _ _ _ _=>rfl
theorem jJ.trans (h:jJ g x x' t) (h':jJ g x' x'' t):jJ g x x'' t:=fun y hy j hj=>(h' y hy j hj).trans (h y hy j hj)
theorem jJ.zero (h:jJ g x x' t) (hz:jbt g x t):jbt g x' t:=fun y hy j hj=>(h y hy j hj).trans (hz y hy j hj)
theorem jfk (ok:jc g) (hx:x.length=g.words) (hy:g.L[s]?=some y) (h:s≠t):jJ g x (JU x y) t:=fun z hz j hj=>by
 have:=ok.apart hy hz h
 have f:=ok.fits hy
 grind[ja8]
theorem jjb (ok:jc g) (hx:x.length=g.words) (hy:g.L[s]?=some y):jbt g (JU x y) s:=fun z hz j hj=>by
 have f:=ok.fits hy
 grind[ja8]
theorem jcM (ok:jc g) (hx:x.length=g.words) (hy:g.L[s]?=some y) (hd:HdP) (h:s≠t):jJ g x (makeP x y hd).2 t:=fun z hz j hj=>by
 have f1:=ok.fits hy
 have:=ok.apart hy hz h
 grind[makeP,jaj,ja8]
theorem jfe (ok:jc g) (hy:g.L[s]?=some y) {i v:Int} (h:s≠t):jJ g x (Jl x g.slots y i v).2 t:=fun z hz j hj=>by
 have f1:=ok.fits hy
 have:=ok.apart hy hz h
 unfold Jl
 split
 ·rfl
 ·split
  ·rename_i hf
   have:=JQ hf
   grind[jaj]
  ·rfl
theorem jkc (h: ¬t<g.slots) {i:Int}:refO g x (t:Nat) i=none:=by
 cases hr:refO g x (t:Nat) i with
 |none=>rfl
 |some v=>exact absurd (jeD hr).1 h
theorem jbA (ok:jc g) (h:jJ g x x' t) {i:Int}:refO g x' (t:Nat) i=refO g x (t:Nat) i:=by
 by_cases ht:t<g.slots
 ·obtain⟨z,hz⟩:=jY ht
  have hf:=ok.fits hz
  have e:=jC hz
  have h0:wAt x' z.addr=wAt x z.addr:=h z hz 0 (by omega)
  by_cases hfl:fldP x z true i=0
  ·have hin:=JQ hfl
   obtain⟨j,hj⟩: ∃ j,fAt z i=z.addr+j:=⟨fAt z i-z.addr,by omega⟩
   refine jgJ (by grind) ?_;rw[e,hj];exact h z hz j (by omega)
  grind[fldP,refO,refP,jcQ]
 grind[jkc]
theorem jfp (ok:jc g) (h: ∀ y,g.L[t]?=some y→ ∀ j,1≤j→j<y.size→wAt x (y.addr+j)=0) {i:Int}:refO g x (t:Nat) i=none:=by
 cases hr:refO g x (t:Nat) i with
 |none=>rfl
 |some v=>
  obtain⟨ht,hf⟩:=jeD hr
  obtain⟨z,hz⟩:=jY ht
  have e:=jC hz
  rw[e] at hf
  have hin:=JQ hf
  obtain⟨j,hj⟩: ∃ j,fAt z i=z.addr+j:=⟨fAt z i-z.addr,by omega⟩
  grind[refO,refP]
theorem jbt.refO (ok:jc g) (h:jbt g x t) {i:Int}:refO g x (t:Nat) i=none:=jfp ok fun y hy j _ hj=>h y hy j hj
theorem jha (ok:jc g) (hx:x.length=g.words) (hy:g.L[s]?=some y) {hd:HdP} {i u:Int} (h:refO g (makeP x y hd).2 (t:Nat) i=some u):refO g x (t:Nat) i=some u:=by
 by_cases e:s=t
 ·subst e;unfold makeP at h
  split at h
  ·split at h
   ·omega
   ·have f1:=ok.fits hy
    grind[jfp,h1,jaj,ja8]
  omega
 grind[jbA,jcM]
theorem jmD (ok:jc g) (hx:x.length=g.words) (hy:g.L[s]?=some y) {i u:Int} (h:refO g (JU x y) (t:Nat) i=some u):refO g x (t:Nat) i=some u:=by
 by_cases e:s=t
 ·subst e;rw [(jjb ok hx hy).refO ok] at h;grind
 grind[jbA,jfk]
theorem set_refN (ok:jc g) (hx:x.length=g.words) (hy:g.L[s]?=some y) {i0 v i u:Int} (h:refO g (Jl x g.slots y i0 v).2 (t:Nat) i=some u):refO g x (t:Nat) i=some u∨(t=s∧u=v):=by
 grind[f1,Jl,wAt,fAt,hi,refP,refO,jC,JQ,jeD,jaj,jcQ,jd4,jgJ,jbA,jfe]
end
section
variable {g : PlG} {W : MwP} {P Q : Nat → Prop} {x' : List Int}
theorem jlT {n sl:Int} (h:slotT W.T n=some sl): ∃ r,r<W.T.length∧jP g W r=some sl:=by
 grind[slotT,jP]
theorem Cls.slot (h:Cls g W P) {n:Int} {s:Nat} (hs:slotT W.T n=some (s:Nat)):P s:=by
 obtain⟨r,h1,h2⟩:=jlT (g:=g) hs
 exact h.root (by omega) h2
theorem Cls.iff (h:Cls g W P) (hq: ∀ t,P t↔Q t):Cls g W Q:=⟨fun a b=>(hq _).1 (h.root a b),fun a b=>(hq _).1 (h.edge ((hq _).2 a) b)⟩
theorem jlA {W':MwP} (hl:W'.T.length=W.T.length) (hN:W'.N=W.N) (hT: ∀ (r:Nat) (e:jh),W'.T[r]?=some e→e.st=1→ ∃ e',W.T[r]?=some e'∧e'.st=1∧e'.slot=e.slot) {r:Nat} {s:Int} (h:jP g W' r=some s):jP g W r=some s:=by
 grind[jP]
theorem root_mint {sl:Int} {r:Nat} {s:Int} (h:jP g {W with T:=jK W.T sl} r=some s):jP g W r=some s∨s=sl:=by
 grind[jP,jK]
theorem root_drop {i:Int} {r:Nat} {s:Int} (h:jP g {W with T:=Jm W.T i} r=some s):jP g W r=some s:=by
 refine jlA (W':={W with T:=Jm W.T i}) jd1 rfl (fun r e he h1=>?_) h
 grind[drop_at,h2,h1]
theorem root_pin {sl r:Nat} {s:Int} (h:jP g {W with N:=JA W.N sl} r=some s):jP g W r=some s∨s=(sl:Nat):=by
 grind[jP,JA]
theorem jlY {sl r:Nat} {s:Int} (h:jP g {W with N:=J0 W.N sl} r=some s):jP g W r=some s:=by
 grind[jP,J0]
theorem jjl {gens:Int} {r:Nat}:jP g {W with T:=Ji gens W.T} r=jP g W r:=by
 grind[jP,Ji,jaz]
theorem Cls.words (h:Cls g W P) (hr: ∀ {s t:Nat} {i:Int},P s→refO g x' (s:Nat) i=some (t:Nat)→P t):Cls g {W with x:=x'} P:=⟨h.root,hr⟩
theorem Cls.recy (h:Cls g W P) (gens:Int):Cls g {W with T:=Ji gens W.T} P:=
 ⟨fun a b=>by
  rw[jjl] at b
  exact h.root (by grind[Ji]) b,h.edge⟩
theorem Cls.drop (h:Cls g W P) (i:Int):Cls g {W with T:=Jm W.T i} P:=⟨fun a b=>h.root (by grind[jd1]) (root_drop b),h.edge⟩
theorem Cls.unpin (h:Cls g W P) (sl:Nat):Cls g {W with N:=J0 W.N sl} P:=⟨fun a b=>h.root a (jlY b),h.edge⟩
theorem Cls.pin (h:Cls g W P) {sl:Nat} (hs:P sl):Cls g {W with N:=JA W.N sl} P:=⟨fun a b=>by
  rcases root_pin b with c|c
  ·exact h.root a c
  grind,h.edge⟩
theorem Cls.mint (h:Cls g W P) {sl:Nat} (hs:P sl):Cls g {W with T:=jK W.T (sl:Nat)} P:=⟨fun a b=>by
  rcases root_mint b with c|c
  ·exact h.root (by grind[jbB]) c
  grind,h.edge⟩
theorem Cls.wipe (ok:jc g) (hx:W.x.length=g.words) (h:Cls g W P) {s:Nat} {y:jg} (hy:g.L[s]?=some y):Cls g {W with x:=JU W.x y} P:=h.words fun a b=>h.edge a (jmD ok hx hy b)
theorem Cls.set (ok:jc g) (hx:W.x.length=g.words) (h:Cls g W P) {s:Nat} {y:jg} (hy:g.L[s]?=some y) {i v:Int} (hv: ∀ u:Nat,v=(u:Nat)→P u):Cls g {W with x:=(Jl W.x g.slots y i v).2} P:=h.words fun{a t} {k} ha b=>by
 rcases set_refN ok hx hy b with c|⟨_,c⟩
 ·exact h.edge ha c
 grind
theorem Cls.make (ok:jc g) (hx:W.x.length=g.words) (h:Cls g W P) {s:Nat} {y:jg} (hy:g.L[s]?=some y) {hd:HdP}:Cls g {W with x:=(makeP W.x y hd).2} P:=h.words fun a b=>h.edge a (jha ok hx hy b)
theorem Cls.new (ok:jc g) (h:Cls g W P) {j:Nat} (hz:jbt g W.x j):Cls g W (fun t=>P t∨t=j):=
 ⟨fun a b=> .inl (h.root a b),fun a b=>by
  rcases a with a|rfl
  ·exact .inl (h.edge a b)
  ·rw[hz.refO ok] at b;grind⟩
end
open Go.RowKit
set_option maxRecDepth 10000
structure CyT (g:PlG) (s:CyP):Prop where
 tk:Cls g s.W (fun t=>s.A[t]?=some true)
 zr: ∀ t:Nat,s.A[t]?=some false→jbt g s.W.x t
def NwP (S0:Nat→Prop) (A0 A:List Bool) (t:Nat):Prop:=S0 t∨(A[t]?=some true∧A0[t]?=some false)
structure CyI (g:PlG) (S0:Nat→Prop) (A0:List Bool) (s:CyP):Prop where
 len:A0.length=s.A.length
 sA: ∀ t:Nat,S0 t→A0[t]?=some true
 up: ∀ t:Nat,A0[t]?=some true→s.A[t]?=some true
 cl:Cls g s.W (NwP S0 A0 s.A)
 nP:jbu (NwP S0 A0 s.A) s.m
 nw: ∀ t:Nat,s.A[t]?=some true→A0[t]?=some false→NW s.m t
 p1:s.ph=1→ ∀ t,S0 t→Prot g s.W s.m t
 p2:2≤s.ph→ ∀ t,S0 t→NW s.m t
 D: ∀ t:Nat,s.D[t]?=some true↔(2≤s.ph∧t<s.at_∧A0[t]?=some true∧ ¬S0 t)
 zr: ∀ t:Nat,s.A[t]?=some false→jbt g s.W.x t
 dz: ∀ t:Nat,s.D[t]?=some true→jbt g s.W.x t
theorem bit_some {l:List Bool} {t:Nat} (h:t<l.length):l[t]?=some true∨l[t]?=some false:=by
 simp_all
section
variable {g : PlG} {long nw : Nat} {s s' : CyP} {S0 : Nat → Prop} {A0 : List Bool} {P : Nat → Prop}
theorem CyI.pA (h:CyI g S0 A0 s) {t:Nat} (hp:NwP S0 A0 s.A t):s.A[t]?=some true:=by
 rcases hp with a|a
 ·exact h.up t (h.sA t a)
 grind
theorem CyI.mark (ok:jc g) (h:jr g long s) (hI:CyI g S0 A0 s) (h1:s.ph=1) {m':MaP} {k u:Int} (hm:j1 g long s.W s.m k u=some m'):CyI g S0 A0 {s with m:=m'}:=by
 have z5:=jfF ok h.m h.w h.i hm
 exact⟨hI.len,hI.sA,hI.up,hI.cl,z5.o _ hI.cl hI.nP,fun t a b=>z5.k.nw t (hI.nw t a b),fun _ t ht=>(hI.p1 h1 t ht).keep z5.k,fun e=>absurd (show 2≤s.ph from e) (by omega),hI.D,hI.zr,hI.dz⟩
theorem CyI.goes (h:CyPre g long s) (hI:CyI g S0 A0 s):CyI g S0 A0 (Jb g s):=by
 unfold Jb
 split
 ·rename_i h1
  obtain⟨a,b,c,d⟩:=h.p1 h1.1
  refine⟨hI.len,hI.sA,hI.up,hI.cl,hI.nP,hI.nw,fun e=>?_,fun _ t ht=>done_prot h1.2 (hI.p1 h1.1 t ht),fun t=>?_,hI.zr,hI.dz⟩
  ·grind
  grind
 ·split
  ·rename_i h2
   refine⟨hI.len,hI.sA,hI.up,hI.cl,hI.nP,hI.nw,fun e=>(by grind),fun _=>hI.p2 (by omega),fun t=>?_,hI.zr,hI.dz⟩;rw[hI.D t,h2.1]
   grind
  omega
theorem CyI.made (h:CyPre g long s) (hI:CyI g S0 A0 s):CyI g S0 A0 (madeC g s):=
 CyI.goes (s:={s with st:=s.st+1}) ⟨h.w,h.rf,h.m,h.i,h.A,h.D,h.p0,h.p1,h.p2,h.p3,h.ph,h.dn⟩ ⟨hI.len,hI.sA,hI.up,hI.cl,hI.nP,hI.nw,hI.p1,hI.p2,hI.D,hI.zr,hI.dz⟩
theorem CyI.doom (h:jr g long s) (hI:CyI g S0 A0 s) (h2:s.ph=2) {t:Nat} (ht:t<g.slots):(s.A[t]?=some true∧s.m.C[t]?=some 0)↔(A0[t]?=some true∧ ¬S0 t):=by
 constructor
 ·rintro⟨a,c⟩
  have hn: ¬NW s.m t:=fun hn=>hn.not c
  have hS: ¬S0 t:=fun hS=>hn (hI.p2 (by omega) t hS)
  refine⟨?_,hS⟩
  rcases bit_some (l:=A0) (t:=t) (by rw[hI.len,h.A];omega) with e|e
  ·omega
  ·exact absurd (hI.nw t a e) hn
 ·rintro⟨a,hS⟩;refine⟨hI.up t a,?_⟩
  rcases nw_or h.m.C ht with e|e
  ·omega
  ·rcases hI.nP t e with c|⟨_,c⟩
   ·grind
   grind
theorem CyI.sweep (ok:jc g) (h:jr g long s) (hI:CyI g S0 A0 s) (h2:s.ph=2) (hs:sweepC g s=some s'):CyI g S0 A0 s':=by
 have hlt:=h.lt h2
 obtain⟨a,b,_⟩:=h.p2 h2
 have hd:=hI.doom h h2 hlt
 obtain⟨y,hy⟩:=jY hlt
 have hyA:=jC hy
 unfold sweepC at hs;rw[if_pos ⟨b,hlt⟩] at hs
 split at hs
 ·rename_i hg
  cases hs
  rw[hyA]
  obtain⟨d1,d2⟩:=hd.1 hg
  refine⟨hI.len,hI.sA,hI.up,hI.cl.wipe ok h.w.x hy,hI.nP,hI.nw,fun e=>(by grind),fun e=>hI.p2 e,fun t=>?_,fun t ht=>?_,fun t ht=>?_⟩
  ·show(s.D.set s.at_ true)[t]?=some true↔(_∧t<s.at_+1∧_)
   by_cases e:t=s.at_
   ·subst e;rw[List.getElem?_set_self (by rw[h.D];omega)]
    grind
   ·rw[List.getElem?_set_ne (by omega),hI.D t]
    grind
  ·have hne:s.at_≠t:=fun e=>by grind
   exact(jfk ok h.w.x hy hne).zero (hI.zr t ht)
  ·by_cases e:s.at_=t
   ·subst e;exact jjb ok h.w.x hy
   ·have ht':(s.D.set s.at_ true)[t]?=some true:=ht
    rw[List.getElem?_set_ne e] at ht';exact(jfk ok h.w.x hy e).zero (hI.dz t ht')
 ·cases hs
  refine⟨hI.len,hI.sA,hI.up,hI.cl,hI.nP,hI.nw,fun e=>(by grind),fun e=>hI.p2 e,fun t=>?_,hI.zr,hI.dz⟩;rw[hI.D t]
  grind
theorem CyI.step (ok:jc g) (h:jr g long s) (hI:CyI g S0 A0 s) {k u:Int} (hs:stepC g long nw s k u=some s'):CyI g S0 A0 s':=by
 unfold stepC at hs
 split at hs
 ·rename_i h1
  cases hm:j1 g long s.W s.m k u with
  |none=>grind
  |some m'=>rw [hm] at hs;cases hs;exact CyI.made (jdz ok h h1 hm) (hI.mark ok h h1 hm)
 ·split at hs
  ·rename_i h2
   cases hm:sweepC g s with
   |none=>grind
   |some q=>rw [hm] at hs;cases hs;exact CyI.made (jcu ok h h2.1 hm).1 (hI.sweep ok h h2.1 hm)
  grind
theorem CyI.help (ok:jc g) (h:jr g long s) (hI:CyI g S0 A0 s) (hs:jZ g long s=some s'):CyI g S0 A0 s':=by
 unfold jZ at hs
 split at hs
 ·rename_i h1
  cases hm:jae g long s.W s.m with
  |none=>grind
  |some m'=>
   rw[hm] at hs;cases hs
   obtain⟨k,u,hk⟩:=jdk hm
   exact CyI.made (jdz ok h h1 hk) (hI.mark ok h h1 hk)
 ·split at hs
  ·rename_i h2
   cases hm:sweepC g s with
   |none=>grind
   |some q=>rw [hm] at hs;cases hs;exact CyI.made (jcu ok h h2 hm).1 (hI.sweep ok h h2 hm)
  grind
theorem CyI.begin (h:jr g long s) (h0:s.ph=0) (hT:CyT g s):CyI g (RchM g s.W) s.A (beginC g s):=by
 obtain⟨a,b,c,d⟩:=h.p0 h0
 have hP: ∀ t,NwP (RchM g s.W) s.A s.A t↔RchM g s.W t:=fun t=>by
  constructor
  ·rintro(e|⟨e1,e2⟩)
   ·omega
   grind
  ·exact .inl
 refine⟨rfl,fun t ht=>hT.tk.rch ht,fun t ht=>ht,jax.iff fun t=>(hP t).symm,new_only,fun t e1 e2=>?_,fun _ t ht=>new_prot h.w ht,fun e=>absurd (show 2≤1 from e) (by decide),fun t=>?_,hT.zr,fun t ht=>?_⟩
 ·rw[show s.A[t]?=some true from e1] at e2;grind
 ·show s.D[t]?=some true↔(2≤1∧_)
  grind
 ·have ht':s.D[t]?=some true:=ht
  grind
theorem CyI.publish (h:jr g long s) (hI:CyI g S0 A0 s) (h3:s.ph=3) (gens:Int):(∀ t:Nat,(publishC g gens s).A[t]?=some true↔NwP S0 A0 s.A t)∧CyT g (publishC g gens s):=by
 obtain⟨a,b,c⟩:=h.p3 h3
 have hD: ∀ t:Nat,s.D[t]?=some true↔(A0[t]?=some true∧ ¬S0 t):=fun t=>by
  rw[hI.D t,h3,c]
  constructor
  ·grind
  ·intro q;refine⟨by decide,?_,q⟩
   have:=jx q.1
   rwa[hI.len,h.A] at this
 have hga:(jaZ s.A s.D).2=jcm s.A s.D:=by
  unfold jaZ;rw[if_pos (h.D.trans h.A.symm),if_pos (ok_all fun i hi=>hI.up i ((hD i).1 hi).1)]
 have hget: ∀ t:Nat,(jcm s.A s.D)[t]?=(s.A[t]?).map fun a=>a&&!((s.D[t]?).getD false):=fun t=>jhF t (h.A.trans h.D.symm)
 have hA: ∀ t:Nat,(publishC g gens s).A[t]?=some true↔NwP S0 A0 s.A t:=fun t=>by
  show(jaZ s.A s.D).2[t]?=some true↔_
  rw[hga,hget]
  constructor
  ·intro e
   cases hAt:s.A[t]? with
   |none=>grind
   |some v=>
    rw[hAt] at e;simp only[Option.map_some,Option.some.injEq,Bool.and_eq_true,Bool.not_eq_true'] at e
    obtain⟨rfl,e2⟩:=e
    have hnd: ¬s.D[t]?=some true:=fun hd=>by grind
    rw[hD] at hnd
    rcases bit_some (l:=A0) (t:=t) (by rw[hI.len];grind) with q|q
    ·left
     grind
    ·exact .inr ⟨hAt,q⟩
  ·intro hp
   have hAt:=hI.pA hp
   have hnd: ¬s.D[t]?=some true:=fun hd=>by
    obtain⟨q1,q2⟩:=(hD t).1 hd
    rcases hp with q|q
    ·grind
    grind
   rw[hAt];simp only[Option.map_some,Option.some.injEq,Bool.true_and,Bool.not_eq_true']
   grind
 refine⟨hA,⟨(hI.cl.recy gens).iff fun t=>(hA t).symm,fun t ht=>?_⟩⟩
 have ht':(jaZ s.A s.D).2[t]?=some false:=ht
 rw[hga,hget] at ht'
 cases hAt:s.A[t]? with
 |none=>grind
 |some v=>
  rw[hAt] at ht'
  cases v with
  |false=>exact hI.zr t hAt
  |true=>
   refine hI.dz t ?_
   grind
end
open Go.RowKit
set_option maxRecDepth 10000
section
variable {g : PlG} {long nw : Nat} {s s' : CyP} {S0 : Nat → Prop} {A0 : List Bool} {P : Nat → Prop} {W : MwP} {m : MaP}
theorem jfY (t:Int):shdC g long s t={s with m:=if s.ph=1 then j7 g long s.m t else s.m}:=by
 unfold shdC;split<;>rfl
theorem shdS_neg {t:Int} (h: ¬t≥0):j7 g long m t=m:=by unfold j7;rw [if_neg];rintro⟨a,_⟩;omega
theorem shdO_eq (t:Int):jM g long s t={s with m:=if s.ph=1 then j7 g long s.m t else s.m}:=by
 unfold jM
 split
 ·exact jfY t
 ·rename_i h;rw [shdS_neg h,ite_self]
structure jbx (g:PlG) (P:Nat→Prop) (s s':CyP):Prop where
 A:s'.A=s.A
 D:s'.D=s.D
 ph:s'.ph=s.ph
 at_:s'.at_=s.at_
 cl:Cls g s'.W P
 nP:jbu P s.m→jbu P s'.m
 nw: ∀ t,NW s.m t→NW s'.m t
 kp:s.ph=1→JJ g s.W s'.W s.m s'.m
 w: ∀ t,¬P t→jJ g s.W.x s'.W.x t
theorem jbx.refl (h:Cls g s.W P):jbx g P s s:=⟨rfl,rfl,rfl,rfl,h,fun h=>h,fun _ h=>h,fun _=>JJ.refl,fun _ _=>jJ.refl⟩
theorem jeA (ok:jc g) (hm:jG g long W m) (hi:jav m) {t:Int} (ht: ∀ n:Nat,t=n→P n) (h:jbu P m):jbu P (j7 g long m t):=fun n hn=>by
 cases ha:m.act with
 |false=>rw [jjg ha] at hn;exact h n hn
 |true=>
  rw[jj6 hm ha] at hn
  rcases(shade_keep (W':=W) ok hm hi t).2.2.2 n hn with e|e
  ·exact h n e
  grind
theorem jge (ok:jc g) (h:jr g long s) {a:jcI} (h2: ¬a.w%10<2) (hm':s'={s with W:=JI g s.W a,m:=if s.ph=1 then jaL g long s.W s.m a else s.m}) (hcl:Cls g (JI g s.W a) P)
  (hn:jbu P s.m→jbu P (jaL g long s.W s.m a)) (hw: ∀ t,¬P t→jJ g s.W.x (JI g s.W a).x t):jbx g P s s':=by
 subst hm';refine⟨rfl,rfl,rfl,rfl,hcl,fun e=>?_,fun t ht=>?_,fun e=>?_,hw⟩
 ·grind
 ·show NW (if s.ph=1 then _ else _) t
  split
  ·rename_i h1
   exact(jkT ok h.m h.w h.i (h.p1 h1).1 h2).2.nw t ht
  omega
 ·rw[if_pos (show s.ph=1 from e)];exact(jkT ok h.m h.w h.i (h.p1 e).1 h2).2
theorem jaT {sl:Int} (h:inS g sl): ∃ n:Nat,sl=n∧n<g.slots:=⟨sl.toNat,by have:=h.1;omega,by have:=h.1;have:=h.2;omega⟩
theorem refO_of {x:List Int} {n:Nat} {i:Int} (h0:(refP x g.slots (ju g (n:Nat)) i).2=0) {u:Nat} (hu:(refP x g.slots (ju g (n:Nat)) i).1=(u:Nat)):refO g x (n:Nat) i=some (u:Nat):=by
 grind[refO]
theorem sets_N (ok:jc g) (h:jr g long s) (hcl:Cls g s.W P) {a:jaB}:jbx g P s (jaU g long s a):=by
 unfold jaU
 cases hs:slotT s.W.T a.n with
 |none=>grind[jbx.refl]
 |some sl=>
  dsimp only
  have hin:=J8 h.w hs
  split
  ·grind[jbx.refl]
  ·rename_i hto
   split
   ·grind[jbx.refl]
   ·rename_i h0
    have h0:(refP s.W.x g.slots (ju g sl) a.i).2=0:=Classical.byContradiction h0
    obtain⟨n,rfl,hn⟩:=jaT hin
    obtain⟨y,hy⟩:=jY hn
    have hPn:P n:=hcl.slot hs
    have hPo: ∀ u:Nat,(refP s.W.x g.slots (ju g (n:Nat)) a.i).1=(u:Nat)→P u:=fun u hu=>hcl.edge hPn (refO_of h0 hu)
    have hPt: ∀ u:Nat,toC s.W.T a.t=(u:Nat)→P u:=fun u hu=>by
     unfold toC at hu
     split at hu
     ·omega
     ·cases ht:slotT s.W.T a.t with
      |none=>grind
      |some v=>rw [ht] at hu;subst hu;exact hcl.slot ht
    have hA:JI g s.W ⟨2,(n:Nat),a.i,toC s.W.T a.t,0,0⟩={s.W with x:=(Jl s.W.x g.slots (ju g (n:Nat)) a.i (toC s.W.T a.t)).2}:=jkU hin h0
    have hK:jaL g long s.W s.m ⟨2,(n:Nat),a.i,toC s.W.T a.t,0,0⟩=j7 g long (j7 g long s.m (refP s.W.x g.slots (ju g (n:Nat)) a.i).1) (toC s.W.T a.t):=by
     grind[jaL,oldS]
    refine jge (a:=⟨2,(n:Nat),a.i,toC s.W.T a.t,0,0⟩) ok h (by grind) ?_ ?_ ?_ ?_
    ·grind[jbZ,shdO_eq]
    ·rw[hA,jC hy];exact hcl.set ok h.w.x hy hPt
    ·rw[hK];intro e
     have m1:=jfX ok h.m (refP s.W.x g.slots (ju g (n:Nat)) a.i).1
     have e1:=jeA ok h.m h.i hPo e
     cases ha:s.m.act with
     |false=>grind[jjg]
     |true=>exact jeA ok m1 (jcK (W':=s.W) ok h.m h.i ha _).1 hPt e1
    grind[jC,jfe]
theorem jgt (ok:jc g) (h:jr g long s) (hcl:Cls g s.W P) {a:jaB} (ha: ¬a.w%6<2):jbx g P s (doesC g long s a):=by
 unfold doesC;rw[if_neg ha]
 split
 ·grind[sets_N]
 ·cases hs:slotT s.W.T a.n with
  |none=>grind[jbx.refl]
  |some sl=>
   dsimp only
   have hin:=J8 h.w hs
   obtain⟨n,rfl,hn⟩:=jaT hin
   have hPn:P n:=hcl.slot hs
   have hPu: ∀ u:Nat,((n:Nat):Int)=(u:Nat)→P u:=fun u hu=>by grind
   split
   ·refine jge (a:=⟨5,0,a.n,0,0,0⟩) ok h (by grind) ?_ ?_ ?_ ?_
    ·grind[jaL,j7,jfB,jfY]
    ·exact hcl.drop _
    ·unfold jaL;dsimp only;rw[if_neg (by decide),if_neg (by decide),if_pos (by decide),hs];exact jeA ok h.m h.i hPu
    grind[jfB,jJ.refl]
   ·split
    ·refine⟨rfl,rfl,rfl,rfl,hcl.pin hPn,fun e=>e,fun _ e=>e,fun _=>?_,fun _ _=>jJ.refl⟩
     refine jcp (W':={s.W with N:=JA s.W.N n}) rfl (fun r t hr=> .inr ?_) fun t u i hr=> .inr hr
     unfold jP at hr⊢
     grind[jhz]
    ·refine jge (a:=⟨7,(n:Nat),0,0,0,0⟩) ok h (by grind) ?_ ?_ ?_ ?_
     ·grind[jaL,j7,jey,jfY]
     ·rw[jey hin];exact hcl.unpin _
     ·exact jeA ok h.m h.i hPu
     grind[jey,jJ.refl]
theorem CyT.act (hT:CyT g s) (h:jbx g (fun t=>s.A[t]?=some true) s s'):CyT g s':=by
 refine⟨h.cl.iff fun t=>by rw[h.A],fun t ht=>?_⟩;rw[h.A] at ht;exact(h.w t (fun e=>by grind)).zero (hT.zr t ht)
theorem CyI.act (hI:CyI g S0 A0 s) (h:jbx g (NwP S0 A0 s.A) s s'):CyI g S0 A0 s':=by
 refine⟨by rw[h.A];exact hI.len,hI.sA,by rw[h.A];exact hI.up,by rw[h.A];exact h.cl,by rw[h.A];exact h.nP hI.nP,fun t a b=>h.nw t (hI.nw t (by rw[←h.A];omega) b),fun e t ht=>?_,fun e t ht=>h.nw t (hI.p2 (by rw[←h.ph];omega) t ht),fun t=>by rw[h.D,h.ph,h.at_];exact hI.D t,fun t ht=>?_,fun t ht=>?_⟩
 ·rw[h.ph] at e;exact(hI.p1 e t ht).keep (h.kp e)
 ·rw[h.A] at ht;exact(h.w t (fun e=>by rw[hI.pA e] at ht;grind)).zero (hI.zr t ht)
 ·rw[h.D] at ht;refine(h.w t fun e=>?_).zero (hI.dz t ht)
  obtain⟨_,_,q1,q2⟩:=(hI.D t).1 ht
  rcases e with e|e
  ·grind
  grind
theorem ji8 {j:Nat} (hz: ∀ i,refO g W.x (j:Nat) i=none):JJ g W W m (Jt m j):=by
 unfold Jt
 split
 ·refine⟨fun t ⟨c,h1,h2⟩=>?_,fun r t a b c=> .inr ⟨a,b,c⟩,fun t u i a b=> .inr ⟨.inl ?_,b⟩,fun t u i a b=> .inr ⟨a,b⟩⟩
  ·by_cases e:t=j
   ·subst e;exact⟨2,List.getElem?_set_self (jx h1),by decide⟩
   ·exact⟨c,by grind,h2⟩
  grind
 grind[JJ.refl]
theorem jmv {j:Nat} (h:jbu P m):jbu (fun t=>P t∨t=j) (Jt m j):=fun t ht=>by
 unfold Jt at ht
 split at ht
 ·by_cases e:t=j
  ·omega
  ·obtain⟨c,h1,h2⟩:=ht
   have h1':(m.C.set j 2)[t]?=some c:=h1
   rw[List.getElem?_set_ne (by omega)] at h1';exact .inl (h t ⟨c,h1',h2⟩)
 ·exact .inl (h t ht)
theorem jmu {j:Nat} (ha:m.act=true) (hj:j<m.C.length):NW (Jt m j) j:=by
 unfold Jt;rw [if_pos ha];exact⟨2,List.getElem?_set_self hj,by decide⟩
theorem jkq {sl:Int} {r:Nat} {u:Nat} (h:jP g W r=some (u:Nat)):jP g {W with T:=jK W.T sl} r=some (u:Nat):=by
 grind[jK,g1,g2,jP,root_T,jbB,ja7]
structure MakeN (g:PlG) (s s':CyP) (j:Nat):Prop where
 jf:s.A[j]?=some false
 A:s'.A=s.A.set j true
 m:s'.m=Jt s.m j
 D:s'.D=s.D
 ph:s'.ph=s.ph
 at_:s'.at_=s.at_
 cl: ∀ P,Cls g s.W P→jbt g s.W.x j→Cls g s'.W (fun t=>P t∨t=j)
 w: ∀ t:Nat,t≠j→jJ g s.W.x s'.W.x t
 kp:jbt g s.W.x j→JJ g s.W s'.W s.m (Jt s.m j)
theorem makes_N (ok:jc g) (h:jr g long s) {a:jaB}:makesC g s a=s∨ ∃ j,MakeN g s (makesC g s a) j:=by
 unfold makesC
 split
 ·rename_i hc
  right
  obtain⟨k,j,_,_,hf,ht,_⟩:=jdh hc.1
  obtain⟨_,_,h3,_⟩:=jcP hf
  have hl:=jx h3
  rw[h.A] at hl
  obtain⟨y,hy⟩:=jY hl
  rw[ht];dsimp only;rw[jC hy,Int.toNat_natCast];refine⟨j,h3,rfl,rfl,rfl,rfl,rfl,fun P hP hz=>?_,fun t ht=>jcM ok h.w.x hy _ (fun e=>ht e.symm),fun hz=>?_⟩
  ·exact((hP.new ok hz).mint (.inr rfl)).make (W:={s.W with T:=jK s.W.T (j:Nat)}) ok h.w.x hy
  ·refine(jcp (W':={s.W with T:=jK s.W.T (j:Nat),x:=(makeP s.W.x y (hdM y a.i)).2}) jbB (fun r u hr=> .inr (jkq hr)) fun t u i hr=> .inr ?_).trans (ji8 fun i=>?_)
   ·have e:j≠t:=fun e=>by rw[←e,hz.refO ok] at hr;grind
    rw[jbA ok (jcM ok h.w.x hy _ e)];omega
   ·cases hr:refO g (makeP s.W.x y (hdM y a.i)).2 (j:Nat) i with
    |none=>rfl
    |some u=>have:=jha ok h.w.x hy hr;rw [hz.refO ok] at this;grind
 grind
theorem jfH {A:List Bool} {j t:Nat} (hj:j<A.length):(A.set j true)[t]?=some true↔A[t]?=some true∨t=j:=by
 grind
theorem jji {A:List Bool} {j t:Nat} (hj:j<A.length):(A.set j true)[t]?=some false↔A[t]?=some false∧t≠j:=by
 grind
theorem CyT.make {j:Nat} (hT:CyT g s) (h:MakeN g s s' j):CyT g s':=by
 have hj:=jx h.jf
 refine⟨(h.cl _ hT.tk (hT.zr j h.jf)).iff fun t=>by rw[h.A,jfH hj],fun t ht=>?_⟩;rw[h.A,jji hj] at ht;exact(h.w t ht.2).zero (hT.zr t ht.1)
theorem CyI.make {j:Nat} (ok:jc g) (hk:jr g long s) (h1:1≤s.ph) (hI:CyI g S0 A0 s) (h:MakeN g s s' j):CyI g S0 A0 s':=by
 have hj:=jx h.jf
 have hz:=hI.zr j h.jf
 have hk':=h.kp hz
 have ha:s.m.act=true:=by
  have:=hk.ph
  rcases(show s.ph=1∨s.ph=2∨s.ph=3 by omega) with e|e|e
  ·exact(hk.p1 e).1
  ·exact(hk.p2 e).1
  ·exact(hk.p3 e).1
 have hj0:A0[j]?=some false:=by
  rcases bit_some (l:=A0) (t:=j) (by rw[hI.len];omega) with e|e
  ·have:=hI.up j e;rw [h.jf] at this;grind
  omega
 have hP: ∀ t,(NwP S0 A0 s.A t∨t=j)↔NwP S0 A0 s'.A t:=fun t=>by
  unfold NwP;rw[h.A,jfH hj]
  grind
 refine⟨by rw[h.A,List.length_set];exact hI.len,hI.sA,fun t ht=>?_,(h.cl _ hI.cl hz).iff hP,fun t ht=>?_,fun t a b=>?_,fun e t ht=>?_,fun e t ht=>?_,fun t=>by rw[h.D,h.ph,h.at_];exact hI.D t,fun t ht=>?_,fun t ht=>?_⟩
 ·rw[h.A,jfH hj];exact .inl (hI.up t ht)
 ·rw[h.m] at ht;exact(hP t).1 (jmv hI.nP t ht)
 ·rw[h.A,jfH hj] at a;rw[h.m]
  rcases a with a|a
  ·exact hk'.nw t (hI.nw t a b)
  ·rw[a];exact jmu ha (by rw[hk.m.C,←hk.A];omega)
 ·rw[h.ph] at e;rw[h.m];exact(hI.p1 e t ht).keep hk'
 ·rw[h.ph] at e;rw[h.m];exact hk'.nw t (hI.p2 e t ht)
 ·rw[h.A,jji hj] at ht;exact(h.w t ht.2).zero (hI.zr t ht.1)
 ·rw[h.D] at ht;refine(h.w t fun e=>?_).zero (hI.dz t ht)
  obtain⟨_,_,q1,_⟩:=(hI.D t).1 ht
  grind
theorem CyT.does (ok:jc g) (h:jr g long s) (hT:CyT g s) {a:jaB}:CyT g (doesC g long s a):=by
 by_cases ha:a.w%6<2
 ·have e:doesC g long s a=makesC g s a:=by grind[doesC]
  rw[e]
  rcases makes_N ok h (a:=a) with e|⟨j,e⟩
  ·grind
  ·exact hT.make e
 ·exact hT.act (jgt ok h hT.tk ha)
theorem CyI.does (ok:jc g) (h:jr g long s) (h1:1≤s.ph) (hI:CyI g S0 A0 s) {a:jaB}:CyI g S0 A0 (doesC g long s a):=by
 by_cases ha:a.w%6<2
 ·have e:doesC g long s a=makesC g s a:=by grind[doesC]
  rw[e]
  rcases makes_N ok h (a:=a) with e|⟨j,e⟩
  ·grind
  ·exact hI.make ok h h1 e
 ·exact hI.act (jgt ok h hI.cl ha)
end
open Go.RowKit
set_option maxRecDepth 10000
structure MpR (k:MkM) (B:BoM) (T:TbM) (N:PiM) (W:MwP):Prop where
 bo:jag B W.x
 tb:TbOk T
 pi:PiOk N
 eT:T.l=W.T
 eN:N.l=W.N
 bb:k.bb=B.b
 tbb:k.tb=T.b
 nb:k.nb=N.b
 w:JX B.p.g W
theorem MpR.to {k k':MkM} {B:BoM} {T:TbM} {N:PiM} {W:MwP} (h:MpR k B T N W) (ht:MkTo k k'):MpR k' B T N W:=⟨h.bo,h.tb,h.pi,h.eT,h.eN,ht.bb.trans h.bb,ht.tb.trans h.tbb,ht.nb.trans h.nb,h.w⟩
def seenH (B:BoM) (T:TbM) (N:PiM):jb:=jR B++(jv B.m++(jy T++JD N))
theorem seenH_app {B:BoM} {T:TbM} {N:PiM} {F:jb}:seenH B T N++F=jR B++(jv B.m++(jy T++(JD N++F))):=by simp[seenH]
structure SkS where
 sl:Int
 is:Bool
section
variable {w0 : World} {F : jb} {k : MkM} {B : BoM} {T : TbM} {N : PiM} {W : MwP} {m : MaP}
theorem jjv (hp:MpR k B T N W) (ok:MkOk k B.p):
  Call Tryz.prog w0 218 [.pointer (some ⟨k.b,0,none⟩)] (jp k B.p++(planH B.p++(seenH B T N++F))) (fun r H'=>r= .int .i64 ((W.T.length+B.p.g.slots:Nat):Int)∧H'=jp k B.p++(planH B.p++(seenH B T N++F))):=by
 have okT:=hp.tb
 have okp:=hp.bo.p
 have hsl:=okp.g.slots
 have hn:=okT.n
 have e1:=hp.tbb
 have hT:=hp.eT
 have e2:((T.l.length:Nat):Int)+((B.p.g.slots:Nat):Int)=((W.T.length+B.p.g.slots:Nat):Int):=by rw[hT];rfl
 have hlen:=fun A=>jeS (w0:=w0) (F:=A) okT
 simp only[←e1] at hlen;refine Call.enter1 (n:=14) (by kernel_rfl) Tryz.func218 rfl rfl rfl ?_;simp only[jo,seenH_app];refine zeW ?_;refine K.drawn _ [(0,0),(1,0),(2,0),(3,0),(5,1),(6,1),(7,1),(8,1),(4,2),(9,2),(10,0),(11,0)] (by kernel_rfl) (by kernel_rfl) (by kernel_rfl) (by kernel_rfl) (by kernel_rfl) (by kernel_rfl) Part.all ?_;refine zeV ?_;refine zdA ?_;refine zhI ?_;refine zba ?_;refine zl fun T hT=>?_;refine(CallV.part (CallV.fn (hlen _)) ja).mono ?_;rintro _ _ ⟨rfl,rfl⟩;refine zg ?_;clear hT T;refine zl fun T hT=>?_;refine(CallV.part (CallV.fn (jdu okp)) ja).mono ?_;rintro _ _ ⟨rfl,rfl⟩;refine zg ?_;clear hT T;refine zg0 ?_;refine zaV ?_;rw[e2];exact zlG
theorem mkseek_K {hv:Value} (hp:MpR k B T N W) (ok:MkOk k B.p) (hR:MkR k B.p m) (hm:jG B.p.g k.g.ring.length W m):
  Call Tryz.prog w0 221 [.pointer (some ⟨k.b,0,none⟩),hv] (jp k B.p++(planH B.p++(seenH B T N++F)))
   (fun r H'=>r= .bool (jbq B.p.g k.g.ring.length W m).isSome∧ ∃ k',MkOk k' B.p∧MkTo k k'∧MkR k' B.p ((jbq B.p.g k.g.ring.length W m).getD m)∧H'=jp k' B.p++(planH B.p++(seenH B T N++F))):=by
 have okT:=hp.tb
 have okN:=hp.pi
 have okp:=hp.bo.p
 have hsl:=okp.g.slots
 have hn:=okT.n
 have e1:=hp.tbb
 have e3:=hp.nb
 have hT:=hp.eT
 have hNl:N.l.length=B.p.g.slots:=by rw[hp.eN];exact hp.w.N
 have hroots:=fun A=>jjv (w0:=w0) (F:=A) hp ok
 have hrt:=hm.root
 have hr:=hR.root
 rw[←hr] at hrt
 have hTl:T.l.length=W.T.length:=by grind
 by_cases hlt:m.root<W.T.length+B.p.g.slots
 ·have hrm:jbq B.p.g k.g.ring.length W m=some (JO B.p.g k.g.ring.length {m with root:=m.root+1} (jP B.p.g W m.root)):=by unfold jbq;rw [if_pos hlt]
  rw[hrm,jiJ];simp only[Option.isSome,Option.getD]
  have hne: ¬((k.root:Nat):Int)=((W.T.length+B.p.g.slots:Nat):Int):=by omega
  have hslot:=fun A=>jj0 (w0:=w0) (F:=A) (i:=k.root) okT
  have hlen:=fun A=>jeS (w0:=w0) (F:=A) okT
  simp only[←e1] at hslot hlen;refine Call.enter2 (n:=58) (by kernel_rfl) Tryz.func221 rfl rfl rfl ?_;simp only[jo,seenH_app];refine zae ?_;refine ze9 ?_;refine zlH ?_;refine zdA ?_;refine zh2 ?_;refine zba ?_;refine zc1 fun T hT=>?_;refine zjc ?_;rintro _ _ ⟨rfl,rfl⟩;simp only[jo,seenH_app];refine zg ?_;clear hT T;refine zhb ?_;refine zD ?_;refine KE.next (K.condF rfl (K.skip (KE.next (K.seq ?_))));refine K.drawn [] [(0,0),(1,0),(2,0),(3,0),(4,0),(5,0),(6,0),(7,0),(8,2),(9,0),(10,0),(11,0),(12,0),(13,0)] (by kernel_rfl) (by kernel_rfl) (by kernel_rfl) (by kernel_rfl) (by kernel_rfl) (by kernel_rfl) Part.nil ?_;refine zeV ?_;refine zeI ?_;refine zl fun T hT=>?_;refine(CallV.part (CallV.fn (hslot _)) (by first|exact ja|(simp only[jo,seenH_app];exact ja))).mono ?_;rintro _ _ ⟨rfl,rfl⟩;refine zg ?_;clear hT T;refine zdp ?_;refine KE.next (K.seq (K.seq ?_));refine K.drawn _ [(0,1),(1,1),(2,1),(3,1),(4,0),(5,0),(6,0),(7,0),(8,2),(9,0),(10,0)] (by kernel_rfl) (by kernel_rfl) (by kernel_rfl) (by kernel_rfl) (by kernel_rfl) (by kernel_rfl) Part.all ?_;refine zdA ?_;refine zh2 ?_;refine zba ?_;refine zeV ?_;refine zl fun T hT=>?_;refine(CallV.part (CallV.fn (hlen _)) (by first|exact ja|(simp only[jo,seenH_app];exact ja))).mono ?_;rintro _ _ ⟨rfl,rfl⟩;refine zg ?_;clear hT T;refine KD.v0 rfl rfl (Val.sub rfl rfl (by simp only[qL,qH];omega)) ?_;refine zb0 ?_;refine zbG ?_;refine K.cutE (σ:=SkS) [(0,_)] jj (fun s kp_=>(5, .int .i64 s.sl)::(6, .bool s.is)::kp_) (fun s=>jp k B.p++(planH B.p++(seenH B T N++F))) (fun s=>jP B.p.g W m.root=(if s.is=true then some s.sl else none)) ?_ ?_
  ·by_cases hrl:k.root<T.l.length
   ·have hat: ¬((k.root:Nat):Int)-((T.l.length:Nat):Int)≥0:=by omega
    have hro:jP B.p.g W m.root=slotT T.l (k.root:Nat):=by
     unfold jP slotT;rw[if_pos (show(0:Int)≤(k.root:Nat) by omega),Int.toNat_natCast,←hr,←hT]
     obtain⟨e,he⟩:=jA hrl
     rw[he]
    refine za7 ?_;refine zbO ?_;refine zbq ?_;exact KE.meet ⟨(slotT T.l (k.root:Nat)).getD 0,(slotT T.l (k.root:Nat)).isSome⟩ jj (by first|exact ja|(simp only[jo,seenH_app];exact ja)) (by rw[hro];cases slotT T.l (k.root:Nat)<;>rfl)
   ·have hj:((k.root:Nat):Int)-((T.l.length:Nat):Int)=((k.root-T.l.length:Nat):Int):=by omega
    have hat:((k.root-T.l.length:Nat):Int)≥0:=by omega
    obtain⟨c,hc⟩:=jA (l:=N.l) (k:=k.root-T.l.length) (by omega)
    have hcnt:=fun A=>jjs (w0:=w0) (F:=A) (s:=((k.root-T.l.length:Nat):Int)) okN
    rw[if_pos (by omega),Int.toNat_natCast,hc] at hcnt;simp only[Option.getD,←e3] at hcnt
    have hro:jP B.p.g W m.root=if decide (0<c)=true then some ((k.root-T.l.length:Nat):Int) else none:=by
     unfold jP;rw[←hr,←hT,←hp.eN,List.getElem?_eq_none (by omega)];dsimp only;rw[hc];simp only[Option.getD,decide_eq_true_eq]
    rw[hj];refine za7 ?_;refine zaz ?_;refine zaS ?_;refine zcy ?_;refine zct ?_;refine zb6 fun T hT=>?_;refine(CallV.part (CallV.fn (hcnt _)) (by first|exact ja|(simp only[jo,seenH_app];exact ja))).mono ?_;rintro _ _ ⟨rfl,rfl⟩;refine zd ?_;clear hT T;refine KL.v rfl (Val.gtr rfl rfl) ?_;refine zk ?_;refine zbY ?_;exact KE.meet ⟨((k.root-T.l.length:Nat):Int),decide (0<c)⟩ jj (by first|exact ja|(simp only[jo,seenH_app];exact ja)) hro
  ·rintro⟨sl,is⟩ hro;dsimp only at hro⊢
   cases is with
   |true=>
    rw[if_pos rfl] at hro
    have hin:=jg1 hp.w hlt hro
    obtain⟨q,rfl⟩: ∃ q:Nat,sl=q:=⟨sl.toNat,by omega⟩
    rw[hro]
    have hsh:=fun A=>jg7 (w0:=w0) (F:=A) ok hR (s:=q) (by omega)
    obtain⟨m1,hm1⟩: ∃ m1,m1=JP B.p.g k.g.ring.length m ((q:Nat):Int):=⟨_,rfl⟩
    have hm1r:m1.root=m.root:=by rw[hm1];exact(jhq _).2.1
    have hso:JO B.p.g k.g.ring.length m (some ((q:Nat):Int))=m1:=hm1.symm
    rw[hso];simp only[←hm1] at hsh;refine zaA ?_;refine zaS ?_;refine zaC fun T hT=>?_;refine(CallV.part (CallV.fn (hsh _)) ja).mono ?_;rintro _ _ ⟨rfl,k',kok,kto,kR,rfl⟩
    have hk'r:k'.root=k.root:=kR.root.trans (hm1r.trans hr.symm)
    have e5:((k'.root:Nat):Int)+1=((k'.root+1:Nat):Int):=by omega
    refine zd ?_;clear hT T;rw[←kto.b];simp only[jo,seenH_app];refine zW ?_;refine ziv ?_;refine zd6 ?_;refine za2 ?_;refine zeN ?_;rw[e5];exact KE.fin (H':=jp {k' with root:=k'.root+1} B.p++(planH B.p++(seenH B T N++F))) je rfl jd (by simp only[jo,seenH_app];exact ja)
     ⟨rfl,{k' with root:=k'.root+1},⟨kok.c,kok.g,kok.n,kok.o,kok.hs⟩,⟨⟨kto.b,kto.bb,kto.tb,kto.nb,kto.n,kto.l⟩,kto.f,kto.cb,kto.gb,kto.o⟩,⟨kR.C,kR.G,kR.hs,by show k'.root+1=m.root+1;rw [hk'r,hr],kR.act,kR.steps⟩,by simp only[jo,seenH_app]⟩
   |false=>
    rw[if_neg (by decide)] at hro;rw[hro]
    have hso:JO B.p.g k.g.ring.length m none=m:=rfl
    rw[hso]
    have e5:((k.root:Nat):Int)+1=((k.root+1:Nat):Int):=by omega
    simp only[jo,seenH_app];refine zaA ?_;refine zR ?_;refine za2 ?_;refine zd6 ?_;refine za2 ?_;refine zeN ?_;rw[e5];exact KE.fin (H':=jp {k with root:=k.root+1} B.p++(planH B.p++(seenH B T N++F))) je rfl jd (by simp only[jo,seenH_app];exact ja)
     ⟨rfl,{k with root:=k.root+1},⟨ok.c,ok.g,ok.n,ok.o,ok.hs⟩,⟨⟨rfl,rfl,rfl,rfl,rfl,rfl⟩,rfl,rfl,rfl,rfl⟩,⟨hR.C,hR.G,hR.hs,by show k.root+1=m.root+1;rw [hr],hR.act,hR.steps⟩,by simp only[jo,seenH_app]⟩
 ·have hrm:jbq B.p.g k.g.ring.length W m=none:=by unfold jbq;rw [if_neg hlt]
  rw[hrm];simp only[Option.isSome,Option.getD]
  have hne:((k.root:Nat):Int)=((W.T.length+B.p.g.slots:Nat):Int):=by omega
  refine Call.enter2 (n:=58) (by kernel_rfl) Tryz.func221 rfl rfl rfl ?_;simp only[jo,seenH_app];refine zae ?_;refine ze9 ?_;refine zlH ?_;refine zdA ?_;refine zh2 ?_;refine zba ?_;refine zc1 fun T hT=>?_;refine zjc ?_;rintro _ _ ⟨rfl,rfl⟩;simp only[jo,seenH_app];refine zg ?_;clear hT T;refine zha ?_;refine zD ?_;refine zgi ?_;exact zhd
end
set_option maxRecDepth 10000
section
variable {w0 : World} {F : jb} {k : MkM} {B : BoM} {T : TbM} {N : PiM} {W : MwP} {m : MaP}
theorem htake_K {L:List jab} {o:Own} {n i s:Nat} (ho:oOk jaP L o) (hn:n=L.length) (hi:i<L.length):
  Call Tryz.prog w0 224 [.pointer (some (adr (oV o n) (i*jaP.sz))), .int .i64 (s:Nat)] (oH jaP 240 L o++F) (fun r H'=>r= .tuple #[]∧H'=oH jaP 240 (L.set i ⟨(s:Nat),0,true⟩) o++F):=by
 obtain⟨h,hh⟩:=jA hi
 refine Call.enter2 (n:=8) (by rfl) Tryz.func224 rfl rfl rfl ?_
 skip
 refine zbm ?_;refine zM ?_;refine zbK ?_;refine KL.eN (Eff.stSlA (x1:=(⟨(s:Nat),0,true⟩:jab)) rfl rfl rfl rfl jn ho hh) ?_;rintro _ _ rfl;refine zN ?_;exact zi4
theorem mktake_K {i:Nat} (ok:MkOk k B.p) (hR:MkR k B.p m) (hi:i<k.hs.length):
  Call Tryz.prog w0 222 [.pointer (some ⟨k.b,0,none⟩), .pointer (some (adr (oV k.o k.hs.length) (i*jaP.sz)))] (jp k B.p++F)
   (fun r H'=>(m.G.q=[]∧r= .bool false∧H'=jp k B.p++F)∨ ∃ (s:Nat) (q:List Nat) (k':MkM),m.G.q=s::q∧r= .bool true∧MkOk k' B.p∧MkTo k k'∧MkR k' B.p {m with G:={m.G with q:=q},hs:=m.hs.set i ⟨(s:Nat),0,true⟩}∧H'=jp k' B.p++F):=by
 have okg:=ok.g
 have ho:=ok.o
 have hnx:=fun A=>grNext_K (w0:=w0) (F:=A) okg hR.G
 refine Call.enter2 (n:=20) (by rfl) Tryz.func222 rfl rfl rfl ?_;simp only[jo];refine z7 ?_;refine zcF ?_;refine za5 fun T hT=>?_;refine(CallV.part (CallV.fn (hnx _)) ja).mono ?_;rintro _ _ (⟨hq,rfl,rfl⟩|⟨s,q,g',hq,rfl,kg,gb,gl,gR,rfl⟩)
 ·refine zd ?_;clear hT T;refine zaM ?_;refine zaG ?_;refine zf ?_;exact zlI
 ·refine zd ?_;clear hT T;refine zaM ?_;refine zaS ?_;refine zat ?_;refine ji (htake_K (s:=s) ho rfl hi) ja ?_;refine zW ?_;refine za8 ?_;rw[←gb];exact KE.fin (H':=jp {k with g:=g',hs:=k.hs.set i ⟨(s:Nat),0,true⟩} B.p++F) je rfl jd (by simp only[jo,List.length_set];exact ja)
   (.inr ⟨s,q,{k with g:=g',hs:=k.hs.set i ⟨(s:Nat),0,true⟩},hq,rfl,⟨ok.c,kg,ok.n,ok.o.set _ _,by simpa using ok.hs⟩,⟨⟨rfl,rfl,rfl,rfl,by simp,gl⟩,rfl,rfl,gb,rfl⟩,⟨hR.C,gR,by rw[hR.hs],hR.root,hR.act,hR.steps⟩,by grind[jo]⟩)
def wtM (m:MaP) (i:Nat) (o:Option Nat) (G:GyP):MaP:=match o with
 |none=>{m with G:=G}
 |some s=>{m with G:=G,hs:=m.hs.set i ⟨(s:Nat),0,true⟩}
theorem walkM_no {g:PlG} {m:MaP} {i:Nat} (hq:walkG g m.G=none):jbc g m i=none:=by
 grind[jbc]
theorem jlL {g:PlG} {m:MaP} {i:Nat} {o:Option Nat} {G:GyP} (hn:(J1 m i).is=false) (hq:walkG g m.G=some (o,G)):jbc g m i=some (wtM m i o G):=by
 unfold jbc;rw [hq,if_neg (by grind)];cases o<;>rfl
theorem mkwalk_K {i:Nat} (hG:js w0) (ok:MkOk k B.p) (hR:MkR k B.p m) (hm:jG B.p.g k.g.ring.length W m) (hi:i<k.hs.length):
  Call Tryz.prog w0 226 [.pointer (some ⟨k.b,0,none⟩), .pointer (some (adr (oV k.o k.hs.length) (i*jaP.sz)))] (jp k B.p++(planH B.p++F))
   (fun r H'=>(walkG B.p.g m.G=none∧r= .bool false∧H'=jp k B.p++(planH B.p++F))∨ ∃ (o:Option Nat) (G':GyP) (k':MkM),walkG B.p.g m.G=some (o,G')∧r= .bool true∧MkOk k' B.p∧MkTo k k'∧MkR k' B.p (wtM m i o G')∧H'=jp k' B.p++(planH B.p++F)):=by
 have okg:=ok.g
 have ho:=ok.o
 have hw:=fun A=>grWalk_K (w0:=w0) (F:=A) hG okg hR.G hm.G
 refine Call.enter2 (n:=22) (by rfl) Tryz.func226 rfl rfl rfl ?_;simp only[jo];refine z7 ?_;refine zcF ?_;refine za5 fun T hT=>?_;refine(CallV.part (CallV.fn (hw _)) ja).mono ?_;rintro _ _ (⟨hq,rfl,rfl⟩|⟨o,G',g',hq,rfl,kg,gb,gl,gR,rfl⟩)
 ·refine zd ?_;clear hT T;refine za9 ?_;refine z6 ?_;refine zaG ?_;refine zf ?_;exact zlI
 ·cases o with
  |none=>
   unfold nxI;dsimp only[Option.isSome,Option.getD];refine zd ?_;clear hT T;refine za9 ?_;refine z6 ?_;refine zaG ?_;refine zf ?_;rw[←gb];exact KE.fin (H':=jp {k with g:=g'} B.p++(planH B.p++F)) je rfl jd (by simp only[jo];exact ja)
    (.inr ⟨none,G',{k with g:=g'},hq,rfl,⟨ok.c,kg,ok.n,ok.o,ok.hs⟩,⟨⟨rfl,rfl,rfl,rfl,rfl,gl⟩,rfl,rfl,gb,rfl⟩,⟨hR.C,gR,hR.hs,hR.root,hR.act,hR.steps⟩,by grind[jo]⟩)
  |some s=>
   unfold nxI;dsimp only[Option.isSome,Option.getD];refine zd ?_;clear hT T;refine za9 ?_;refine z6 ?_;refine zaS ?_;refine zat ?_;refine ji (htake_K (s:=s) ho rfl hi) ja ?_;refine zW ?_;refine za8 ?_;rw[←gb];exact KE.fin (H':=jp {k with g:=g',hs:=k.hs.set i ⟨(s:Nat),0,true⟩} B.p++(planH B.p++F)) je rfl jd (by simp only[jo,List.length_set];exact ja)
    (.inr ⟨some s,G',{k with g:=g',hs:=k.hs.set i ⟨(s:Nat),0,true⟩},hq,rfl,⟨ok.c,kg,ok.n,ok.o.set _ _,by simpa using ok.hs⟩,⟨⟨rfl,rfl,rfl,rfl,by simp,gl⟩,rfl,rfl,gb,rfl⟩,⟨hR.C,gR,by show k.hs.set i _=m.hs.set i _;rw [hR.hs],hR.root,hR.act,hR.steps⟩,by grind[jo]⟩)
def jcb:Value:= .agg [.bool false, .bool false, .nilFunc, .bool false, .bool true, .func (.func 221) #[] #[], .bool false, .bool false, .func (.func 222) #[] #[], .bool true, .bool false, .func (.func 225) #[] #[], .bool false, .bool false, .func (.func 226) #[] #[]].toArray
theorem micros_K {H:jb}:Call Tryz.prog w0 171 [] H (fun r H'=>r=jcb∧H'=H):=by
 unfold jcb;refine Call.enter0 (n:=6) (by rfl) Tryz.func171 rfl rfl rfl ?_;refine zy ?_;refine zee ?_;intro b0;refine zM ?_;refine zM ?_;refine zM ?_;refine zM ?_;refine zfz ?_;exact zZ
end
end Go.Proofs.YtpcgafhgfjlkmaaGreatDoor.Sw
