/-The walker and the contracts that the law needs,part 22. -/
import Derived.Test.YtldomapkmopomaaGreatDoorD1
import Derived.ArgAppend
import Derived.ChangeMaps5
import Derived.Deep.Fields
import Derived.Deep.LoopGhost
import Derived.Deep.OwnRows
import Derived.Deep.Quiet
import Derived.Deep.Slices
import Derived.IntWalk
import Derived.Laws.Cells
import Derived.Laws.CopyOwn
import Derived.Laws.Externs
import Derived.Laws.FloatArith
import Derived.Laws.IdiomStrings
import Derived.Laws.NewFold
import Derived.Laws.StructEq
import Derived.Lib.BitFns
import Derived.Lib.Hide
import Derived.Lib.SmallJoins
import Derived.Lib.TrailingZeros
import Derived.Maps.RangeRun
import Derived.OrdersIn
import Derived.ProofKit
import Derived.RangeFuncBound
import Derived.RangeFuncCalls
import Derived.RangeFuncLeaves
import Derived.RangeFuncNested
import Derived.RecoverIn
import Derived.Shelf.Bits.Mul64
import Derived.Shelf.Slices.Turned
import Derived.Shelf.Spec.TrailingZeros
import Derived.Shelf.Strconv.Itoa0
import Derived.SizedLaws
import Derived.Sort.BigQuietIn
import Derived.StillTailTactics
import Derived.Test.YtldomapkmopomaaGreatDoorProg
import Derived.WalkKit
import Derived.Test.YtldomapkmopomaaGreatDoorJ19
import Derived.Test.YtldomapkmopomaaGreatDoorJ20
set_option linter.unusedVariables false set_option linter.unusedSimpArgs false namespace Go.Proofs.YtldomapkmopomaaGreatDoor.Sw
set_option maxHeartbeats 8000000
open Go.Proofs.YtldomapkmopomaaGreatDoor renaming lo → qL, hi → qH
open Go.RowKit
set_option linter.unusedVariables false
set_option linter.unusedSimpArgs false
set_option maxRecDepth 10000
section
variable {w0 : World} {F : jb} {B : BoM} {x : List Int} {s : Nat} {y : ju}
theorem bat_K {ref:Bool} {i:Int} {g:FuncId} {cap:List Value} {B1:jb} (hG:jw w0) (ok:jaq B x) (hy:B.p.g.L[s]?=some y)
  (hdo:fldP x y ref i=0→ ∀ A,CallV Tryz.prog w0 (.func (.func g) #[] cap.toArray) [.int .i64 (fAt y i:Nat)] (A++(jX B++(jx B.m++(planH B.p++F)))) (fun r H'=>r= .tuple #[]∧H'=A++B1)):
  Call Tryz.prog w0 296 [.pointer (some ⟨B.b,0,none⟩), .bool ref, .int .i64 (s:Nat), .int .i64 i, .func (.func g) #[] cap.toArray] (jX B++(jx B.m++(planH B.p++F)))
   (fun r H'=>r= .int .i64 (fldP x y ref i)∧H'=if fldP x y ref i=0 then B1 else jX B++(jx B.m++(planH B.p++F))):=by
 obtain⟨f1,f2,f3,_⟩:=ok.p.g.fits hy
 have hfl:fldP x y ref i=match headP x y with|none=>5|some h=>if 0≤i∧i<h.r+h.w∧decide (i<h.r)=ref then 0 else 110:=rfl
 have hwords:=ok.p.g.words
 have hhm: ∀ h,headP x y=some h→Jd h=true:=fun h e=>(jbc (jbT e).2).1
 have hin:=fun(e:fldP x y ref i=0)=>jae e
 refine Call.enter5 (n:=53) (by kernel_rfl) Tryz.func296 rfl rfl rfl ?_;refine yq9 fun T hT=>?_;refine(CallV.part (CallV.fn (jdN hG ok hy)) ja).mono ?_;refine zq ?_;unfold headV
 cases hh:headP x y with
 |none=>
  rw[hh] at hfl;dsimp only at hfl;unfold hdV;dsimp only;refine za ?_;clear hT T;rw[hfl,if_neg (by decide)];refine yr3 ?_;refine zf ?_;intro b11;refine yr20 ?_;exact zd
 |some h=>
  rw[hh] at hfl;dsimp only at hfl
  have hm:=hhm h hh
  have hF:=fun A=>hField_K (w0:=w0) (H:=A) (h:=h) (i:=i)
  have hfd:JT h i=if i<0∨i≥h.r+h.w then(false,110) else(decide (i<h.r),0):=by unfold JT;rw [if_pos hm]
  obtain⟨c,r,w⟩:=h
  unfold hdV at*;dsimp only at*;clear hhm
  by_cases h1:i<0∨i≥r+w
  ·rw[if_pos h1] at hfd;rw[if_neg (by omega)] at hfl;simp only[hfd] at hF;refine za ?_;clear hT T;rw[hfl,if_neg (by decide)];refine yr3 ?_;refine zf ?_;intro b11;refine yq19 fun T hT=>?_;refine zb8 ?_;rintro _ _ ⟨rfl,rfl⟩;refine za ?_;clear hT T;refine yr26 ?_;exact zd
  ·rw[if_neg h1] at hfd;simp only[hfd] at hF
   by_cases h2:decide (i<r)=ref
   ·rw[if_pos ⟨by omega,by omega,h2⟩] at hfl
    obtain⟨q1,q2,q3⟩:=hin hfl
    have had:((y.addr:Nat):Int)+1+i=(fAt y i:Nat):=by unfold fAt;omega
    subst h2;refine za ?_;clear hT T;rw[hfl,if_pos rfl];refine yr3 ?_;refine zf ?_;intro b11;refine yq19 fun T hT=>?_;refine zb8 ?_;rintro _ _ ⟨rfl,rfl⟩
    have hdo1:=hdo hfl [(b11,cells [.int .i64 c, .int .i64 r, .int .i64 w] 138)]
    have hbn:(decide (i<r) !=decide (i<r))=false:=by simp
    refine za ?_;clear hT T;refine yr21 ?_;rw[hbn];refine yq7 fun T hT=>?_;refine zbJ ?_;refine zc ?_;clear hT T;refine yq16 fun T hT=>?_;rw[had];refine(CallV.part hdo1 ja).mono ?_;refine zc ?_;clear hT T;refine yr8 ?_;exact zd
   ·rw[if_neg (by intro h;exact h2 h.2.2)] at hfl
    have hbn:(decide (i<r) !=ref)=true:=by
     cases hd:decide (i<r)<;>cases ref<;>simp_all
    refine za ?_;clear hT T;rw[hfl,if_neg (by decide)];refine yr3 ?_;refine zf ?_;intro b11;refine yq19 fun T hT=>?_;refine zb8 ?_;rintro _ _ ⟨rfl,rfl⟩;refine za ?_;clear hT T;refine yr21 ?_;rw[hbn];refine yr8 ?_;exact zd
theorem bstore_K {ref:Bool} {i w:Int} (hG:jw w0) (ok:jaq B x) (hy:B.p.g.L[s]?=some y):
  Call Tryz.prog w0 268 [.pointer (some ⟨B.b,0,none⟩), .bool ref, .int .i64 (s:Nat), .int .i64 i, .int .u64 w] (jX B++(jx B.m++(planH B.p++F)))
   (fun r H'=>r= .int .i64 (fldP x y ref i)∧H'=jX B++(jx (J4 B.m B.t (if fldP x y ref i=0 then x.set (fAt y i) w else x))++(planH B.p++F))):=by
 have okm:=ok.m
 have hr:=ok.r
 obtain⟨f1,f2,f3,_⟩:=ok.p.g.fits hy
 have hin:=fun(e:fldP x y ref i=0)=>jae e
 have hn:=ok.n
 have hself:=jd7 hr
 refine Call.enter5 (n:=17) (by kernel_rfl) Tryz.func268 rfl rfl rfl ?_;refine yr2 ?_;refine zH ?_;intro b5 b9;refine yq10 fun T hT=>?_
 refine(CallV.part (CallV.fn (bat_K (F:=(b5,cells [.pointer (some ⟨B.b,0,none⟩)] 74)::(b9,cells [.int .u64 w] 116)::F) (ref:=ref) (i:=i) (g:=297) (cap:=[.pointer (some ⟨b5,0,none⟩), .pointer (some ⟨b9,0,none⟩)])
  (B1:=jX B++(jx (J4 B.m B.t (x.set (fAt y i) w))++(planH B.p++((b5,cells [.pointer (some ⟨B.b,0,none⟩)] 74)::(b9,cells [.int .u64 w] 116)::F)))) hG ok hy ?_)) ja).mono ?_
 ·intro e A
  obtain⟨q1,q2,q3⟩:=hin e
  refine CallV.clo (cap:=[.pointer (some ⟨b5,0,none⟩), .pointer (some ⟨b9,0,none⟩)]) ?_;refine Call.enter3 (n:=15) (by kernel_rfl) Tryz.func297 rfl rfl rfl ?_;rw[JN];refine zbL ?_;refine zaa ?_;refine zQ ?_;refine zaa ?_;refine zB ?_;refine zg ?_;refine zo ?_;refine zi fun T hT=>?_;refine(CallV.part (CallV.fn (Store_K (t:=B.t) (a:=fAt y i) (x:=x) (w:=w) okm hr (by omega))) ja).mono ?_;refine zq ?_;rw[setM_put hr];refine zh ?_;clear hT T;refine zp ?_;exact KE.finN jd rfl jc (by rw[JN];exact ja) ⟨rfl,rfl⟩
 ·refine zq ?_
  by_cases e:fldP x y ref i=0
  ·rw[if_pos e];refine za ?_;clear hT T;rw[if_pos e];refine yr4 ?_;exact zd
  ·rw[if_neg e];refine za ?_;clear hT T;rw[if_neg e,hself];refine yr4 ?_;exact zd
end
set_option maxRecDepth 10000
section
variable {w0 : World} {F : jb} {k : MkM} {p : jO}
theorem mktouch_K {s:Nat} {c:Int} {g:FuncId} {cap:List Value} {R:jb→Prop} (ok:MkOk k p) (hc:(tiC k.c)[s]?=some c)
  (hdo:k.act=true→CallV Tryz.prog w0 (.func (.func g) #[] cap.toArray) [.int .i64 (s:Nat)] (jk k p++F) (fun r H'=>r= .tuple #[]∧R H')):
  Call Tryz.prog w0 141 [.pointer (some ⟨k.b,0,none⟩), .int .i64 (s:Nat), .func (.func g) #[] cap.toArray] (jk k p++F) (fun r H'=>r= .int .i64 0∧(k.act=true→R H')∧(k.act=false→H'=jk k p++F)):=by
 cases ha:k.act with
 |true=>
  have h1:=hdo ha
  refine zcF ?_;refine yq9 fun T hT=>?_;refine(CallV.fn (jbF ok hc)).mono ?_;rintro _ _ ⟨rfl,rfl⟩;refine za ?_;clear hT T;rw[ji,ha];refine yq28 fun T hT=>?_;refine(CallV.part h1 (by rw[ji,ha];exact ja)).mono ?_;rintro _ H' ⟨rfl,hR⟩;refine za ?_;clear hT T;refine yr9 ?_;exact KE.fin jd rfl jc ja ⟨rfl,fun _=>hR,fun h=>by cases h⟩
 |false=>
  refine zcF ?_;refine yq9 fun T hT=>?_;refine(CallV.fn (jbF ok hc)).mono ?_;rintro _ _ ⟨rfl,rfl⟩;refine za ?_;clear hT T;rw[ji,ha];refine yr34 ?_;exact KE.fin (H':=jk k p++F) jd rfl jc (by rw[ji,ha];exact ja) ⟨rfl,fun h=>(by cases h),fun _=>by rw[ji,ha]⟩
theorem mkBlack_K {s:Nat} (ok:MkOk k p) (hs:s<p.g.slots):Call Tryz.prog w0 71 [.pointer (some ⟨k.b,0,none⟩), .int .i64 (s:Nat)] (jk k p++F)
  (fun r H'=>r= .int .i64 0∧ ∃ c',MkOk {k with c:=c'} p∧c'.f=k.c.f∧tiC c'=(if k.act=true then(tiC k.c).set s 2 else tiC k.c)∧H'=jk {k with c:=c'} p++F):=by
 have okc:=ok.c
 obtain⟨c,hc⟩:=jcQ ok hs
 have hsl:s<k.c.l.length:=by rw[ok.n];exact hs
 refine Call.enter2 (n:=9) (by kernel_rfl) Tryz.func71 rfl rfl rfl ?_;refine yr2 ?_;refine ze ?_;intro b2;refine yq8 fun T hT=>?_
 refine(CallV.part (CallV.fn (mktouch_K (F:=(b2,cells [.pointer (some ⟨k.b,0,none⟩)] 77)::F) (g:=143) (cap:=[.pointer (some ⟨b2,0,none⟩)])
  (R:=fun H'=> ∃ c',MkOk {k with c:=c'} p∧c'.f=k.c.f∧tiC c'=(tiC k.c).set s 2∧H'=jk {k with c:=c'} p++((b2,cells [.pointer (some ⟨k.b,0,none⟩)] 77)::F)) ok hc ?_)) ja).mono ?_
 ·intro ha;refine zen ?_;refine Call.enter2 (n:=9) (by kernel_rfl) Tryz.func143 rfl rfl rfl ?_;rw[ji];refine yq6 fun T hT=>?_;refine(CallV.part (CallV.fn (je0 okc hsl)) ja).mono ?_;rintro _ _ ⟨rfl,c',kc,cb,cf,cc,rfl⟩;refine za ?_;clear hT T;refine yr1 ?_;rw[←cb]
  have hcn:c'.l.length=p.g.slots:=by have:=congrArg List.length cc;rw [jaB,List.length_set,jaB,ok.n] at this;exact this
  exact KE.finN (H':=jk {k with c:=c'} p++((b2,cells [.pointer (some ⟨k.b,0,none⟩)] 77)::F)) jd rfl jc (by rw[ji];exact ja) ⟨rfl,c',⟨kc,ok.g,hcn,ok.o,ok.hs⟩,cf,cc,rfl⟩
 ·rintro _ H' ⟨rfl,h1,h2⟩
  cases ha:k.act with
  |true=>
   obtain⟨c',kc,cf,cc,rfl⟩:=h1 ha
   refine za ?_;clear hT T;refine yr4 ?_;exact KE.fin jd rfl jc ja ⟨rfl,c',kc,cf,by rw[if_pos ha];exact cc,rfl⟩
  |false=>
   obtain rfl:=h2 ha
   refine za ?_;clear hT T;refine yr4 ?_;exact KE.fin jd rfl jc ja ⟨rfl,k.c,ok,rfl,by rw[if_neg (by rw[ha];decide)],rfl⟩
end
theorem mkNew_K {w0:World} {F:jb} {B:BoM} {x:List Int} {T:TbM} {N:PiM} {nw long:Nat} (hG:jw w0) (ok:jaq B x) (okT:TbOk T) (okN:PiOk N) (hN:N.l.length=B.p.g.slots) (hw:nw≤8) (hl:1≤long∧long≤64):
  Call Tryz.prog w0 62 [.pointer (some ⟨B.b,0,none⟩), .pointer (some ⟨B.p.b,0,none⟩), .pointer (some ⟨T.b,0,none⟩), .pointer (some ⟨N.b,0,none⟩), .int .i64 (nw:Nat), .int .i64 (long:Nat)] (jX B++(jx B.m++(planH B.p++(jL T++(Jp N++F)))))
   (fun r H'=> ∃ k,MkOk k B.p∧MkNil k B.p∧k.act=false∧k.c.f=1∧k.bb=B.b∧k.tb=T.b∧k.nb=N.b∧k.hs.length=nw+1∧k.g.ring.length=long∧r= .tuple [.pointer (some ⟨k.b,0,none⟩), .int .i64 0].toArray∧H'=jk k B.p++(jX B++(jx B.m++(planH B.p++(jL T++(Jp N++F)))))):=by
 have okp:=ok.p
 have hs:=okp.g.slots
 obtain⟨y,hy⟩:=Jg (g:=B.p.g) (i:=0) (by omega)
 have hne: ¬((B.p.g.slots:Nat):Int)=0:=by omega
 have hT:=okT.n
 have hne2: ¬((T.l.length:Nat):Int)=0:=by omega
 have hne3: ¬((N.l.length:Nat):Int)≠(B.p.g.slots:Nat):=by omega
 have hgt: ¬((nw:Nat):Int)>8:=by omega
 have he:((nw:Nat):Int)+1=((nw+1:Nat):Int):=by omega
 have hhead:=fun A=>jdN (w0:=w0) (F:=A) (s:=0) hG ok hy
 have hhv: ∃ c r w e,headV (headP x y)= .tuple [.agg [.int .i64 c, .int .i64 r, .int .i64 w].toArray, .int .i64 e].toArray∧e≠1:=by
  unfold headV
  cases headP x y with
  |none=>exact⟨0,0,0,5,rfl,by decide⟩
  |some h=>exact⟨h.c,h.r,h.w,0,rfl,by decide⟩
 obtain⟨c,r,w,e,hev,hen⟩:=hhv
 simp only[hev] at hhead
 have hen': ¬e=1:=hen
 refine Call.enter6 (n:=83) (by kernel_rfl) Tryz.func62 rfl rfl rfl ?_;refine yq9 fun T hT=>?_;refine zaH ?_;clear hT T;refine yr3 ?_;refine zf ?_;intro b14;refine yq14 fun T hT=>?_;refine zaV ?_;clear hT T;refine yq7 fun T hT=>?_;refine(CallV.part (CallV.fn (jfT okT)) ja).mono ?_;refine zc ?_;clear hT T;refine yq7 fun T hT=>?_;refine(CallV.part (CallV.fn (piCopy_K okN)) ja).mono ?_;rintro _ _ ⟨N',_,_,rfl,rfl⟩;refine za ?_;clear hT T;refine yq21 fun T hT=>?_;refine(CallV.part (CallV.fn (piLen_K okN)) ja).mono ?_;refine zc ?_;clear hT T;refine yq3 fun T hT=>?_;refine zaV ?_;clear hT T;refine yq14 fun T hT=>?_;refine(CallV.part (CallV.fn (grNew_K okp hl)) ja).mono ?_;rintro _ _ ⟨g,kg,gn,gl,rfl,rfl⟩;refine za ?_;clear hT T;refine yq20 fun T hT=>?_;refine zaV ?_;clear hT T;refine zz fun T hT=>?_;refine(CallV.fn (tiNew_K (n:=B.p.g.slots) (by omega))).mono ?_;rintro _ _ ⟨t,kt,tf,tc,rfl,rfl⟩;refine za ?_;clear hT T;refine yr7 ?_;refine zk ?_;refine yr8 ?_;rw[he];refine KL.e rfl (Eff.makeR (E:=Ja) (x0:=⟨0,0,false⟩) rfl rfl rfl rfl rfl rfl (by omega)) ?_;rintro _ _ ⟨o79,ok79,rfl,rfl⟩;refine yr1 ?_;refine ze ?_;intro b81;refine yr6 ?_
 have hcn:t.l.length=B.p.g.slots:=by have:=congrArg List.length tc;rw [jaB,List.length_replicate] at this;exact this
 exact KE.fin (H':=jk ⟨b81,t,g,List.replicate (nw+1) ⟨0,0,false⟩,o79,0,false,0,B.b,T.b,N.b⟩ B.p++(jX B++(jx B.m++(planH B.p++(jL T++(Jp N++F)))))) jd rfl jc (by simp only[ji,List.length_replicate];exact ja)
  ⟨⟨b81,t,g,List.replicate (nw+1) ⟨0,0,false⟩,o79,0,false,0,B.b,T.b,N.b⟩,⟨kt,kg,hcn,ok79,by simp;omega⟩,⟨tc,gn,by simp,rfl,rfl⟩,rfl,tf,rfl,rfl,rfl,by simp,gl,rfl,rfl⟩
open Go.RowKit
set_option maxRecDepth 10000
structure GvS where
 i:Nat
 l:List Bool
theorem jeS {A D:List Bool} {i:Nat} {a d:Bool} (ha:A[i]?=some a) (hd:D[i]?=some d):(jaL A D i).set i (a&&!d)=jaL A D (i+1):=by
 apply List.ext_getElem?
 intro j
 have hi:=jl ha
 by_cases hj:j<A.length
 ·rw[jbu hj]
  by_cases hij:j=i
  ·subst hij;rw[List.getElem?_set_self (by rw[jbi];exact hj),ha,hd];simp
  ·rw[List.getElem?_set_ne (by omega),jbu hj]
   have e:decide (j<i)=decide (j<i+1):=decide_eq_decide.2 (by omega)
   rw[e]
 ·rw[List.getElem?_eq_none (by simp[jbi];omega),List.getElem?_eq_none (by rw[jbi];omega)]
theorem lessK_full {A D:List Bool} (hl:D.length=A.length):jaL A D A.length=jaC A D:=by
 apply List.ext_getElem?
 intro j
 by_cases hj:j<A.length
 ·rw[jbu hj,jen j hl.symm,List.getElem?_eq_getElem hj];simp[hj]
 ·rw[List.getElem?_eq_none (by rw[jbi];omega),List.getElem?_eq_none (by rw[jem];omega)]
section
variable {w0 : World} {D F : jb} {v : PlV} {va vd : Value} {g : PlG} {A R : List Bool}
set_option maxHeartbeats 2000000 in
theorem rGiveAll_K (hA:ArD w0 D v va g A) (hR: ∀ H,Part H (D++F)→Sli w0 H boE vd R) (hd1:vd.oneCell'=true) (hl:R.length=A.length) (hb:A.length≤65536):
  Call Tryz.prog w0 172 [.agg (arL v g va).toArray,vd] (D++F) (fun r H'=> ∃ (va':Value) (N:jb),ArD w0 (N++D) v va' g (J0 A R).2∧r= .tuple [.agg (arL v g va').toArray, .int .i64 (J0 A R).1].toArray∧H'=N++(D++F)):=by
 have haA:=hA.a
 have hRR:=hR _ Part.all
 have q1:=hA.p.oL
 have q2:=hA.p.oF
 have q3:=hA.p.oM
 have q4:=hA.p.oC
 have q5:=hA.o
 have hgp:J0 A R=if ja4 A R then(0,jaC A R) else(9,A):=by unfold J0;rw [if_pos hl]
 have hne: ¬((R.length:Nat):Int)≠((A.length:Nat):Int):=by omega
 unfold arL;refine Call.enter2 (n:=55) (by kernel_rfl) Tryz.func172 rfl rfl rfl ?_;refine yr2 ?_;refine zj ?_;intro b2 b4;refine yr19 ?_;refine zt ?_;intro b15;refine yr2 ?_;refine KL.e rfl (Eff.appLit (E:=boE) (ys:=A) rfl rfl rfl rfl rfl rfl rfl jq (by first|exact Sli.blk jq rfl (by first|decide|simp) (by first|decide|(unfold maxLen;omega)) rfl|exact Sli.old (by assumption)|exact Sli.own jh (by assumption) jG|assumption|exact Sli.part (by assumption) ja) (by first|assumption|omega|(simp<;>fail)|(simp;omega)) rfl) ?_;rintro _ _ ⟨o',ok',rfl,rfl⟩;refine yr10 ?_;refine K.loopT (σ:=GvS) [(1,_),(2,_),(4,_),(6,_)] (fun s kp_=>(7, .int .i64 (s.i:Nat))::kp_) (fun s=>(oH boE 4 s.l o'++((b2,cells [v.L,v.F,v.M, .int .i64 (g.words:Nat),v.C,va] 35)::(b4,cells [.slice none 0 0, .slice none 0 0, .slice none 0 0, .int .i64 0, .slice none 0 0, .slice none 0 0] 35)::(D++F)))) (fun s=>s.i≤A.length∧s.l=jaL A R s.i∧oOk boE s.l o'∧ ∀ j:Nat,j<s.i→R[j]?=some true→A[j]?=some true) (fun s=>A.length-s.i) (⟨0,A⟩) jg ja (⟨Nat.zero_le _,(jgE A R).symm,ok',fun j h=>by simp at h⟩) ?_;rintro⟨i,l⟩ ⟨hi,hl2,okl,hno⟩;dsimp only at hi hl2 okl hno⊢
 have hll:l.length=A.length:=by rw[hl2,jbi]
 by_cases hlt:i<A.length
 ·have hill:i<l.length:=by omega
  obtain⟨a,ha⟩:=jn hlt
  obtain⟨d,hd⟩:=jn (l:=R) (k:=i) (by omega)
  have hli:l[i]?=some a:=by rw[hl2,jbu hlt,ha];simp
  have hno1:(d=true→a=true)→ ∀ j:Nat,j<i+1→R[j]?=some true→A[j]?=some true:=fun h j h1 h2=>by
   by_cases hj:j=i
   ·subst hj;rw [hd] at h2;rw [ha];cases h2;rw [h rfl]
   ·exact hno j (by omega) h2
  cases d with
  |true=>
   cases a with
   |false=>
    have hoa:ja4 A R=false:=ok_bad ha hd
    rw[hoa] at hgp;simp only[Bool.false_eq_true,if_false] at hgp;rw[hgp];refine yr50 ?_;exact KE.fin (H':=D++F) jd rfl jc ja ⟨va,[],hA,rfl,rfl⟩
   |true=>
    refine yr67 ?_;exact KE.again ⟨i+1,l.set i (true&&!true)⟩ jg ja ⟨hlt,by show l.set i (true&&!true)=_;rw [hl2];exact jeS ha hd,okl.set i _,hno1 (by intro _;rfl)⟩ (by show A.length-(i+1)<A.length-i;omega)
  |false=>
   cases a with
   |false=>
    refine yr57 ?_;exact KE.again ⟨i+1,l.set i (false&&!false)⟩ jg ja ⟨hlt,by show l.set i (false&&!false)=_;rw [hl2];exact jeS ha hd,okl.set i _,hno1 (by intro h;cases h)⟩ (by show A.length-(i+1)<A.length-i;omega)
   |true=>
    refine yr62 ?_;exact KE.again ⟨i+1,l.set i (true&&!false)⟩ jg ja ⟨hlt,by show l.set i (true&&!false)=_;rw [hl2];exact jeS ha hd,okl.set i _,hno1 (by intro h;cases h)⟩ (by show A.length-(i+1)<A.length-i;omega)
 ·have hie:i=A.length:=by omega
  subst hie
  have hoa:ja4 A R=true:=ok_all fun j hj=>hno j (by have:=jl hj;omega) hj
  rw[hoa] at hgp;simp only[if_true] at hgp;rw[lessK_full hl] at hl2;rw[hgp,←hl2];refine yr26 ?_;exact KE.fin (H':=oH boE 4 l o'++(D++F)) jd rfl jc ja ⟨oV o' l.length,_,⟨hA.p.part ja,Sli.own jh okl rfl,jK _ _⟩,by rw[hll];rfl,rfl⟩
end
set_option maxRecDepth 10000
theorem jf0 {R:List RwD} {t:Nat} {q:RwD} (h:R[t]?=some q):(rwX R)[t]?=some q.x:=by unfold rwX;rw [List.getElem?_map,h];rfl
theorem rwX_of {R:List RwD} {t:Nat} {x:List Int} (h:(rwX R)[t]?=some x): ∃ q,R[t]?=some q∧q.x=x:=by
 unfold rwX at h;rw[List.getElem?_map] at h
 cases hq:R[t]? with
 |none=>rw [hq] at h;cases h
 |some q=>rw [hq] at h;exact⟨q,rfl,by simpa using h⟩
structure WtS where
 k:Nat
 oo:Own
 R:List RwD
 N:jb
section
variable {w0 : World} {D F : jb} {vr : Value} {R : List RwD} {t a : Nat} {q : RwD} {x : List Int}
theorem rIn_K (hM:jat w0 D vr R) (hR:R.length≤1000) (hq:R[t]?=some q) (ha:a<q.x.length):
  Call Tryz.prog w0 307 [.agg [vr].toArray, .int .i64 (t:Nat), .int .i64 (a:Nat)] (D++F) (fun r H'=>r= .int .i64 0∧H'=D++F):=by
 have hr:=hM.r
 have ho:=hM.o
 have hx:=hM.x q (List.mem_of_getElem? hq)
 have htl:=jl hq
 have hge: ¬((t:Nat):Int)≥((R.length:Nat):Int):=by omega
 have hge2: ¬((a:Nat):Int)≥((q.x.length:Nat):Int):=by omega
 refine Call.enter3 (n:=28) (by kernel_rfl) Tryz.func307 rfl rfl rfl ?_;refine yr2 ?_;refine ze ?_;intro b3;refine yr59 ?_;exact zd
theorem rLoad_K {w:Int} (hM:jat w0 D vr R) (hR:R.length≤1000) (hq:R[t]?=some q) (hw:q.x[a]?=some w):
  Call Tryz.prog w0 278 [.agg [vr].toArray, .int .i64 (t:Nat), .int .i64 (a:Nat)] (D++F) (fun r H'=>r= .tuple [.int .u64 w, .int .i64 0].toArray∧H'=D++F):=by
 have hr:=hM.r
 have ho:=hM.o
 have hx:=hM.x q (List.mem_of_getElem? hq)
 have htl:=jl hq
 have hal:=jl hw
 refine Call.enter3 (n:=24) (by kernel_rfl) Tryz.func278 rfl rfl rfl ?_;refine yr2 ?_;refine ze ?_;intro b3;refine yq9 fun T hT=>?_;refine(CallV.part (CallV.fn (rIn_K hM hR hq hal)) ja).mono ?_;refine zc ?_;clear hT T;refine yr28 ?_;exact zd
theorem rwith_K {w:Int} (hM:jat w0 D vr R) (hR:R.length≤1000) (hq:R[t]?=some q) (ha:a<q.x.length) (hl:q.x.length≤4294967296):
  Call Tryz.prog w0 317 [.agg [vr].toArray, .int .i64 (t:Nat), .int .i64 (a:Nat), .int .u64 w] (D++F) (fun r H'=> ∃ (vr':Value) (R':List RwD) (N:jb),jat w0 (N++D) vr' R'∧rwX R'=(rwX R).set t (q.x.set a w)∧r= .agg [vr'].toArray∧H'=N++(D++F)):=by
 have hr:=hM.r
 have ho:=hM.o
 have htl:=jl hq
 have hrl:(rwX R).length=R.length:=by simp[rwX]
 obtain⟨X,hX⟩: ∃ X,X=(rwX R).set t (q.x.set a w):=⟨_,rfl⟩
 have hXl:X.length=R.length:=by rw[hX,List.length_set,hrl]
 have hXt:X[t]?=some (q.x.set a w):=by rw[hX,List.getElem?_set_self (by omega)]
 have hXn: ∀ k q',k≠t→R[k]?=some q'→X[k]?=some q'.x:=fun k q' h1 h2=>by rw[hX,List.getElem?_set_ne (by omega)];exact jf0 h2
 rw[←hX];clear hX;refine Call.enter4 (n:=41) (by kernel_rfl) Tryz.func317 rfl rfl rfl ?_;refine yr2 ?_;refine zj ?_;intro b4 b8;refine yr4 ?_;refine zf ?_;intro b9;refine yr9 ?_;refine K.loopT (σ:=WtS) [(1,_),(2,_),(3,_),(4,_),(8,_),(9,_)] (fun s kp_=>(10, .int .i64 (s.k:Nat))::kp_) (fun s=>(s.N++(oH rwE 108 s.R s.oo++((b9,cells [oV s.oo s.R.length] 38)::(b4,cells [vr] 38)::(b8,cells [.slice none 0 0] 38)::(D++F))))) (fun s=>s.k≤R.length∧oOk rwE s.R s.oo∧rwX s.R=X.take s.k∧ ∀ q'∈s.R,Sli w0 (s.N++D) uE (.slice q'.a q'.n q'.c) q'.x) (fun s=>R.length-s.k) (⟨0,none,[],[]⟩) jg ja (⟨Nat.zero_le _,rfl,rfl,fun q' h=>by cases h⟩) ?_;rintro⟨k,oo,R1,N1⟩ ⟨hk,hoo,hX1,hs1⟩;dsimp only at hk hoo hX1 hs1⊢
 have hR1:R1.length=k:=by have:=congrArg List.length hX1;simp[rwX,hXl] at this;omega
 by_cases hlt:k<R.length
 ·obtain⟨q',hq'⟩:=jn hlt
  have hx':=hM.x q' (List.mem_of_getElem? hq')
  by_cases hkt:k=t
  ·have hkt':((k:Nat):Int)=((t:Nat):Int):=by rw[hkt]
   have hqq:q'=q:=by rw[hkt] at hq';rw [hq] at hq';cases hq';rfl
   subst hqq
   obtain⟨v0,hv0⟩:=jn ha
   refine yr36 ?_;refine zt ?_;intro b27;refine yr1 ?_;refine KL.e rfl (Eff.appLit (E:=uE) (ys:=q'.x) rfl rfl rfl rfl rfl rfl rfl jq (by first|exact Sli.blk jq rfl (by first|decide|simp) (by first|decide|(unfold maxLen;omega)) rfl|exact Sli.old (by assumption)|exact Sli.own jh (by assumption) jG|assumption|exact Sli.part (by assumption) ja) (by first|assumption|omega|(simp<;>fail)|(simp;omega)) rfl) ?_;rintro _ _ ⟨o',ok',rfl,rfl⟩;refine yr11 ?_
   have hset:=ok'.set a w
   have hlen:(q'.x.set a w).length=q'.x.length:=List.length_set
   cases o' with
   |none=>
    exfalso
    simp only[oOk] at ok';rw[ok'] at ha;simp at ha
   |some ob=>
    have hnew: ∀ A,Sli w0 (oH uE 116 (q'.x.set a w) (some ob)++A) uE (.slice (some ⟨ob.b,0,none⟩) q'.x.length ob.c) (q'.x.set a w):=fun A=>Sli.own jP.head hset hlen.symm
    have hXs:X.take (k+1)=X.take k++ [q'.x.set a w]:=by rw[hkt];exact jaP hXt
    have hbd:(R1++ [(⟨some ⟨ob.b,0,none⟩,q'.x.length,ob.c,q'.x.set a w⟩:RwD)]).length≤4294967296:=by simp;omega
    obtain⟨qn,hqn⟩: ∃ qn:RwD,qn=⟨some ⟨ob.b,0,none⟩,q'.x.length,ob.c,q'.x.set a w⟩:=⟨_,rfl⟩
    refine zk ?_;refine yr3 ?_;refine zt ?_;intro b37;refine KL.e rfl (Eff.appZ (E:=rwE) (xs:=R1) (o:=oo) (ys:=[⟨some ⟨ob.b,0,none⟩,q'.x.length,ob.c,q'.x.set a w⟩]) (zs:=R1++ [⟨some ⟨ob.b,0,none⟩,q'.x.length,ob.c,q'.x.set a w⟩]) rfl rfl rfl rfl rfl rfl jh (by assumption) (by first|exact Sli.blk jq rfl (by first|decide|simp) (by first|decide|(unfold maxLen;omega)) rfl|exact Sli.old (by assumption)|exact Sli.own jh (by assumption) jG|assumption|exact Sli.part (by assumption) ja) (rfl) (by first|assumption|omega|(simp<;>fail)|(simp;omega)) rfl) ?_;rintro _ _ ⟨o',ok',rfl,rfl⟩;refine yr10 ?_
    exact KE.again ⟨k+1,o',R1++ [⟨some ⟨ob.b,0,none⟩,q'.x.length,ob.c,q'.x.set a w⟩],oH uE 116 (q'.x.set a w) (some ob)++N1⟩ jg ja ⟨hlt,ok',by show rwX _=_;rw [hXs,←hX1];simp[rwX],fun q2 h2=>by
     rcases List.mem_append.1 h2 with h2|h2
     ·exact(hs1 q2 h2).part ja
     ·rw[List.mem_singleton.1 h2,List.append_assoc];exact hnew _⟩ (by show R.length-(k+1)<R.length-k;omega)
  ·have hkt': ¬((k:Nat):Int)=((t:Nat):Int):=by omega
   have hXs:X.take (k+1)=X.take k++ [q'.x]:=jaP (hXn k q' hkt hq')
   have hbd:(R1++ [(⟨q'.a,q'.n,q'.c,q'.x⟩:RwD)]).length≤4294967296:=by simp;omega
   refine yr36 ?_;refine zk ?_;refine yr3 ?_;refine zt ?_;intro b37;refine KL.e rfl (Eff.appZ (E:=rwE) (xs:=R1) (o:=oo) (ys:=[⟨q'.a,q'.n,q'.c,q'.x⟩]) (zs:=R1++ [⟨q'.a,q'.n,q'.c,q'.x⟩]) rfl rfl rfl rfl rfl rfl jh (by assumption) (by first|exact Sli.blk jq rfl (by first|decide|simp) (by first|decide|(unfold maxLen;omega)) rfl|exact Sli.old (by assumption)|exact Sli.own jh (by assumption) jG|assumption|exact Sli.part (by assumption) ja) (rfl) (by first|assumption|omega|(simp<;>fail)|(simp;omega)) rfl) ?_;rintro _ _ ⟨o',ok',rfl,rfl⟩;refine yr10 ?_
   exact KE.again ⟨k+1,o',R1++ [⟨q'.a,q'.n,q'.c,q'.x⟩],N1⟩ jg ja ⟨hlt,ok',by show rwX _=_;rw [hXs,←hX1];simp[rwX],fun q2 h2=>by
    rcases List.mem_append.1 h2 with h2|h2
    ·exact hs1 q2 h2
    ·rw[List.mem_singleton.1 h2];exact hx'.part ja⟩ (by show R.length-(k+1)<R.length-k;omega)
 ·have hkR:k=R.length:=by omega
  have hX2:rwX R1=X:=by rw[hX1,List.take_of_length_le (by omega)]
  refine yr23 ?_;exact KE.fin (H':=(N1++oH rwE 108 R1 oo)++(D++F)) jd rfl jc (by rw[List.append_assoc];exact ja) ⟨oV oo R1.length,R1,_,⟨Sli.own (H:=(N1++oH rwE 108 R1 oo)++D) (by rw[List.append_assoc];exact jh) hoo rfl,jK _ _,fun q2 h2=>(hs1 q2 h2).part (by rw[List.append_assoc];exact ja)⟩,hX2,rfl,rfl⟩
end
open Go.RowKit
set_option maxRecDepth 10000
structure ZrS where
 i:Nat
 vr:Value
 R:List RwD
 N:jb
theorem jhE {x:List Int} {a i:Nat} (h:a+i<x.length):(cleared x a (a+i) 0).set (a+i) 0=cleared x a (a+(i+1)) 0:=by
 apply List.ext_getElem?
 intro j
 have key: ∀ (b:Nat),a≤b→b≤x.length→ ∀ j:Nat,(cleared x a b 0)[j]?=if a≤j∧j<b then some 0 else x[j]? :=by
  intro b h1 h2 j;unfold cleared
  rcases Nat.lt_or_ge j a with hj|hj
  ·rw[List.append_assoc,List.getElem?_append_left (by rw[List.length_take];omega),List.getElem?_take_of_lt hj,if_neg (by omega)]
  ·rcases Nat.lt_or_ge j b with hb|hb
   ·rw[List.append_assoc,List.getElem?_append_right (by rw[List.length_take];omega),List.getElem?_append_left (by rw[List.length_replicate,List.length_take];omega),List.getElem?_replicate,if_pos (by rw[List.length_take];omega),if_pos ⟨hj,hb⟩]
   ·rw[List.getElem?_append_right (by rw[List.length_append,List.length_take,List.length_replicate];omega),List.getElem?_drop,if_neg (by omega)]
    congr 1
    rw[List.length_append,List.length_take,List.length_replicate];omega
 by_cases hj:j=a+i
 ·subst hj;rw[List.getElem?_set_self (by rw[jcz (by omega) (by omega)];exact h),key _ (by omega) (by omega),if_pos (by omega)]
 ·rw[List.getElem?_set_ne (by omega),key _ (by omega) (by omega),key _ (by omega) (by omega)]
  by_cases hc:a≤j∧j<a+i
  ·rw[if_pos hc,if_pos (by omega)]
  ·rw[if_neg hc,if_neg (by omega)]
section
variable {w0 : World} {D F : jb} {vr : Value} {R : List RwD} {t a n : Nat} {q : RwD} {x : List Int}
theorem rStore_K {w:Int} (hM:jat w0 D vr R) (hR:R.length≤1000) (hq:R[t]?=some q) (ha:a<q.x.length) (hl:q.x.length≤4294967296):
  Call Tryz.prog w0 298 [.agg [vr].toArray, .int .i64 (t:Nat), .int .i64 (a:Nat), .int .u64 w] (D++F) (fun r H'=> ∃ (vr':Value) (R':List RwD) (N:jb),jat w0 (N++D) vr' R'∧rwX R'=(rwX R).set t (q.x.set a w)∧r= .tuple [.agg [vr'].toArray, .int .i64 0].toArray∧H'=N++(D++F)):=by
 have ho:=hM.o
 refine Call.enter4 (n:=24) (by kernel_rfl) Tryz.func298 rfl rfl rfl ?_;refine yr2 ?_;refine zj ?_;intro b4 b8;refine yq8 fun T hT=>?_;refine(CallV.part (CallV.fn (rIn_K hM hR hq ha)) ja).mono ?_;refine zc ?_;clear hT T;refine yq19 fun T hT=>?_;refine(CallV.part (CallV.fn (rwith_K hM hR hq ha hl)) ja).mono ?_;rintro _ _ ⟨vr',R',N,hM',hX,rfl,rfl⟩
 have ho':=hM'.o
 refine za ?_;clear hT T;refine yr5 ?_;exact KE.fin jd rfl jc ja ⟨vr',R',N,hM',hX,rfl,rfl⟩
theorem rZero_K (hM:jat w0 D vr R) (hR:R.length≤1000) (hq:R[t]?=some q) (ha:a+n≤q.x.length) (hl:q.x.length≤4294967296):
  Call Tryz.prog w0 302 [.agg [vr].toArray, .int .i64 (t:Nat), .int .i64 (a:Nat), .int .i64 (n:Nat)] (D++F) (fun r H'=> ∃ (vr':Value) (R':List RwD) (N:jb),jat w0 (N++D) vr' R'∧rwX R'=(rwX R).set t (cleared q.x a (a+n) 0)∧r= .tuple [.agg [vr'].toArray, .int .i64 0].toArray∧H'=N++(D++F)):=by
 have hr:=hM.r
 have ho:=hM.o
 have htl:=jl hq
 have hx:=hM.x q (List.mem_of_getElem? hq)
 have hrl:(rwX R).length=R.length:=by simp[rwX]
 have hge: ¬((t:Nat):Int)≥((R.length:Nat):Int):=by omega
 have hgt: ¬((a:Nat):Int)>((q.x.length:Nat):Int):=by omega
 have hgt2: ¬((n:Nat):Int)>((q.x.length:Nat):Int)-((a:Nat):Int):=by omega
 have h0:rwX R=(rwX R).set t (cleared q.x a (a+0) 0):=by
  rw[Nat.add_zero,jgh]
  apply List.ext_getElem?
  intro j
  by_cases hj:j=t
  ·subst hj;rw [List.getElem?_set_self (by omega)];exact jf0 hq
  ·rw[List.getElem?_set_ne (by omega)]
 refine Call.enter4 (n:=62) (by kernel_rfl) Tryz.func302 rfl rfl rfl ?_;refine yr2 ?_;refine zj ?_;intro b4 b8;refine yr88 ?_;refine K.loopT (σ:=ZrS) [(1,_),(2,_),(3,_),(4,_),(8,_)] (fun s kp_=>(10, .int .i64 (s.i:Nat))::kp_) (fun s=>(b4,cells [s.vr] 38)::(b8,cells [.slice none 0 0] 38)::(s.N++(D++F))) (fun s=>s.i≤n∧jat w0 (s.N++D) s.vr s.R∧rwX s.R=(rwX R).set t (cleared q.x a (a+s.i) 0)) (fun s=>n-s.i) (⟨0,vr,R,[]⟩) jg ja (⟨Nat.zero_le _,hM,h0⟩) ?_;rintro⟨i,v1,R1,N⟩ ⟨hi,hM1,hX1⟩;dsimp only at hi hM1 hX1⊢
 have ho1:=hM1.o
 by_cases hlt:i<n
 ·have hR1:R1.length=R.length:=by have:=congrArg List.length hX1;rw [List.length_set,hrl] at this;simpa [rwX] using this
  obtain⟨q1,hq1,hqx⟩:=rwX_of (R:=R1) (t:=t) (x:=cleared q.x a (a+i) 0) (by rw[hX1,List.getElem?_set_self (by omega)])
  have hql:q1.x.length=q.x.length:=by rw[hqx];exact jcz (by omega) (by omega)
  have hai:((a:Nat):Int)+((i:Nat):Int)=((a+i:Nat):Int):=by omega
  refine yq19 fun T hT=>?_;rw[hai];refine(CallV.part (CallV.fn (rwith_K (F:=(b4,cells [v1] 38)::(b8,cells [.slice none 0 0] 38)::F) hM1 (by omega) hq1 (a:=a+i) (by omega) (by omega))) (by rw[List.append_assoc];exact ja)).mono ?_;rintro _ _ ⟨v2,R2,N2,hM2,hX2,rfl,rfl⟩
  have ho2:=hM2.o
  rw[hqx,hX1,List.set_set,jhE (by omega)] at hX2;rw[←List.append_assoc] at hM2;refine za ?_;clear hT T;simp only[List.append_assoc];refine yr9 ?_;exact KE.again ⟨i+1,v2,R2,N2++N⟩ jg (by simp only[List.append_assoc];exact ja) ⟨hlt,hM2,hX2⟩ (by show n-(i+1)<n-i;omega)
 ·have hin:i=n:=by omega
  subst hin;refine yr22 ?_;exact KE.fin jd rfl jc ja ⟨v1,R1,N,hM1,hX1,rfl,rfl⟩
structure AlS where
 k:Nat
 o:Own
theorem rAll_K (hM:jat w0 D vr R) (hR:R.length≤1000) (hl:(rwX R).flatten.length≤1000000000):
  Call Tryz.prog w0 91 [.agg [vr].toArray] (D++F) (fun r H'=> ∃ o,oOk uE (rwX R).flatten o∧r=oV o (rwX R).flatten.length∧H'=oH uE 116 (rwX R).flatten o++(D++F)):=by
 have hr:=hM.r
 have ho:=hM.o
 have hrl:(rwX R).length=R.length:=by simp[rwX]
 have hle: ∀ k,((rwX R).take k).flatten.length≤1000000000:=fun k=>by
  refine Nat.le_trans ?_ hl
  conv=>rhs;rw [←List.take_append_drop k (rwX R),List.flatten_append,List.length_append]
  omega
 refine Call.enter1 (n:=20) (by kernel_rfl) Tryz.func91 rfl rfl rfl ?_;refine yr2 ?_;refine ze ?_;intro b1;refine yr15 ?_;refine K.loopT (σ:=AlS) [(1,_)] (fun s kp_=>(4, .int .i64 (s.k:Nat))::(3,oV s.o ((rwX R).take s.k).flatten.length)::kp_) (fun s=>oH uE 116 ((rwX R).take s.k).flatten s.o++((b1,cells [vr] 38)::(D++F))) (fun s=>s.k≤R.length∧oOk uE ((rwX R).take s.k).flatten s.o) (fun s=>R.length-s.k) (⟨0,none⟩) jg ja (⟨Nat.zero_le _,rfl⟩) ?_;rintro⟨k,o⟩ ⟨hk,ko⟩;dsimp only at hk ko⊢
 have hlk:=hle (k+1)
 by_cases hlt:k<R.length
 ·obtain⟨q,hq⟩:=jn hlt
  have hx:=hM.x q (List.mem_of_getElem? hq)
  have hsn:((rwX R).take k).flatten++q.x=((rwX R).take (k+1)).flatten:=by rw[jaP (jf0 hq),List.flatten_append];simp
  have hbd:((rwX R).take (k+1)).flatten.length≤4294967296:=by omega
  refine yr15 ?_;refine zk ?_;refine yr6 ?_;refine KL.e rfl (Eff.appZ (E:=uE) (xs:=((rwX R).take k).flatten) (o:=o) (ys:=q.x) (zs:=((rwX R).take (k+1)).flatten) rfl rfl rfl rfl rfl rfl jh (by assumption) (by first|exact Sli.blk jq rfl (by first|decide|simp) (by first|decide|(unfold maxLen;omega)) rfl|exact Sli.old (by assumption)|exact Sli.own jh (by assumption) jG|assumption|exact Sli.part (by assumption) ja) (hsn) (by first|assumption|omega|(simp<;>fail)|(simp;omega)) rfl) ?_;rintro _ _ ⟨o',ok',rfl,rfl⟩;refine yr9 ?_;exact KE.again ⟨k+1,o'⟩ jg ja ⟨hlt,ok'⟩ (by show R.length-(k+1)<R.length-k;omega)
 ·have he:(rwX R).take k=rwX R:=List.take_of_length_le (by omega)
  rw[he] at ko⊢;refine yr23 ?_;exact zb1
end
set_option maxRecDepth 10000
def boL (v:PlV) (g:PlG) (vr:Value) (t:Nat):List Value:=[vr, .int .i64 (t:Nat),v.L,v.F,v.M, .int .i64 (g.words:Nat),v.C]
structure BoD (w0:World) (D:jb) (v:PlV) (vr:Value) (g:PlG) (R:List RwD):Prop where
 p:J3 w0 D v g
 m:jat w0 D vr R
theorem BoD.part {w0:World} {D D':jb} {v:PlV} {vr:Value} {g:PlG} {R:List RwD} (h:BoD w0 D v vr g R) (hp:Part D' D):BoD w0 D' v vr g R:=⟨h.p.part hp,h.m.part hp⟩
structure BoF (g:PlG) (R:List RwD) (t:Nat) (x:List Int):Prop where
 ok:je g
 n:R.length≤1000
 r:(rwX R)[t]?=some x
 l:x.length=g.words
 w:Jx x
theorem BoF.q {g:PlG} {R:List RwD} {t:Nat} {x:List Int} (h:BoF g R t x): ∃ q,R[t]?=some q∧q.x=x:=rwX_of h.r
theorem BoF.self {g:PlG} {R:List RwD} {t:Nat} {x:List Int} (h:BoF g R t x):rwX R=(rwX R).set t x:=by
 apply List.ext_getElem?
 intro j
 by_cases hj:j=t
 ·subst hj;rw [List.getElem?_set_self (jl h.r)];exact h.r
 ·rw[List.getElem?_set_ne (by omega)]
theorem BoF.next {g:PlG} {R R':List RwD} {t:Nat} {x y:List Int} (h:BoF g R t x) (hX:rwX R'=(rwX R).set t y) (hl:y.length=x.length) (hw:Jx y):BoF g R' t y:=by
 refine⟨h.ok,?_,by rw[hX];exact List.getElem?_set_self (jl h.r),by rw[hl];exact h.l,hw⟩
 have:=congrArg List.length hX
 rw[List.length_set] at this
 have h2:=h.n
 simp only[rwX,List.length_map] at this
 omega
structure StA where
 b9:Nat
 vr:Value
 R:List RwD
 N:jb
section
variable {w0 : World} {D F : jb} {v : PlV} {vr : Value} {g : PlG} {R : List RwD} {t s : Nat} {x : List Int} {y : ju}
theorem rbload_K {i:Nat} (hB:BoD w0 D v vr g R) (hf:BoF g R t x) (hy:g.L[s]?=some y) (hi:y.addr+i<x.length):
  Call Tryz.prog w0 239 [.agg (boL v g vr t).toArray, .int .i64 (s:Nat), .int .i64 (i:Nat)] (D++F) (fun r H'=>r= .int .u64 (wAt x (y.addr+i))∧H'=D++F):=by
 obtain⟨q,hq,hqx⟩:=hf.q
 subst hqx
 have hL:=hB.p.L
 have ho:=hB.m.o
 have q1:=hB.p.oL
 have q2:=hB.p.oF
 have q3:=hB.p.oM
 have q4:=hB.p.oC
 have hsl:=jl hy
 have hfit:=hf.ok.fits hy
 have hww:=hf.ok.words
 have hlx:=hf.l
 have hai:((y.addr:Nat):Int)+((i:Nat):Int)=((y.addr+i:Nat):Int):=by omega
 unfold boL;refine Call.enter3 (n:=27) (by kernel_rfl) Tryz.func239 rfl rfl rfl ?_;refine yr2 ?_;refine ze ?_;intro b3;refine yr4 ?_;refine K.drawn [] [(0,0),(1,0),(2,0),(3,0),(4,0),(5,0),(6,0),(7,0),(8,0),(9,0),(10,0),(11,0),(12,0),(13,2),(14,0),(15,0),(16,0),(17,0),(18,0)] (by kernel_rfl) (by kernel_rfl) (by kernel_rfl) (by kernel_rfl) (by kernel_rfl) (by kernel_rfl) Part.nil ?_;refine zaY ?_;refine zai ?_;refine zB ?_;refine zbh ?_;refine KD.v0 rfl rfl (Val.fieldAddrZ rfl rfl) ?_;refine zo ?_;refine zaD ?_;refine zcC ?_;refine zJ ?_;refine zg ?_;refine zK ?_;refine zi fun T hT=>?_;rw[hai];refine(CallV.part (CallV.fn (rLoad_K hB.m hf.n hq (jfQ hi))) ja).mono ?_;refine zl ?_;clear hT T;refine zc5 ?_;refine zct ?_;refine zab ?_;refine yr8 ?_;exact zd
theorem jg4 {i:Nat} {w:Int} (hB:BoD w0 D v vr g R) (hf:BoF g R t x) (hy:g.L[s]?=some y) (hi:y.addr+i<x.length):
  Call Tryz.prog w0 269 [.agg (boL v g vr t).toArray, .int .i64 (s:Nat), .int .i64 (i:Nat), .int .u64 w] (D++F) (fun r H'=> ∃ (vr':Value) (R':List RwD) (N:jb),BoD w0 (N++D) v vr' g R'∧rwX R'=(rwX R).set t (x.set (y.addr+i) w)∧r= .agg (boL v g vr' t).toArray∧H'=N++(D++F)):=by
 obtain⟨q,hq,hqx⟩:=hf.q
 subst hqx
 have hL:=hB.p.L
 have ho:=hB.m.o
 have q1:=hB.p.oL
 have q2:=hB.p.oF
 have q3:=hB.p.oM
 have q4:=hB.p.oC
 have hsl:=jl hy
 have hfit:=hf.ok.fits hy
 have hww:=hf.ok.words
 have hlx:=hf.l
 have hai:((y.addr:Nat):Int)+((i:Nat):Int)=((y.addr+i:Nat):Int):=by omega
 unfold boL;refine Call.enter4 (n:=35) (by kernel_rfl) Tryz.func269 rfl rfl rfl ?_;refine yr2 ?_;refine zj ?_;intro b4 b8;refine yr2 ?_;refine K.cutT (σ:=StA) [(4,_),(8,_)] jg (fun s kp_=>(9, .pointer (some ⟨s.b9,0,none⟩))::kp_) (fun s=>s.N++((s.b9,cells [s.vr] 38)::(b4,cells [vr, .int .i64 (t:Nat),v.L,v.F,v.M, .int .i64 (g.words:Nat),v.C] 40)::(b8,cells [.slice none 0 0, .int .i64 0, .slice none 0 0, .slice none 0 0, .slice none 0 0, .int .i64 0, .slice none 0 0] 40)::(D++F))) (fun s=>jat w0 (s.N++D) s.vr s.R∧rwX s.R=(rwX R).set t (q.x.set (y.addr+i) w)) ?_ ?_
 ·skip
  refine zw ?_;refine K.drawn ((b4,cells [vr, .int .i64 (t:Nat),v.L,v.F,v.M, .int .i64 (g.words:Nat),v.C] 40)::D) [(0,1),(1,1),(2,1),(3,1),(4,1),(5,1),(6,1),(7,1),(8,1),(9,1),(10,1),(11,1),(12,1),(13,1),(14,3),(15,1),(16,1),(17,1),(18,2),(19,2),(20,0)] (by kernel_rfl) (by kernel_rfl) (by kernel_rfl) (by kernel_rfl) (by kernel_rfl) (by kernel_rfl) ja ?_;refine zX ?_;refine zar ?_;refine zbm ?_;refine zF ?_;refine zaj ?_;refine zX ?_;refine zaT ?_;refine zaj ?_;refine zcp ?_;refine zep ?_;refine zm ?_;refine KD.fork2 (x:=14) (y:=18) (o1:=[(15,1),(16,1),(17,1),(18,2),(19,2),(20,0)]) (o2:=[(14,2),(15,0),(16,0),(17,1),(19,2),(20,0)]) (by kernel_rfl) rfl rfl (by kernel_rfl) (by kernel_rfl) ?_ ?_
  ·refine zak fun T hT=>?_;rw[hai];refine(CallV.part (CallV.fn (rStore_K hB.m hf.n hq hi (by omega))) ja).mono ?_;rintro _ _ ⟨vr',R',N,hM',hX,rfl,rfl⟩
   have ho':=hM'.o
   refine zh ?_;clear hT T;refine zm ?_;refine zaf ?_;refine zaf ?_;refine zad ?_;intro b9;refine zav ?_;exact KE.meet ⟨b9,vr',R',N⟩ jg ja ⟨hM',hX⟩
  ·(refine j3.e rfl (Eff.alloc rfl) ?_;rintro _ _ ⟨b9,rfl,rfl⟩;refine⟨ja,?_⟩)
   refine zi fun T hT=>?_;rw[hai];refine(CallV.part (CallV.fn (rStore_K hB.m hf.n hq hi (by omega))) ja).mono ?_;rintro _ _ ⟨vr',R',N,hM',hX,rfl,rfl⟩
   have ho':=hM'.o
   refine zh ?_;clear hT T;refine zam ?_;refine zav ?_;exact KE.meet ⟨b9,vr',R',N⟩ jg ja ⟨hM',hX⟩
 ·rintro⟨b9,vr',R',N⟩ ⟨hM',hX⟩;dsimp only at hM' hX⊢
  have ho':=hM'.o
  refine yr12 ?_;exact zfn
theorem rblies_K {h:HdP} (hB:BoD w0 D v vr g R) (hy:g.L[s]?=some y):
  Call Tryz.prog w0 240 [.agg (boL v g vr t).toArray, .int .i64 (s:Nat),hdV h] (D++F) (fun r H'=>r= .bool (Js y h)∧H'=D++F):=by
 have hL:=hB.p.L
 have ho:=hB.m.o
 have q1:=hB.p.oL
 have q2:=hB.p.oF
 have q3:=hB.p.oM
 have q4:=hB.p.oC
 have hsl:=jl hy
 have hneed:=fun A=>rNeed_K (w0:=w0) (H:=A) (h:=h)
 obtain⟨c,r,w⟩:=h
 unfold hdV boL at*;dsimp only at*
 cases hm:Jd ⟨c,r,w⟩ with
 |false=>
  have e:Js y ⟨c,r,w⟩=false:=by simp[Js,hm]
  have hn:jag ⟨c,r,w⟩=(0,2):=by simp[jag,hm]
  simp only[hn] at hneed;rw[e];refine zdk ?_;refine yr2 ?_;refine zH ?_;intro b3 b5;refine yq6 fun T hT=>?_;refine zbl ?_;rintro _ _ ⟨rfl,rfl⟩;refine za ?_;clear hT T;refine yr8 ?_;refine zdl ?_;refine zg ?_;refine za4 ?_;refine zaR ?_;refine zZ ?_;refine zbu ?_;refine zag ?_;refine zaR ?_;refine zZ ?_;refine zap ?_;refine zaU ?_;refine yr2 ?_;exact zd
 |true=>
  have hn:jag ⟨c,r,w⟩=(r+w+1,0):=by simp[jag,hm]
  simp only[hn] at hneed
  by_cases h1:c=(y.cls:Nat)
  ·by_cases h2:r+w+1≤(y.size:Nat)
   ·have e:Js y ⟨c,r,w⟩=true:=by unfold Js;rw [hm,Bool.true_and,decide_eq_true h1,decide_eq_true h2];rfl
    rw[e];refine zdk ?_;refine yr2 ?_;refine zH ?_;intro b3 b5;refine yq6 fun T hT=>?_;refine zbl ?_;rintro _ _ ⟨rfl,rfl⟩;refine za ?_;clear hT T;refine yr8 ?_;refine zdl ?_;refine zg ?_;refine zaC ?_;refine za9 ?_;refine zah ?_;refine zal ?_;refine zb9 ?_;refine zR ?_;refine zb5 ?_;refine zer ?_;refine zaq ?_;refine zbM ?_;refine zaA ?_;refine zA ?_;refine zal ?_;refine zb9 ?_;refine zR ?_;refine zb5 ?_;refine zdn ?_;refine zaq ?_;refine zea ?_;refine zaA ?_;refine zy ?_;refine yr2 ?_;exact zd
   ·have e:Js y ⟨c,r,w⟩=false:=by simp[Js,hm,h2]
    rw[e];refine zdk ?_;refine yr2 ?_;refine zH ?_;intro b3 b5;refine yq6 fun T hT=>?_;refine zbl ?_;rintro _ _ ⟨rfl,rfl⟩;refine za ?_;clear hT T;refine yr8 ?_;refine zdl ?_;refine zg ?_;refine zaC ?_;refine za9 ?_;refine zah ?_;refine zal ?_;refine zb9 ?_;refine zR ?_;refine zb5 ?_;refine zer ?_;refine zaq ?_;refine zbM ?_;refine zaA ?_;refine zA ?_;refine zal ?_;refine zb9 ?_;refine zR ?_;refine zb5 ?_;refine zdn ?_;refine zaq ?_;refine zeb ?_;refine zaA ?_;refine zy ?_;refine yr2 ?_;exact zd
  ·have e:Js y ⟨c,r,w⟩=false:=by simp[Js,hm,h1]
   rw[e];refine zdk ?_;refine yr2 ?_;refine zH ?_;intro b3 b5;refine yq6 fun T hT=>?_;refine zbl ?_;rintro _ _ ⟨rfl,rfl⟩;refine za ?_;clear hT T;refine yr8 ?_;refine zdl ?_;refine zg ?_;refine zaC ?_;refine za9 ?_;refine zah ?_;refine zal ?_;refine zb9 ?_;refine zR ?_;refine zb5 ?_;refine zer ?_;refine zaq ?_;refine zes ?_;refine zT ?_;refine zZ ?_;refine zZ ?_;refine zap ?_;refine zaU ?_;refine yr2 ?_;exact zd
end
open Go.RowKit
set_option maxRecDepth 10000
structure WpA where
 b6:Nat
 vr:Value
 R:List RwD
 N:jb
section
variable {w0 : World} {D F : jb} {v : PlV} {vr : Value} {g : PlG} {R : List RwD} {t s : Nat} {x : List Int} {y : ju}
theorem jdv {g:PlG} {s:Nat} {y:ju} (hy:g.L[s]?=some y):decide (0≤((s:Nat):Int)∧((s:Nat):Int)<(g.slots:Nat))=true:=by
 have:=jl hy
 rw[jah] at this;exact decide_eq_true (by omega)
theorem jek (hB:BoD w0 D v vr g R) (hf:BoF g R t x) (hy:g.L[s]?=some y):
  Call Tryz.prog w0 165 [.agg (boL v g vr t).toArray, .int .i64 (s:Nat)] (D++F) (fun r H'=>r=headV (headP x y)∧H'=D++F):=by
 have ho:=hB.m.o
 have q1:=hB.p.oL
 have q2:=hB.p.oF
 have q3:=hB.p.oM
 have q4:=hB.p.oC
 have hHas:=fun A=>jc3 (w0:=w0) (D:=D) (F:=A) (n:=(s:Nat)) hB.p hf.ok
 simp only[jdv hy] at hHas
 obtain⟨f1,f2,_⟩:=hf.ok.fits hy
 have hlx:=hf.l
 have hal:y.addr+0<x.length:=by omega
 have hload:=fun A=>rbload_K (w0:=w0) (D:=D) (F:=A) (i:=0) hB hf hy hal
 obtain⟨w1,w2⟩:=hf.w.at_ y.addr
 obtain⟨w,hw⟩: ∃ w:Nat,wAt x y.addr=w:=⟨(wAt x y.addr).toNat,by omega⟩
 have hhead:headP x y=match getH w with|some h=>if Js y h then some h else none|none=>none:=by unfold headP;rw [hw];rfl
 have hwl:w<18446744073709551616:=by omega
 have hlies:=fun A h=>rblies_K (w0:=w0) (D:=D) (F:=A) (t:=t) (h:=h) hB hy
 simp only[Nat.add_zero,hw] at hload;clear hw w1 w2;unfold boL at*;unfold plL at hHas;refine Call.enter2 (n:=32) (by kernel_rfl) Tryz.func165 rfl rfl rfl ?_;refine yr2 ?_;refine zj ?_;intro b2 b4;refine yq9 fun T hT=>?_;refine zaI ?_;clear hT T;refine yq10 fun T hT=>?_;refine(CallV.part (CallV.fn (hload _)) ja).mono ?_;refine zc ?_;clear hT T;refine zz fun T hT=>?_;refine(CallV.fn (rGet_K hwl)).mono ?_;rintro _ _ ⟨rfl,rfl⟩;unfold ja5
 cases hg:getH w with
 |none=>
  rw[hg] at hhead;dsimp only at hhead⊢;unfold hdV;dsimp only;refine za ?_;clear hT T;rw[hhead];unfold headV hdV;refine yr3 ?_;refine zf ?_;intro b6;refine yr28 ?_;exact zd
 |some h=>
  rw[hg] at hhead;dsimp only at hhead⊢
  have hl1:=fun A=>hlies A h
  obtain⟨c,r,w⟩:=h
  unfold hdV at*;dsimp only at*;refine za ?_;clear hT T;refine yr3 ?_;refine zf ?_;intro b6;refine yq17 fun T hT=>?_;refine(CallV.part (CallV.fn (hl1 _)) ja).mono ?_;refine zq ?_
  cases hl:Js y ⟨c,r,w⟩ with
  |true=>
   rw[hl] at hhead;simp only[if_true] at hhead;refine za ?_;clear hT T;rw[hhead];unfold headV hdV;refine yr16 ?_;exact zd
  |false=>
   rw[hl] at hhead;simp only[Bool.false_eq_true,if_false] at hhead;refine za ?_;clear hT T;rw[hhead];unfold headV hdV;refine yr15 ?_;exact zd
theorem rbWipe_K (hB:BoD w0 D v vr g R) (hf:BoF g R t x) (hy:g.L[s]?=some y):
  Call Tryz.prog w0 273 [.agg (boL v g vr t).toArray, .int .i64 (s:Nat)] (D++F) (fun r H'=> ∃ (vr':Value) (R':List RwD) (N:jb),BoD w0 (N++D) v vr' g R'∧rwX R'=(rwX R).set t (Jo x y)∧r= .tuple [.agg (boL v g vr' t).toArray, .int .i64 0].toArray∧H'=N++(D++F)):=by
 obtain⟨q,hq,hqx⟩:=hf.q
 subst hqx
 have hL:=hB.p.L
 have ho:=hB.m.o
 have q1:=hB.p.oL
 have q2:=hB.p.oF
 have q3:=hB.p.oM
 have q4:=hB.p.oC
 have hsl:=jl hy
 have hfit:=hf.ok.fits hy
 have hww:=hf.ok.words
 have hlx:=hf.l
 have hHas:=fun A=>jc3 (w0:=w0) (D:=D) (F:=A) (n:=(s:Nat)) hB.p hf.ok
 simp only[jdv hy] at hHas;unfold boL;unfold plL at hHas;refine Call.enter2 (n:=42) (by kernel_rfl) Tryz.func273 rfl rfl rfl ?_;refine yr2 ?_;refine zj ?_;intro b2 b4;refine yq9 fun T hT=>?_;refine zaI ?_;clear hT T;refine yr6 ?_;refine K.cutT (σ:=WpA) [(2,_),(4,_)] jg (fun s kp_=>(6, .pointer (some ⟨s.b6,0,none⟩))::kp_) (fun s=>s.N++((s.b6,cells [s.vr] 38)::(b2,cells [vr, .int .i64 (t:Nat),v.L,v.F,v.M, .int .i64 (g.words:Nat),v.C] 40)::(b4,cells [.slice none 0 0, .int .i64 0, .slice none 0 0, .slice none 0 0, .slice none 0 0, .int .i64 0, .slice none 0 0] 40)::(D++F))) (fun s=>jat w0 (s.N++D) s.vr s.R∧rwX s.R=(rwX R).set t (Jo q.x y)) ?_ ?_
 ·skip
  refine zw ?_;refine K.drawn ((b2,cells [vr, .int .i64 (t:Nat),v.L,v.F,v.M, .int .i64 (g.words:Nat),v.C] 40)::D) [(0,1),(1,1),(2,1),(3,1),(4,1),(5,1),(6,1),(7,1),(8,1),(9,1),(10,1),(11,1),(12,1),(13,1),(14,1),(15,1),(16,1),(17,1),(18,3),(19,1),(20,1),(21,1),(22,2),(23,2),(24,0)] (by kernel_rfl) (by kernel_rfl) (by kernel_rfl) (by kernel_rfl) (by kernel_rfl) (by kernel_rfl) ja ?_;refine zX ?_;refine zar ?_;refine zbm ?_;refine zF ?_;refine zaj ?_;refine zX ?_;refine zaT ?_;refine zaj ?_;refine zF ?_;refine zaj ?_;refine zX ?_;refine zaT ?_;refine zbm ?_;refine zF ?_;refine KD.fork2 (x:=18) (y:=22) (o1:=[(19,1),(20,1),(21,1),(22,2),(23,2),(24,0)]) (o2:=[(18,2),(19,0),(20,0),(21,1),(23,2),(24,0)]) (by kernel_rfl) rfl rfl (by kernel_rfl) (by kernel_rfl) ?_ ?_
  ·refine zak fun T hT=>?_;refine zfo ?_;rintro _ _ ⟨vr',R',N,hM',hX,rfl,rfl⟩
   have ho':=hM'.o
   refine zh ?_;clear hT T;refine zm ?_;refine zaf ?_;refine zaf ?_;refine zad ?_;intro b6;refine zav ?_;exact KE.meet ⟨b6,vr',R',N⟩ jg ja ⟨hM',hX⟩
  ·(refine j3.e rfl (Eff.alloc rfl) ?_;rintro _ _ ⟨b6,rfl,rfl⟩;refine⟨ja,?_⟩)
   refine zi fun T hT=>?_;refine zfo ?_;rintro _ _ ⟨vr',R',N,hM',hX,rfl,rfl⟩
   have ho':=hM'.o
   refine zh ?_;clear hT T;refine zam ?_;refine zav ?_;exact KE.meet ⟨b6,vr',R',N⟩ jg ja ⟨hM',hX⟩
 ·rintro⟨b6,vr',R',N⟩ ⟨hM',hX⟩;dsimp only at hM' hX⊢
  have ho':=hM'.o
  refine yr13 ?_;exact zfn
end
end Go.Proofs.YtldomapkmopomaaGreatDoor.Sw
