/-The walker and the contracts that the law needs,part 32. -/
import Derived.Test.YtldomapkmopomaaGreatDoorD1
import Derived.ArgAppend
import Derived.ChangeMaps5
import Derived.Deep.Fields
import Derived.Deep.LoopGhost
import Derived.Deep.OwnRows
import Derived.Deep.Quiet
import Derived.Deep.Slices
import Derived.IntWalk
import Derived.Laws.Cells
import Derived.Laws.CopyOwn
import Derived.Laws.Externs
import Derived.Laws.FloatArith
import Derived.Laws.IdiomStrings
import Derived.Laws.NewFold
import Derived.Laws.StructEq
import Derived.Lib.BitFns
import Derived.Lib.Hide
import Derived.Lib.SmallJoins
import Derived.Lib.TrailingZeros
import Derived.Maps.RangeRun
import Derived.OrdersIn
import Derived.ProofKit
import Derived.RangeFuncBound
import Derived.RangeFuncCalls
import Derived.RangeFuncLeaves
import Derived.RangeFuncNested
import Derived.RecoverIn
import Derived.Shelf.Bits.Mul64
import Derived.Shelf.Slices.Turned
import Derived.Shelf.Spec.TrailingZeros
import Derived.Shelf.Strconv.Itoa0
import Derived.SizedLaws
import Derived.Sort.BigQuietIn
import Derived.StillTailTactics
import Derived.Test.YtldomapkmopomaaGreatDoorProg
import Derived.WalkKit
import Derived.Test.YtldomapkmopomaaGreatDoorJ26
import Derived.Test.YtldomapkmopomaaGreatDoorJ30
set_option linter.unusedVariables false set_option linter.unusedSimpArgs false namespace Go.Proofs.YtldomapkmopomaaGreatDoor.Sw
set_option maxHeartbeats 8000000
open Go.Proofs.YtldomapkmopomaaGreatDoor renaming lo → qL, hi → qH
open Go.RowKit
set_option linter.unusedVariables false
set_option linter.unusedSimpArgs false
set_option maxRecDepth 10000
section
variable {w0 : World} {F : jb} {k : MkM} {B : BoM} {T : TbM} {N : PiM} {W : MwP} {m : MaP}
theorem jg9 {hd v:Int} (hG:jw w0) (hp:MpR k B T N W) (ok:MkOk k B.p) (hR:MkR k B.p m) (hm:jv B.p.g k.g.ring.length W m) (hst:m.steps≤1000000000) (hv:0≤v∧v<256):
  Call Tryz.prog w0 133 [.pointer (some ⟨k.b,0,none⟩), .int .i64 hd, .int .u8 v] (jk k B.p++(planH B.p++(seenH B T N++F))) (jaz k B T N F m (stepM B.p.g k.g.ring.length W m hd v)):=by
 obtain⟨u,rfl⟩: ∃ u:Nat,v=u:=⟨v.toNat,by omega⟩
 exact mkStep_K hG hp ok hR hm hst (by omega)
set_option maxHeartbeats 4000000 in
theorem mkHelp_K (hG:jw w0) (hp:MpR k B T N W) (ok:MkOk k B.p) (hR:MkR k B.p m) (hm:jv B.p.g k.g.ring.length W m) (hst:m.steps≤1000000000):
  Call Tryz.prog w0 134 [.pointer (some ⟨k.b,0,none⟩)] (jk k B.p++(planH B.p++(seenH B T N++F))) (jaz k B T N F m (Jq B.p.g k.g.ring.length W m)):=by
 have hac:=fun A=>jcg (w0:=w0) (F:=A) (k:=k) (p:=B.p)
 have hact:=hR.act
 have hhs:=hR.hs
 have hl9:=ok.hs
 have ho:=ok.o
 have hml:m.hs.length=k.hs.length:=by rw[hhs]
 have hstep:=fun A (k':MkM) (i:Nat) (u:Int) (hu:0≤u∧u<256) (kok:MkOk k' B.p) (kto:MkTo k k') (kR:MkR k' B.p m)=>jg9 (w0:=w0) (F:=A) (hd:=(i:Nat)) hG (hp.to kto) kok kR (by rw[kto.l];exact hm) hst hu
 have hlen: ∀ k':MkM,MkTo k k'→k'.g.ring.length=k.g.ring.length:=fun k' h=>h.l
 unfold jaz at hstep⊢
 cases ha:k.act with
 |false=>
  have hn:Jq B.p.g k.g.ring.length W m=none:=help_idle (by rw[←hact];exact ha)
  rw[hn];simp only[Option.isSome,Option.getD];simp only[ha] at hac;refine Call.enter1 (n:=33) (by kernel_rfl) Tryz.func134 rfl rfl rfl ?_;refine yr2 ?_;refine zj ?_;intro b1 b2;refine yq6 fun T hT=>?_;refine zao ?_;clear hT T;refine yr11 ?_;exact KE.fin (H':=jk k B.p++(planH B.p++(seenH B T N++F))) jd rfl jc (by first|exact ja|(simp only[ji,seenH_app];exact ja)) ⟨rfl,k,ok,MkTo.refl k,hR,rfl⟩
 |true=>
  simp only[ha] at hac
  have hown:((k.hs.length:Nat):Int)-1=((k.hs.length-1:Nat):Int):=by omega
  obtain⟨own,hod⟩: ∃ own:Nat,own=k.hs.length-1:=⟨_,rfl⟩
  rw[←hod] at hown
  have hhm:Jq B.p.g k.g.ring.length W m=match fullM m with
   |some i=>stepM B.p.g k.g.ring.length W m (i:Nat) 3
   |none=>match stepM B.p.g k.g.ring.length W m (own:Nat) 2 with
    |some m'=>some m'
    |none=>match stepM B.p.g k.g.ring.length W m (own:Nat) 1 with
     |some m'=>some m'
     |none=>stepM B.p.g k.g.ring.length W m (own:Nat) 4:=by
   rw[hod,←hml];rfl
  refine Call.enter1 (n:=33) (by kernel_rfl) Tryz.func134 rfl rfl rfl ?_;refine yr2 ?_;refine zj ?_;intro b1 b2;refine yq6 fun T hT=>?_;refine zao ?_;clear hT T;refine yq10 fun T hT=>?_;refine(CallV.fn mkfull_K).mono ?_;rintro _ _ ⟨bl,rfl,rfl⟩;refine za ?_;clear hT T;refine yr3 ?_;refine K.rangeFunc (lb:=[.pointer (some ⟨bl,0,none⟩)]) rfl
   (fun D G=>fullM m=none∧G=(D, .deferred (some []))::(b2,cells [.bool false] 4)::(b1,cells [.pointer (some ⟨k.b,0,none⟩)] 77)::(jk k B.p++(planH B.p++(seenH B T N++F))))
   (fun D c G=>c= .ret∧ ∃ i k',fullM m=some i∧MkOk k' B.p∧MkTo k k'∧MkR k' B.p ((stepM B.p.g k.g.ring.length W m (i:Nat) 3).getD m)∧G=(D, .deferred (some []))::(b2,cells [.bool (stepM B.p.g k.g.ring.length W m (i:Nat) 3).isSome] 4)::(b1,cells [.pointer (some ⟨k.b,0,none⟩)] 77)::(jk k' B.p++(planH B.p++(seenH B T N++F)))) ?_ ?_ ?_
  ·intro l D rc hyl
   refine(Call.part (jg8 (F:=planH B.p++(seenH B T N++F)) (bl:=bl) ok hR.hs
    (fun H'=> ∃ i k',fullM m=some i∧MkOk k' B.p∧MkTo k k'∧MkR k' B.p ((stepM B.p.g k.g.ring.length W m (i:Nat) 3).getD m)∧H'=(l, .loop (rc .done (some .ret)))::((D, .deferred (some []))::(b2,cells [.bool (stepM B.p.g k.g.ring.length W m (i:Nat) 3).isSome] 4)::(b1,cells [.pointer (some ⟨k.b,0,none⟩)] 77)::(bl,cells [.pointer (some ⟨k.b,0,none⟩)] 77)::(jk k' B.p++(planH B.p++(seenH B T N++F)))))
    (A0:=(l, .loop (rc .ready none))::(D, .deferred (some []))::(b2,cells [.bool false] 4)::(b1,cells [.pointer (some ⟨k.b,0,none⟩)] 77)::[]) ?_) (by simp only[List.cons_append,List.nil_append];exact ja)).mono ?_
   ·intro i hf
    have hs3:=fun A=>hstep A k i 3 (by decide) ok (MkTo.refl k) hR
    simp only[List.cons_append,List.nil_append];refine zcS ?_;refine zk ?_;refine yq8 fun T hT=>?_;refine(CallV.part (CallV.fn (hs3 _)) ja).mono ?_;rintro _ _ ⟨rfl,k',kok,kto,kR,rfl⟩;refine za ?_;clear hT T;refine yr5 ?_;refine KE.part ((l, .loop (rc .busy none))::((D, .deferred (some []))::(b2,cells [.bool (stepM B.p.g k.g.ring.length W m (i:Nat) 3).isSome] 4)::(b1,cells [.pointer (some ⟨k.b,0,none⟩)] 77)::(bl,cells [.pointer (some ⟨k.b,0,none⟩)] 77)::(jk k' B.p++(planH B.p++(seenH B T N++F))))) ja ?_;exact KE.roundR jH.head ⟨rfl,i,k',hf,kok,kto,kR,rfl⟩
   ·rintro _ _ (⟨hno,rfl⟩|⟨i,k',hf,kok,kto,kR,rfl⟩)
    ·refine .inl ⟨_,?_,hno,rfl⟩;exact zco
    ·exact .inr ⟨.ret,_,ja,rfl,i,k',hf,kok,kto,kR,rfl⟩
  ·rintro D G ⟨hf,rfl⟩;rw[hf] at hhm;dsimp only at hhm
   have hs2:=fun A=>hstep A k own 2 (by decide) ok (MkTo.refl k) hR
   rw[hhm];simp only[ji,seenH_app];refine yr13 ?_;rw[hown]
   cases h2:stepM B.p.g k.g.ring.length W m (own:Nat) 2 with
   |some m2=>
    simp only[h2,Option.isSome,Option.getD] at hs2⊢;refine yq4 fun T hT=>?_;refine zfF ?_;rintro _ _ ⟨rfl,k2,kok,kto,kR,rfl⟩;refine za ?_;clear hT T;refine yr14 ?_;exact KE.fin (H':=jk k2 B.p++(planH B.p++(seenH B T N++F))) jd rfl jc (by first|exact ja|(simp only[ji,seenH_app];exact ja)) ⟨rfl,k2,kok,kto,kR,by simp only[ji,seenH_app]⟩
   |none=>
    simp only[h2,Option.isSome,Option.getD] at hs2⊢;refine yq4 fun T hT=>?_;refine zfF ?_;rintro _ _ ⟨rfl,k2,kok2,kto2,kR2,rfl⟩
    have hs1:=fun A=>hstep A k2 own 1 (by decide) kok2 kto2 kR2
    simp only[hlen k2 kto2,kto2.b] at hs1;refine za ?_;clear hT T
    cases h1:stepM B.p.g k.g.ring.length W m (own:Nat) 1 with
    |some m1=>
     simp only[h1,Option.isSome,Option.getD] at hs1⊢;refine yq6 fun T hT=>?_;refine zfG ?_;rintro _ _ ⟨rfl,k1,kok,kto,kR,rfl⟩;refine za ?_;clear hT T;refine yr10 ?_;exact KE.fin (H':=jk k1 B.p++(planH B.p++(seenH B T N++F))) jd rfl jc (by first|exact ja|(simp only[ji,seenH_app];exact ja)) ⟨rfl,k1,kok,kto2.trans kto,kR,by simp only[ji,seenH_app]⟩
    |none=>
     simp only[h1,Option.isSome,Option.getD] at hs1⊢;refine yq6 fun T hT=>?_;refine zfG ?_;rintro _ _ ⟨rfl,k1,kok1,kto1,kR1,rfl⟩
     have kto12:=kto2.trans kto1
     have hs4:=fun A=>hstep A k1 own 4 (by decide) kok1 kto12 kR1
     simp only[hlen k1 kto12,kto12.b] at hs4;refine za ?_;clear hT T;refine yq7 fun T hT=>?_;refine(CallV.part (CallV.fn (hs4 _)) (by first|exact ja|(simp only[ji,seenH_app];exact ja))).mono ?_;rintro _ _ ⟨rfl,k4,kok,kto,kR,rfl⟩;refine za ?_;clear hT T;refine yr5 ?_;exact KE.fin (H':=jk k4 B.p++(planH B.p++(seenH B T N++F))) jd rfl jc (by first|exact ja|(simp only[ji,seenH_app];exact ja)) ⟨rfl,k4,kok,kto12.trans kto,kR,by simp only[ji,seenH_app]⟩
  ·rintro D c G ⟨rfl,i,k',hf,kok,kto,kR,rfl⟩;rw[hf] at hhm;dsimp only at hhm;rw[hhm];refine yr3 ?_;exact KE.fin jd rfl jc ja ⟨rfl,k',kok,kto,kR,rfl⟩
theorem mktouchB_K {s:Nat} {c:Int} {g:FuncId} {fi:List Value} {R:jb→Prop} (ok:MkOk k B.p) (hc:(tiC k.c)[s]?=some c)
  (hdo:k.act=true→CallV Tryz.prog w0 (.func (.func g) fi.toArray #[]) [.int .i64 (s:Nat)] (jk k B.p++F) (fun r H'=>r= .tuple #[]∧R H')):
  Call Tryz.prog w0 141 [.pointer (some ⟨k.b,0,none⟩), .int .i64 (s:Nat), .func (.func g) fi.toArray #[]] (jk k B.p++F) (fun r H'=>r= .int .i64 0∧(k.act=true→R H')∧(k.act=false→H'=jk k B.p++F)):=by
 cases ha:k.act with
 |true=>
  have h1:=hdo ha
  refine zcF ?_;refine yq9 fun T hT=>?_;refine(CallV.fn (jbF ok hc)).mono ?_;rintro _ _ ⟨rfl,rfl⟩;refine za ?_;clear hT T;rw[ji,ha];refine yq28 fun T hT=>?_;refine(CallV.part h1 (by rw[ji,ha];exact ja)).mono ?_;rintro _ H' ⟨rfl,hR⟩;refine za ?_;clear hT T;refine yr9 ?_;exact KE.fin jd rfl jc ja ⟨rfl,fun _=>hR,fun h=>by cases h⟩
 |false=>
  refine zcF ?_;refine yq9 fun T hT=>?_;refine(CallV.fn (jbF ok hc)).mono ?_;rintro _ _ ⟨rfl,rfl⟩;refine za ?_;clear hT T;rw[ji,ha];refine yr34 ?_;exact KE.fin (H':=jk k B.p++F) jd rfl jc (by rw[ji,ha];exact ja) ⟨rfl,fun h=>(by cases h),fun _=>by rw[ji,ha]⟩
theorem mkShade_K {s:Nat} (ok:MkOk k B.p) (hR:MkR k B.p m) (hs:s<B.p.g.slots):
  Call Tryz.prog w0 70 [.pointer (some ⟨k.b,0,none⟩), .int .i64 (s:Nat)] (jk k B.p++(planH B.p++F))
   (fun r H'=>r= .int .i64 0∧ ∃ k',MkOk k' B.p∧MkTo k k'∧MkR k' B.p (jaF B.p.g k.g.ring.length m (s:Nat))∧H'=jk k' B.p++(planH B.p++F)):=by
 obtain⟨c,hc⟩:=jcQ ok hs
 have hact:=hR.act
 unfold jaF;rw[←hact];refine Call.enter2 (n:=10) (by kernel_rfl) Tryz.func70 rfl rfl rfl ?_;refine yq11 fun T hT=>?_;refine(CallV.fn (mktouchB_K (fi:=[.pointer (some ⟨k.b,0,none⟩)]) (R:=fun H'=> ∃ k',MkOk k' B.p∧MkTo k k'∧MkR k' B.p (Jh B.p.g k.g.ring.length m (s:Nat))∧H'=jk k' B.p++(planH B.p++F)) ok hc fun _=>CallV.bound (first:=[.pointer (some ⟨k.b,0,none⟩)]) (jfd ok hR hs))).mono ?_;rintro _ H' ⟨rfl,h1,h2⟩
 cases ha:k.act with
 |true=>
  obtain⟨k',kok,kto,kR,rfl⟩:=h1 ha
  refine za ?_;clear hT T;rw[ha];refine yr4 ?_;exact KE.fin jd rfl jc ja ⟨rfl,k',kok,kto,kR,rfl⟩
 |false=>
  obtain rfl:=h2 ha
  refine za ?_;clear hT T;rw[ha];refine yr4 ?_;exact KE.fin jd rfl jc ja ⟨rfl,k,ok,MkTo.refl k,hR,rfl⟩
theorem mkStop_K (ha:k.act=true):Call Tryz.prog w0 74 [.pointer (some ⟨k.b,0,none⟩)] (jk k B.p++F) (fun r H'=>r= .int .i64 0∧H'=jk {k with act:=false} B.p++F):=by
 refine Call.enter1 (n:=5) (by kernel_rfl) Tryz.func74 rfl rfl rfl ?_;refine yq8 fun T hT=>?_;refine(CallV.fn (mkturn_K (p:=B.p) (v:=false) ha)).mono ?_;rintro _ _ ⟨rfl,rfl⟩;refine za ?_;clear hT T;refine yr4 ?_;exact zd
end
theorem nil_R {k:MkM} {p:jO} {nw:Nat} {b:Bool} (h:MkNil k p) (hr:1≤k.g.ring.length) (ha:k.act=b) (hl:k.hs.length=nw+1):MkR k p (JM p.g nw b):=
 ⟨h.c,⟨h.g.ow,h.g.di,by rw[h.g.first,h.g.many];exact⟨rfl,Nat.zero_le _,hr,fun i hi=>absurd hi (Nat.not_lt_zero _)⟩,by show k.g.at_=k.g.end_;rw [h.g.at_,h.g.end_],by rw[h.g.end_];exact Nat.zero_le _⟩,by rw[h.hs,hl];rfl,h.root,ha,h.steps⟩
open Go.RowKit
set_option maxRecDepth 10000
section
variable {w0 : World} {F : jb} {y : CyM} {s : CyP} {g : PlG} {long : Nat}
def goesY (y:CyM) (ph:Nat) (act:Bool):CyM:={y with s:={y.s with act:=act},ph:=ph}
theorem CpM.goes (h:CpM y s) (ph:Nat) (act:Bool):CpM (goesY y ph act) {s with sa:=act,ph:=ph}:=
 ⟨h.p,h.ok,h.R,h.oka,h.A,⟨h.oks.d,h.oks.dn,h.oks.at_⟩,rfl,h.at_,h.D,h.ab,h.bb,h.mb,rfl,h.st,h.nw⟩
set_option maxHeartbeats 1000000 in
theorem cygoes_K (hG:jw w0) (h:CpM y s) (eg:y.B.p.g=g) (hi:CyPre g y.k.g.ring.length s):
  Call Tryz.prog w0 132 [.pointer (some ⟨y.b,0,none⟩)] (cycH y++F)
   (fun r H'=>r= .tuple #[]∧H'=cycH (goesY y (goesC g s).ph (goesC g s).sa)++F):=by
 subst eg
 have hph:=hi.ph
 have hdone:=fun A=>mkDone_K (w0:=w0) (F:=A) hG h.p h.ok h.R hi.m
 have e1:=h.ph
 have e2:=h.sa
 have e3:=h.at_
 have hdn:=h.oks.dn
 have hsp:=fun A (x:SpM)=>jfr (w0:=w0) (F:=A) (s:=x)
 have hst:=fun A (ha:y.s.act=false)=>spStart_K (w0:=w0) (F:=A) (s:=y.s) ha
 unfold goesY;simp only[seenH_app] at hdone
 by_cases h1:s.ph=1
 ·obtain⟨p1,p2,p3,p4⟩:=hi.p1 h1
  have hsl:=h.p.bo.p.g.slots
  have hst':=fun A=>hst A (e2.trans p2)
  have e1':y.ph=1:=e1.trans h1
  cases hd:Jl y.B.p.g s.W s.m with
  |true=>
   have hg:goesC y.B.p.g s={s with sa:=true,ph:=2}:=by
    unfold goesC;rw [if_pos ⟨h1,hd⟩,if_neg (by omega)]
   rw[hg];simp only[hd] at hdone
   have hnd:ja6 {y.s with act:=true}=false:=by unfold ja6;dsimp only;rw [decide_eq_false (by omega)];rfl
   have hsp':=fun A=>hsp A {y.s with act:=true}
   rw[hnd] at hsp'
   obtain⟨yb,B,a,T,N,k,sp,nw,ph,st⟩:=y
   dsimp only at*;subst e1';refine zcT ?_;simp only[cycH_app,seenH_app];refine yq24 fun T hT=>?_;refine zdH ?_;refine zc ?_;clear hT T;refine yq16 fun T hT=>?_;refine(CallV.part (CallV.fn (hst' _)) ja).mono ?_;refine zc ?_;clear hT T;refine yq21 fun T hT=>?_;refine zeZ ?_;clear hT T;refine yr7 ?_;exact zcU
  |false=>
   have hg:goesC y.B.p.g s=s:=by
    unfold goesC;rw [if_neg (by rw[hd];simp),if_neg (by omega)]
   rw[hg];simp only[hd] at hdone;rw[←e1,←e2]
   obtain⟨yb,B,a,T,N,k,sp,nw,ph,st⟩:=y
   dsimp only at*;subst e1';refine zcT ?_;simp only[cycH_app,seenH_app];refine yq24 fun T hT=>?_;refine zdH ?_;refine zc ?_;clear hT T;refine yr26 ?_;exact zcU
 ·by_cases h2:s.ph=2
  ·obtain⟨p1,p2,p3⟩:=hi.p2 h2
   have e1':y.ph=2:=e1.trans h2
   have hnd:ja6 y.s=decide (s.at_=y.B.p.g.slots):=by
    unfold ja6;rw [e2,p2,e3,hdn];rfl
   have hsp':=fun A=>hsp A y.s
   rw[hnd] at hsp'
   by_cases ha:s.at_=y.B.p.g.slots
   ·have hg:goesC y.B.p.g s={s with ph:=3}:=by
     unfold goesC;rw [if_neg (by omega),if_pos ⟨h2,ha⟩]
    rw[hg];rw[decide_eq_true ha] at hsp';dsimp only;rw[←e2]
    obtain⟨yb,B,a,T,N,k,sp,nw,ph,st⟩:=y
    dsimp only at*;subst e1';refine zcT ?_;simp only[cycH_app,seenH_app];refine yq51 fun T hT=>?_;refine zeZ ?_;clear hT T;refine yr12 ?_;exact zcU
   ·have hg:goesC y.B.p.g s=s:=by
     unfold goesC;rw [if_neg (by omega),if_neg (by omega)]
    rw[hg];rw[decide_eq_false ha] at hsp';rw[←e1,←e2]
    obtain⟨yb,B,a,T,N,k,sp,nw,ph,st⟩:=y
    dsimp only at*;subst e1';refine zcT ?_;simp only[cycH_app,seenH_app];refine yq51 fun T hT=>?_;refine zeZ ?_;clear hT T;refine yr7 ?_;exact zcU
  ·have hg:goesC y.B.p.g s=s:=by
    unfold goesC;rw [if_neg (by omega),if_neg (by omega)]
   rw[hg,←e1,←e2]
   have h1': ¬((y.ph:Nat):Int)=1:=by omega
   have h2': ¬((y.ph:Nat):Int)=2:=by omega
   refine zcT ?_;simp only[cycH_app,seenH_app];refine yr46 ?_;exact zcU
def jbI (y:CyM) (ph:Nat) (act:Bool):CyM:={y with s:={y.s with act:=act},ph:=ph,st:=y.st+1}
theorem jeo (hG:jw w0) (h:CpM y s) (eg:y.B.p.g=g) (hi:CyPre g y.k.g.ring.length s) (hst:s.st≤100000000):
  Call Tryz.prog w0 67 [.pointer (some ⟨y.b,0,none⟩), .bool true] (cycH y++F)
   (fun r H'=>r= .bool true∧H'=cycH (jbI y (madeC g s).ph (madeC g s).sa)++F):=by
 have h':CpM {y with st:=y.st+1} {s with st:=s.st+1}:=⟨h.p,h.ok,h.R,h.oka,h.A,h.oks,h.sa,h.at_,h.D,h.ab,h.bb,h.mb,h.ph,by show y.st+1=s.st+1;rw [h.st],h.nw⟩
 have hi':CyPre g y.k.g.ring.length {s with st:=s.st+1}:=⟨hi.w,hi.rf,hi.m,hi.i,hi.A,hi.D,hi.p0,hi.p1,hi.p2,hi.p3,hi.ph,hi.dn⟩
 have hgo:=fun A=>cygoes_K (w0:=w0) (F:=A) hG h' eg hi'
 have e1:=h.st
 have e2:((y.st:Nat):Int)+1=((y.st+1:Nat):Int):=by omega
 obtain⟨q,hq⟩: ∃ q,madeC g s=q:=⟨_,rfl⟩
 have hq':goesC g {s with st:=s.st+1}=q:=hq
 rw[hq'] at hgo;rw[hq];unfold goesY at hgo;unfold jbI
 obtain⟨yb,B,a,T,N,k,sp,nw,ph,st⟩:=y
 dsimp only at*;refine zeI ?_;simp only[cycH_app,seenH_app];refine yq26 fun T hT=>?_;rw[e2];refine(CallV.part (CallV.fn (hgo _)) (by simp only[cycH_app];exact ja)).mono ?_;refine zc ?_;clear hT T;refine yr9 ?_;exact zG
theorem cymade_E {b:Nat} {H:jb}:Call Tryz.prog w0 67 [.pointer (some ⟨b,0,none⟩), .bool false] H (fun r H'=>r= .bool false∧H'=H):=by
 refine zeI ?_;refine yr21 ?_;exact zd
end
set_option maxRecDepth 10000
def LKx (g:PlG) (k d:Nat):List ju:=cutL g.n g.sl k++(List.range d).map (g.sl k)
def fstP (g:PlG) (k j:Nat):Nat:=g.first k+j*g.per k
def mnyP (g:PlG) (k j:Nat):Nat:=min (g.per k) (g.n k-j*g.per k)
def FKx (g:PlG) (k j:Nat):List Int:=(cutL g.pgs (fstP g) k++(List.range j).map (fstP g k)).map fun n=>((n:Nat):Int)
def MKx (g:PlG) (k j:Nat):List Int:=(cutL g.pgs (mnyP g) k++(List.range j).map (mnyP g k)).map fun n=>((n:Nat):Int)
section
variable {g : PlG} {k d j : Nat}
theorem LKx_len:(LKx g k d).length=g.first k+d:=by simp[LKx,jbb];rfl
theorem FKx_len:(FKx g k j).length=g.page k+j:=by simp[FKx,jbb];rfl
theorem MKx_len:(MKx g k j).length=g.page k+j:=by simp[MKx,jbb];rfl
theorem LKx_next:LKx g k d++ [g.sl k d]=LKx g k (d+1):=by simp[LKx,List.range_succ]
theorem FKx_next:FKx g k j++ [((fstP g k j:Nat):Int)]=FKx g k (j+1):=by simp[FKx,List.range_succ]
theorem MKx_next:MKx g k j++ [((mnyP g k j:Nat):Int)]=MKx g k (j+1):=by simp[MKx,List.range_succ]
theorem LKx_up:LKx g k (g.n k)=LKx g (k+1) 0:=by simp[LKx,cutL]
theorem FKx_up:FKx g k (g.pgs k)=FKx g (k+1) 0:=by simp[FKx,cutL]
theorem MKx_up:MKx g k (g.pgs k)=MKx g (k+1) 0:=by simp[MKx,cutL]
theorem LKx_all:LKx g g.m 0=g.L:=by simp[LKx,PlG.L]
theorem FKx_all:FKx g g.m 0=g.firsts:=by simp only[FKx,PlG.firsts,List.range_zero,List.map_nil,List.append_nil];rfl
theorem MKx_all:MKx g g.m 0=g.manys:=by simp only[MKx,PlG.manys,List.range_zero,List.map_nil,List.append_nil];rfl
theorem pgs_lt (ok:je g) (hk:k<g.m):j<g.pgs k↔j*g.per k<g.n k:=by
 have h2:=ok.per hk
 have h1:=ok.n hk
 unfold PlG.pgs
 constructor
 ·intro h
  have:=(Nat.le_div_iff_mul_le (show 0<g.per k by omega)).1 (show j+1≤_ from h)
  rw[Nat.succ_mul] at this;omega
 ·intro h;refine(Nat.le_div_iff_mul_le (show 0<g.per k by omega)).2 ?_;rw[Nat.succ_mul];omega
theorem sl_in (ok:je g) (hk:k<g.m) {i:Nat} (hi:i<g.per k):g.sl k (j*g.per k+i)=⟨k,g.y k,(g.page k+j)*g.pg+i*g.y k,g.page k+j⟩:=by
 have h1:(j*g.per k+i)/g.per k=j:=by
  rw[Nat.mul_comm,Nat.mul_add_div (by omega),Nat.div_eq_of_lt hi];rfl
 have h2:(j*g.per k+i)%g.per k=i:=by
  rw[Nat.mul_comm,Nat.mul_add_mod,Nat.mod_eq_of_lt hi]
 unfold PlG.sl;rw[h1,h2]
theorem per_iff (ok:je g) (hk:k<g.m) {i:Nat}:i<g.per k↔i*g.y k+g.y k≤g.pg:=by
 have h2:=ok.y k hk
 rw[←Nat.succ_mul];exact Nat.le_div_iff_mul_le (by omega)
end
theorem g_clI {c:Cfg} {t:Int} (ga:GAt c t (gOf c t)):(gOf c t).clI=c.cl:=by
 unfold PlG.clI gOf;dsimp only;rw[List.map_map]
 conv=>rhs;rw [←List.map_id c.cl]
 refine List.map_congr_left fun y hy=>?_
 obtain⟨k,hk⟩:=List.getElem?_of_mem hy
 have:=ga.y k y hk
 show((y.toNat:Nat):Int)=y
 omega
structure DnA where
 k:Nat
 oL:Own
 oF:Own
 oM:Own
structure DnC where
 i:Nat
 oL:Own
def plnHp (g:PlG) (k d j jm:Nat) (b8:Nat) (vc:Value) (oL oF oM:Own):jb:=
 (b8,cells [oV oL (LKx g k d).length,oV oF (FKx g k j).length,oV oM (MKx g k jm).length, .int .i64 (g.words:Nat),vc] 32)::(oH slE 115 (LKx g k d) oL++(oH iE 3 (FKx g k j) oF++oH iE 3 (MKx g k jm) oM))
theorem plnHp_app {g:PlG} {k d j jm b8:Nat} {vc:Value} {oL oF oM:Own} {F:jb}:plnHp g k d j jm b8 vc oL oF oM++F=(b8,cells [oV oL (LKx g k d).length,oV oF (FKx g k j).length,oV oM (MKx g k jm).length, .int .i64 (g.words:Nat),vc] 32)::(oH slE 115 (LKx g k d) oL++(oH iE 3 (FKx g k j) oF++(oH iE 3 (MKx g k jm) oM++F))):=by
 unfold plnHp;simp only[List.cons_append,List.append_assoc]
set_option maxHeartbeats 4000000 in
theorem rpNew_K {w0:World} {F:jb} {c:Cfg} {vc vt:Value} {t:Int} (hR:j1 w0 F c vc vt) (ht:thereP c t 0=true) (hvc:vc.oneCell'=true):
  Call Tryz.prog w0 100 [jt c vc vt, .int .i64 t] F (fun r H'=> ∃ (v:PlV) (N:jb),(∀ Dc,Sli w0 Dc iE vc c.cl→J3 w0 (N++Dc) v (gOf c t))∧r= .tuple [.agg (plL v (gOf c t)).toArray, .int .i64 0].toArray∧H'=N++F):=by
 have ga:=g_at ht
 have hcl:=g_clI ga
 obtain⟨g,hg⟩: ∃ g,g=gOf c t:=⟨_,rfl⟩
 rw[←hg] at ga hcl⊢
 have hreg:=fun A (hp:Part A F)=>jcE (t:=t) (hR.part hp)
 have hsl:=fun A (k:Nat) (hp:Part A F)=>rSlots_K (t:=t) (k:=(k:Nat)) (hR.part hp)
 rw[ga.region] at hreg
 have ok:=ga.ok
 have hm:=ok.m
 have hgm:=ga.m
 have hgy:=ga.y
 have hgs:=ga.slots
 have hgpg:=ga.page
 have hpgl:=ok.pg
 obtain⟨hS,hT',o1,o2,l1,l2⟩:=hR
 obtain⟨cl,page,tn,workers,grey,gens⟩:=c
 dsimp only at hS hT' l1 l2 hgm hgy hgpg hcl;simp only[jt,jJ] at hreg hsl⊢;subst hgpg;simp only[prV] at hreg hsl;clear ga hg ht;refine Call.enter2 (n:=106) (by kernel_rfl) Tryz.func100 rfl rfl rfl ?_;refine yr2 ?_;refine zj ?_;intro b2 b4;refine yq7 fun T hT=>?_;refine(CallV.fn (hreg _ ja)).mono ?_;rintro _ _ ⟨rfl,rfl⟩;refine za ?_;clear hT T;refine yr23 ?_;refine zf ?_;intro b8;refine yr10 ?_;refine K.loopT (σ:=DnA) [(1,_),(2,_),(4,_),(8,_)] (fun s kp_=>(9, .int .i64 (s.k:Nat))::kp_) (fun s=>plnHp g s.k 0 0 0 b8 vc s.oL s.oF s.oM++((b2,cells [vc, .int .i64 (g.pg:Nat),vt, .int .i64 workers, .int .i64 grey, .int .i64 gens] 25)::(b4,cells [.slice none 0 0, .slice none 0 0, .slice none 0 0, .int .i64 0, .slice none 0 0] 32)::F)) (fun s=>s.k≤g.m∧oOk slE (LKx g s.k 0) s.oL∧oOk iE (FKx g s.k 0) s.oF∧oOk iE (MKx g s.k 0) s.oM) (fun s=>g.m-s.k) (⟨0,none,none,none⟩) jg (by rw[plnHp_app];exact ja) (⟨Nat.zero_le _,rfl,rfl,rfl⟩) ?_;rintro⟨k,oL,oF,oM⟩ ⟨hk,kL,kF,kM⟩;dsimp only at hk kL kF kM⊢;rw[plnHp_app]
 by_cases hlt:k<g.m
 ·obtain⟨y,hy⟩:=jn (l:=cl) (k:=k) (by omega)
  have hyk:=hgy k y hy
  subst hyk
  have hkl:k<cl.length:=by omega
  have hsl1:=fun A hp=>hsl A k hp
  rw[hgs k hlt] at hsl1;dsimp only at hsl1
  have y1:=ok.y k hlt
  have p1:=ok.per hlt
  have n1:=ok.n hlt
  have g1:=ok.pgs hlt
  have f1:=ok.first (show k+1≤g.m by omega)
  have q1:=ok.page (show k+1≤g.m by omega)
  have f2:g.first (k+1)=g.first k+g.n k:=rfl
  have q2:g.page (k+1)=g.page k+g.pgs k:=rfl
  clear hsl hgs hgy;refine yq20 fun T hT=>?_;refine(CallV.fn (hsl1 _ ja)).mono ?_;rintro _ _ ⟨rfl,rfl⟩;refine za ?_;clear hT T;refine yr8 ?_;refine K.loopT (σ:=DnA) [(1,_),(2,_),(4,_),(8,_),(9,_)] (fun s kp_=>(10, .int .i64 ((g.n k-min (s.k*g.per k) (g.n k):Nat):Int))::kp_) (fun s=>plnHp g k (min (s.k*g.per k) (g.n k)) s.k s.k b8 vc s.oL s.oF s.oM++((b2,cells [vc, .int .i64 (g.pg:Nat),vt, .int .i64 workers, .int .i64 grey, .int .i64 gens] 25)::(b4,cells [.slice none 0 0, .slice none 0 0, .slice none 0 0, .int .i64 0, .slice none 0 0] 32)::F)) (fun s=>s.k≤g.pgs k∧oOk slE (LKx g k (min (s.k*g.per k) (g.n k))) s.oL∧oOk iE (FKx g k s.k) s.oF∧oOk iE (MKx g k s.k) s.oM) (fun s=>g.pgs k-s.k) (⟨0,oL,oF,oM⟩) jg (by rw[plnHp_app];simp only[Nat.zero_mul,Nat.zero_min];exact ja) ((by simp only[Nat.zero_mul,Nat.zero_min];exact⟨Nat.zero_le _,kL,kF,kM⟩)) ?_;rintro⟨j,oL,oF,oM⟩ ⟨hjp,kL,kF,kM⟩;dsimp only at hjp kL kF kM⊢
  by_cases hj:j<g.pgs k
  ·have hd:=(pgs_lt ok hlt).1 hj
   have hmin:min (j*g.per k) (g.n k)=j*g.per k:=by omega
   rw[hmin] at kL⊢
   obtain⟨D,hD⟩: ∃ D,D=j*g.per k:=⟨_,rfl⟩
   have hDn':(j+1)*g.per k=D+g.per k:=by rw[Nat.succ_mul,hD]
   have hfs:FKx g k j++ [(((LKx g k D).length:Nat):Int)]=FKx g k (j+1):=by rw[LKx_len,hD];exact FKx_next
   have hmp:mnyP g k j=min (g.per k) (g.n k-D):=by unfold mnyP;rw [hD]
   have hsle: ∀ i,i<g.per k→g.sl k (D+i)=⟨k,g.y k,(g.page k+j)*g.pg+i*g.y k,g.page k+j⟩:=fun i hi=>by rw[hD];exact sl_in ok hlt hi
   have hle: ∀ i,i<g.per k↔i*g.y k+g.y k≤g.pg:=fun i=>per_iff ok hlt
   rw[←hD] at kL hd⊢
   have hfl:=FKx_len (g:=g) (k:=k) (j:=j)
   have hfl1:=FKx_len (g:=g) (k:=k) (j:=j+1)
   have hml:=MKx_len (g:=g) (k:=k) (j:=j)
   have hml1:=MKx_len (g:=g) (k:=k) (j:=j+1)
   have hbF:(FKx g k (j+1)).length≤4294967296:=by omega
   have hbM:(MKx g k (j+1)).length≤4294967296:=by omega
   have hgt0:((g.n k-D:Nat):Int)>0:=by omega
   have hPw:(g.page k+j)*g.pg≤g.words:=Nat.mul_le_mul_right _ (by have:=ja7 (n:=g.pgs) hlt;unfold PlG.pages;unfold PlG.page at*;omega)
   have hww:=ok.words
   clear hD;rw[plnHp_app];refine yr19 ?_;refine zk ?_;refine yr5 ?_;refine zt ?_;intro b52;refine KL.e rfl (Eff.appZ (E:=iE) (xs:=FKx g k j) (o:=oF) (ys:=[(((LKx g k D).length:Nat):Int)]) (zs:=FKx g k (j+1)) rfl rfl rfl rfl rfl rfl jh (by assumption) (Sli.blk jq rfl (by simp) (by decide) rfl) hfs hbF rfl) ?_;rintro _ _ ⟨o6,ok6,rfl,rfl⟩;refine yr16 ?_;refine K.loopT (σ:=DnC) [(1,_),(2,_),(4,_),(8,_),(9,_),(12,_)] (fun s kp_=>(10, .int .i64 ((g.n k-(D+s.i):Nat):Int))::(13, .int .i64 (s.i:Nat))::(14, .int .i64 ((s.i*g.y k:Nat):Int))::kp_) (fun s=>plnHp g k (D+s.i) (j+1) j b8 vc s.oL o6 oM++((b2,cells [vc, .int .i64 (g.pg:Nat),vt, .int .i64 workers, .int .i64 grey, .int .i64 gens] 25)::(b4,cells [.slice none 0 0, .slice none 0 0, .slice none 0 0, .int .i64 0, .slice none 0 0] 32)::F)) (fun s=>D+s.i≤g.n k∧s.i≤g.per k∧oOk slE (LKx g k (D+s.i)) s.oL) (fun s=>g.n k-(D+s.i)) (⟨0,oL⟩) jg (by rw[plnHp_app];exact ja) (⟨by show D+0≤_;omega,Nat.zero_le _,kL⟩) ?_;rintro⟨i,oL2⟩ ⟨hDi,hip,kL2⟩;dsimp only at hDi hip kL2⊢;rw[plnHp_app]
   have hlei:=hle i
   have hLl:=LKx_len (g:=g) (k:=k) (d:=D+i)
   have hiy:i*g.y k≤64:=by
    have h1:i*g.y k≤g.per k*g.y k:=Nat.mul_le_mul_right _ hip
    have h2:g.per k*g.y k≤g.pg:=Nat.div_mul_le_self _ _
    omega
   have hLl1:=LKx_len (g:=g) (k:=k) (d:=D+(i+1))
   by_cases h1:D+i<g.n k
   ·have hg1:((g.n k-(D+i):Nat):Int)>0:=by omega
    by_cases h2:i<g.per k
    ·have hle2:((i*g.y k:Nat):Int)+((g.y k:Nat):Int)≤((g.pg:Nat):Int):=by have:=hlei.1 h2;omega
     have hx:=hsle i h2
     have hbL:(LKx g k (D+(i+1))).length≤4294967296:=by omega
     have hq1:(((FKx g k j).length:Nat):Int)*((g.pg:Nat):Int)=(((g.page k+j)*g.pg:Nat):Int):=by rw[hfl];simp
     have hq2:(((g.page k+j)*g.pg:Nat):Int)+((i*g.y k:Nat):Int)=(((g.sl k (D+i)).addr:Nat):Int):=by rw[hx];simp
     have hq3:(((FKx g k j).length:Nat):Int)=(((g.sl k (D+i)).page:Nat):Int):=by rw[hx,hfl]
     have hq4:((g.y k:Nat):Int)=(((g.sl k (D+i)).size:Nat):Int):=by rw[hx]
     have hq5:((k:Nat):Int)=(((g.sl k (D+i)).cls:Nat):Int):=by rw[hx]
     obtain⟨PP,hPP⟩: ∃ PP,PP=(g.page k+j)*g.pg:=⟨_,rfl⟩
     rw[←hPP] at hq1 hq2 hPw
     have hsn:LKx g k (D+i)++ [g.sl k (D+i)]=LKx g k (D+(i+1)):=LKx_next
     refine yr2 ?_;refine zbG ?_;refine zg ?_;refine KD.v0 rfl rfl (Val.isT (Val.gtr rfl rfl) jr) ?_;refine zA ?_;refine zdm ?_;refine zR ?_;refine za8 ?_;refine zb3 ?_;refine zac ?_;refine zea ?_;refine zaE ?_;refine yr6 ?_;refine zw ?_
     (first|refine K.seq (K.drawn ((b8,cells [oV oL2 (LKx g k (D+i)).length,oV o6 (FKx g k (j+1)).length,oV oM (MKx g k j).length, .int .i64 (g.words:Nat),vc] 32)::[]) [(0,1),(1,1),(2,0),(3,0),(4,0),(5,0),(6,0),(7,0),(8,0),(9,0),(10,0),(11,0),(12,0),(13,0),(14,0),(15,0),(16,2),(17,2),(18,0),(19,4)] (by kernel_rfl) (by kernel_rfl) (by kernel_rfl) (by kernel_rfl) (by kernel_rfl) (by kernel_rfl) ja ?_)|refine K.seq (K.seq (K.drawn ((b8,cells [oV oL2 (LKx g k (D+i)).length,oV o6 (FKx g k (j+1)).length,oV oM (MKx g k j).length, .int .i64 (g.words:Nat),vc] 32)::[]) [(0,1),(1,1),(2,0),(3,0),(4,0),(5,0),(6,0),(7,0),(8,0),(9,0),(10,0),(11,0),(12,0),(13,0),(14,0),(15,0),(16,2),(17,2),(18,0),(19,4)] (by kernel_rfl) (by kernel_rfl) (by kernel_rfl) (by kernel_rfl) (by kernel_rfl) (by kernel_rfl) ja ?_))|refine K.drawn ((b8,cells [oV oL2 (LKx g k (D+i)).length,oV o6 (FKx g k (j+1)).length,oV oM (MKx g k j).length, .int .i64 (g.words:Nat),vc] 32)::[]) [(0,1),(1,1),(2,0),(3,0),(4,0),(5,0),(6,0),(7,0),(8,0),(9,0),(10,0),(11,0),(12,0),(13,0),(14,0),(15,0),(16,2),(17,2),(18,0),(19,4)] (by kernel_rfl) (by kernel_rfl) (by kernel_rfl) (by kernel_rfl) (by kernel_rfl) (by kernel_rfl) ja ?_)
     refine zX ?_;refine zF ?_;refine zg ?_;refine za2 ?_;refine zaG ?_;refine zcs ?_;refine zaG ?_;refine zbv ?_
     (first|refine KD.v0 rfl rfl (Val.mul rfl rfl (by simp only[qL,qH];omega)) ?_|refine KD.v0 rfl rfl (Val.mulW rfl rfl) ?_)
     refine zg ?_;refine zfg ?_;refine zg ?_;refine zay ?_;refine zdh ?_;intro b92;refine zW ?_
     -- STOP at region 16 op 17: {"h": "Op.call", "a": [{"callee": {"h": "Callee.builtin", "a": ["Builtin.append"]}, "args": [{"h": "Operand.tmp", "a": [77]}, {"h": "Operand.tmp", "a": [92]}], "argTypes": [30, 30]}]}
     rw[hq1,hq2,hq3];refine KD.e rfl rfl (Eff.appZ (E:=slE) (xs:=LKx g k (D+i)) (o:=oL2) (ys:=[g.sl k (D+i)]) (zs:=LKx g k (D+(i+1))) rfl rfl rfl rfl rfl rfl jh (by assumption) (by first|exact Sli.blk jq rfl (by first|decide|simp) (by first|decide|(unfold maxLen;omega)) rfl|exact Sli.old (by assumption)|exact Sli.own jh (by assumption) jG|assumption|exact Sli.part (by assumption) ja) (hsn) (by first|assumption|omega|(simp<;>fail)|(simp;omega)) rfl) ?_;rintro _ _ ⟨o',ok',rfl,rfl⟩;refine⟨ja,?_⟩;refine za2 ?_;refine zfj ?_;refine zp ?_;rw[←hq3]
     have he1:((i*g.y k:Nat):Int)+((g.y k:Nat):Int)=(((i+1)*g.y k:Nat):Int):=by rw[Nat.succ_mul];omega
     have he2:((g.n k-(D+i):Nat):Int)-1=((g.n k-(D+(i+1)):Nat):Int):=by omega
     clear hq1 hq2 hq3 hq4 hq5 hx hsn;refine yr25 ?_;rw[he1,he2];exact KE.again ⟨i+1,o'⟩ jg (by rw[plnHp_app];exact ja) ⟨by show D+(i+1)≤_;omega,h2,ok'⟩ (by show g.n k-(D+(i+1))<g.n k-(D+i);omega)
    ·have hgt2: ¬((i*g.y k:Nat):Int)+((g.y k:Nat):Int)≤((g.pg:Nat):Int):=by have:=mt hlei.2 h2;omega
     have hie:i=g.per k:=by omega
     have hDn:min ((j+1)*g.per k) (g.n k)=D+i:=by rw[hDn'];omega
     have hmn:MKx g k j++ [((i:Nat):Int)]=MKx g k (j+1):=by rw[←MKx_next,hmp,show min (g.per k) (g.n k-D)=i by omega]
     ·skip
      refine yr2 ?_;refine zbG ?_;refine zg ?_;refine KD.v0 rfl rfl (Val.isT (Val.gtr rfl rfl) jr) ?_;refine zA ?_;refine zdm ?_;refine zR ?_;refine za8 ?_;refine zb3 ?_;refine zac ?_;refine zeb ?_;refine zaE ?_;refine yr7 ?_;refine zk ?_;refine yr3 ?_;refine zt ?_;intro b102;refine KL.e rfl (Eff.appZ (E:=iE) (xs:=MKx g k j) (o:=oM) (ys:=[((i:Nat):Int)]) (zs:=MKx g k (j+1)) rfl rfl rfl rfl rfl rfl jh (by assumption) (by first|exact Sli.blk jq rfl (by first|decide|simp) (by first|decide|(unfold maxLen;omega)) rfl|exact Sli.old (by assumption)|exact Sli.own jh (by assumption) jG|assumption|exact Sli.part (by assumption) ja) (hmn) (by first|assumption|omega|(simp<;>fail)|(simp;omega)) rfl) ?_;rintro _ _ ⟨o',ok',rfl,rfl⟩;refine yr4 ?_;exact zfH
   ·have hg1: ¬((g.n k-(D+i):Nat):Int)>0:=by omega
    have hDn:min ((j+1)*g.per k) (g.n k)=D+i:=by rw[hDn'];omega
    have hmn:MKx g k j++ [((i:Nat):Int)]=MKx g k (j+1):=by rw[←MKx_next,hmp,show min (g.per k) (g.n k-D)=i by omega]
    ·skip
     ·skip
      refine yr2 ?_;refine zbG ?_;refine zg ?_;refine KD.v0 rfl rfl (Val.isF (Val.gtr rfl rfl) jr) ?_;refine zaR ?_;refine zZ ?_;refine zbu ?_;refine zI ?_;refine yr7 ?_;refine zk ?_;refine yr3 ?_;refine zt ?_;intro b102;refine KL.e rfl (Eff.appZ (E:=iE) (xs:=MKx g k j) (o:=oM) (ys:=[((i:Nat):Int)]) (zs:=MKx g k (j+1)) rfl rfl rfl rfl rfl rfl jh (by assumption) (by first|exact Sli.blk jq rfl (by first|decide|simp) (by first|decide|(unfold maxLen;omega)) rfl|exact Sli.old (by assumption)|exact Sli.own jh (by assumption) jG|assumption|exact Sli.part (by assumption) ja) (hmn) (by first|assumption|omega|(simp<;>fail)|(simp;omega)) rfl) ?_;rintro _ _ ⟨o',ok',rfl,rfl⟩;refine yr4 ?_;exact zfH
  ·have hje:j=g.pgs k:=by omega
   have hnle:g.n k≤j*g.per k:=by have:=mt (pgs_lt ok hlt).2 hj;omega
   have hmin:min (j*g.per k) (g.n k)=g.n k:=by omega
   rw[hmin] at kL⊢;subst hje;rw[plnHp_app];rw[LKx_up] at kL⊢;rw[FKx_up] at kF⊢;rw[MKx_up] at kM⊢
   have hgt0: ¬((g.n k-g.n k:Nat):Int)>0:=by omega
   refine yr19 ?_;exact KE.again ⟨k+1,oL,oF,oM⟩ jg (by rw[plnHp_app];exact ja) ⟨hlt,kL,kF,kM⟩ (by show g.m-(k+1)<g.m-k;omega)
 ·have hke:k=g.m:=by omega
  subst hke;rw[LKx_all] at kL⊢;rw[FKx_all] at kF⊢;rw[MKx_all] at kM⊢;refine yr24 ?_;refine KE.fin (H':=(oH slE 115 g.L oL++(oH iE 3 g.firsts oF++oH iE 3 g.manys oM))++F) jd rfl jc (by simp only[List.append_assoc];exact ja) ⟨⟨oV oL g.L.length,oV oF g.firsts.length,oV oM g.manys.length,vc⟩,_,fun Dc hC=>⟨Sli.own (by simp only[List.append_assoc];exact jh) kL rfl,Sli.own (by simp only[List.append_assoc];exact jh) kF rfl,Sli.own (by simp only[List.append_assoc];exact jh) kM rfl,by rw[hcl];exact hC.part (by simp only[List.append_assoc];exact ja),jK _ _,jK _ _,jK _ _,hvc⟩,rfl,rfl⟩
end Go.Proofs.YtldomapkmopomaaGreatDoor.Sw
