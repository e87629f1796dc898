/-The walker and the contracts that the law needs,part 27. -/
import Derived.Test.YtldomapkmopomaaGreatDoorD1
import Derived.ArgAppend
import Derived.ChangeMaps5
import Derived.Deep.Fields
import Derived.Deep.LoopGhost
import Derived.Deep.OwnRows
import Derived.Deep.Quiet
import Derived.Deep.Slices
import Derived.IntWalk
import Derived.Laws.Cells
import Derived.Laws.CopyOwn
import Derived.Laws.Externs
import Derived.Laws.FloatArith
import Derived.Laws.IdiomStrings
import Derived.Laws.NewFold
import Derived.Laws.StructEq
import Derived.Lib.BitFns
import Derived.Lib.Hide
import Derived.Lib.SmallJoins
import Derived.Lib.TrailingZeros
import Derived.Maps.RangeRun
import Derived.OrdersIn
import Derived.ProofKit
import Derived.RangeFuncBound
import Derived.RangeFuncCalls
import Derived.RangeFuncLeaves
import Derived.RangeFuncNested
import Derived.RecoverIn
import Derived.Shelf.Bits.Mul64
import Derived.Shelf.Slices.Turned
import Derived.Shelf.Spec.TrailingZeros
import Derived.Shelf.Strconv.Itoa0
import Derived.SizedLaws
import Derived.Sort.BigQuietIn
import Derived.StillTailTactics
import Derived.Test.YtldomapkmopomaaGreatDoorProg
import Derived.WalkKit
import Derived.Test.YtldomapkmopomaaGreatDoorJ22
import Derived.Test.YtldomapkmopomaaGreatDoorJ23
set_option linter.unusedVariables false set_option linter.unusedSimpArgs false namespace Go.Proofs.YtldomapkmopomaaGreatDoor.Sw
set_option maxHeartbeats 8000000
open Go.Proofs.YtldomapkmopomaaGreatDoor renaming lo → qL, hi → qH
open Go.RowKit
set_option linter.unusedVariables false
set_option linter.unusedSimpArgs false
set_option maxRecDepth 10000
section
variable {w0 : World} {D F : jb} {v : PlV} {vr : Value} {g : PlG} {R : List RwD} {t s : Nat} {x : List Int} {y : ju}
theorem jg5 {ref:Bool} {i:Int} (hB:BoD w0 D v vr g R) (hf:BoF g R t x) (hy:g.L[s]?=some y):
  Call Tryz.prog w0 241 [.agg (boL v g vr t).toArray, .int .i64 (s:Nat), .int .i64 i, .bool ref] (D++F) (fun r H'=>r= .int .i64 (fldP x y ref i)∧H'=D++F):=by
 have ho:=hB.m.o
 have q1:=hB.p.oL
 have q2:=hB.p.oF
 have q3:=hB.p.oM
 have q4:=hB.p.oC
 have hhead:=fun A=>jek (w0:=w0) (D:=D) (F:=A) hB hf hy
 have hfl:fldP x y ref i=match headP x y with|none=>5|some h=>if 0≤i∧i<h.r+h.w∧decide (i<h.r)=ref then 0 else 110:=rfl
 have hhm: ∀ h,headP x y=some h→Jd h=true:=fun h e=>(jbc (jbT e).2).1
 unfold headV at hhead;unfold boL at*
 cases hh:headP x y with
 |none=>
  rw[hh] at hfl;simp only[hh] at hhead;dsimp only at hfl;rw[hfl];unfold hdV at hhead;dsimp only at hhead;refine zdB ?_;refine yr2 ?_;refine ze ?_;intro b4;refine yq7 fun T hT=>?_;refine zaH ?_;clear hT T;refine yr3 ?_;refine zf ?_;intro b9;refine yr20 ?_;exact zd
 |some h=>
  rw[hh] at hfl;simp only[hh] at hhead;dsimp only at hfl
  have hm:=hhm h hh
  have hF:=fun A=>rField_K (w0:=w0) (H:=A) (h:=h) (i:=i)
  have hfd:JT h i=if i<0∨i≥h.r+h.w then(false,110) else(decide (i<h.r),0):=by unfold JT;rw [if_pos hm]
  obtain⟨c,r,w⟩:=h
  unfold hdV at*;dsimp only at*;clear hhm
  by_cases h1:i<0∨i≥r+w
  ·rw[if_pos h1] at hfd;rw[if_neg (by omega)] at hfl;simp only[hfd] at hF;rw[hfl];refine zdB ?_;refine yr2 ?_;refine ze ?_;intro b4;refine yq7 fun T hT=>?_;refine zaH ?_;clear hT T;refine yr3 ?_;refine zf ?_;intro b9;refine yq18 fun T hT=>?_;refine zb8 ?_;rintro _ _ ⟨rfl,rfl⟩;refine za ?_;clear hT T;refine yr27 ?_;exact zd
  ·rw[if_neg h1] at hfd;simp only[hfd] at hF
   by_cases h2:decide (i<r)=ref
   ·rw[if_pos ⟨by omega,by omega,h2⟩] at hfl;rw[hfl];subst h2
    have hbn:(decide (i<r) !=decide (i<r))=false:=by simp
    refine zdB ?_;refine yr2 ?_;refine ze ?_;intro b4;refine yq7 fun T hT=>?_;refine zaH ?_;clear hT T;refine yr3 ?_;refine zf ?_;intro b9;refine yq18 fun T hT=>?_;refine zb8 ?_;rintro _ _ ⟨rfl,rfl⟩;refine za ?_;clear hT T;refine yr22 ?_;rw[hbn];refine yr9 ?_;exact zd
   ·rw[if_neg (by intro h;exact h2 h.2.2)] at hfl;rw[hfl]
    have hbn:(decide (i<r) !=ref)=true:=by
     cases hd:decide (i<r)<;>cases ref<;>simp_all
    refine zdB ?_;refine yr2 ?_;refine ze ?_;intro b4;refine yq7 fun T hT=>?_;refine zaH ?_;clear hT T;refine yr3 ?_;refine zf ?_;intro b9;refine yq18 fun T hT=>?_;refine zb8 ?_;rintro _ _ ⟨rfl,rfl⟩;refine za ?_;clear hT T;refine yr22 ?_;rw[hbn];refine yr8 ?_;exact zd
theorem rbMake_K {h:HdP} (hB:BoD w0 D v vr g R) (hf:BoF g R t x) (hy:g.L[s]?=some y):
  Call Tryz.prog w0 236 [.agg (boL v g vr t).toArray, .int .i64 (s:Nat),hdV h] (D++F) (fun r H'=> ∃ (vr':Value) (R':List RwD) (N:jb),BoD w0 (N++D) v vr' g R'∧rwX R'=(rwX R).set t (jW x y h).2∧r= .tuple [.agg (boL v g vr' t).toArray, .int .i64 (jW x y h).1].toArray∧H'=N++(D++F)):=by
 have ho:=hB.m.o
 have q1:=hB.p.oL
 have q2:=hB.p.oF
 have q3:=hB.p.oM
 have q4:=hB.p.oC
 have hself:=hf.self
 have hfit:=hf.ok.fits hy
 have hww:=hf.ok.words
 have hlx:=hf.l
 have hHas:=fun A=>jc3 (w0:=w0) (D:=D) (F:=A) (n:=(s:Nat)) hB.p hf.ok
 simp only[jdv hy] at hHas
 have hhead:=fun A=>jek (w0:=w0) (D:=D) (F:=A) hB hf hy
 have hwipe:=fun A=>rbWipe_K (w0:=w0) (D:=D) (F:=A) hB hf hy
 have hlies:=fun A=>rblies_K (w0:=w0) (D:=D) (F:=A) (t:=t) (h:=h) hB hy
 have hput:=fun A=>rPut_K (w0:=w0) (H:=A) (h:=h)
 have hmk:jW x y h=if Js y h then(if (headP x y).isSome then(8,x) else(0,(Jo x y).set y.addr (putW h))) else(2,x):=rfl
 have hpw:putW h=(putN h.c.toNat h.r.toNat h.w.toNat:Nat):=rfl
 have hlm:=fun e=>(jbc (p:=y) (h:=h) e).1
 have hpp:Jd h=true→putP h= .tuple [.int .u64 (putW h), .int .i64 0].toArray:=fun e=>by unfold putP;rw [if_pos e];rfl
 obtain⟨pw,hpw'⟩: ∃ pw,pw=putW h:=⟨_,rfl⟩
 rw[←hpw'] at hmk hpp
 obtain⟨mk,hmk'⟩: ∃ mk,mk=jW x y h:=⟨_,rfl⟩
 rw[←hmk'] at hmk⊢
 obtain⟨li,hli⟩: ∃ li,li=Js y h:=⟨_,rfl⟩
 rw[←hli] at hmk hlm;simp only[←hli] at hlies
 obtain⟨c,r,w⟩:=h
 unfold hdV boL at*;unfold plL at hHas;dsimp only at*;clear hpw hpw' hmk' hli
 cases li with
 |false=>
  simp only[Bool.false_eq_true,if_false] at hmk;rw[hmk];dsimp only;refine zeB ?_;refine yr2 ?_;refine zn ?_;intro b3 b5 b6;refine yq9 fun T hT=>?_;refine zaI ?_;clear hT T;refine yq9 fun T hT=>?_;refine zdt ?_;refine zc ?_;clear hT T;refine yr15 ?_;exact zcM
 |true=>
  simp only[if_true] at hmk;unfold headV hdV at hhead
  cases hh:headP x y with
  |some h'=>
   rw[hh] at hmk;simp only[hh] at hhead;simp only[Option.isSome,if_true] at hmk
   obtain⟨c',r',w'⟩:=h'
   dsimp only at hhead;rw[hmk];dsimp only;refine zeB ?_;refine yr2 ?_;refine zn ?_;intro b3 b5 b6;refine yq9 fun T hT=>?_;refine zaI ?_;clear hT T;refine yq9 fun T hT=>?_;refine zdt ?_;refine zc ?_;clear hT T;refine yq12 fun T hT=>?_;refine zaH ?_;clear hT T;refine yr3 ?_;refine zf ?_;intro b8;refine yr21 ?_;exact zcM
  |none=>
   rw[hh] at hmk;simp only[hh] at hhead;simp only[Option.isSome,Bool.false_eq_true,if_false] at hmk;rw[hmk];dsimp only;simp only[hpp (hlm rfl)] at hput;refine zeB ?_;refine yr2 ?_;refine zn ?_;intro b3 b5 b6;refine yq9 fun T hT=>?_;refine zaI ?_;clear hT T;refine yq9 fun T hT=>?_;refine zdt ?_;refine zc ?_;clear hT T;refine yq12 fun T hT=>?_;refine zaH ?_;clear hT T;refine yr3 ?_;refine zf ?_;intro b8;refine yq17 fun T hT=>?_;refine(CallV.fn (hput _)).mono ?_;rintro _ _ ⟨rfl,rfl⟩;refine za ?_;clear hT T;refine yq11 fun T hT=>?_;refine(CallV.part (CallV.fn (hwipe _)) ja).mono ?_;rintro _ _ ⟨vr1,R1,N1,hB1,hX1,rfl,rfl⟩
   have ho1:=hB1.m.o
   have hf1:=hf.next hX1 (jby (by omega)) (Jx.cleared hf.w)
   have hst:=fun A=>jg4 (w0:=w0) (D:=N1++D) (F:=A) (i:=0) (w:=pw) hB1 hf1 hy (by have:=hf1.l;omega)
   unfold boL at hst;refine za ?_;clear hT T;refine yq11 fun T hT=>?_;refine(CallV.part (CallV.fn (hst _)) (by rw[List.append_assoc];exact ja)).mono ?_;rintro _ _ ⟨vr2,R2,N2,hB2,hX2,rfl,rfl⟩
   have ho2:=hB2.m.o
   rw[hX1,List.set_set] at hX2;rw[←List.append_assoc] at hB2;refine za ?_;clear hT T;refine yr5 ?_;exact KE.fin (H':=(N2++N1)++(D++F)) jd rfl jc (by simp only[List.append_assoc];exact ja) ⟨vr2,R2,N2++N1,hB2,hX2,rfl,rfl⟩
end
set_option maxRecDepth 10000
section
variable {w0 : World} {D F : jb} {vc : Value} {C : List Int}
theorem rtOf_K {s:Nat} {c:Int} (hC:Sli w0 D bE vc C) (hc:C[s]?=some c) (hl:C.length≤65536):
  Call Tryz.prog w0 320 [vc, .int .i64 (s:Nat)] (D++F) (fun r H'=>r= .tuple [.int .u8 c, .int .i64 0].toArray∧H'=D++F):=by
 have hs:=jl hc
 have hge: ¬((s:Nat):Int)≥(C.length:Nat):=by omega
 refine Call.enter2 (n:=18) (by kernel_rfl) Tryz.func320 rfl rfl rfl ?_;refine yr37 ?_;exact zd
theorem rtwith_K {s:Nat} {c:Int} (hC:Sli w0 D bE vc C) (hs:s<C.length) (hl:C.length≤65536):
  Call Tryz.prog w0 321 [vc, .int .i64 (s:Nat), .int .u8 c] (D++F) (fun r H'=> ∃ (vc':Value) (N:jb),Sli w0 (N++D) bE vc' (C.set s c)∧vc'.oneCell'=true∧r=vc'∧H'=N++(D++F)):=by
 obtain⟨z,hz⟩:=jn hs
 refine Call.enter3 (n:=16) (by kernel_rfl) Tryz.func321 rfl rfl rfl ?_;refine yr7 ?_;refine zt ?_;intro b8;refine yr1 ?_;refine KL.e rfl (Eff.appLit (E:=bE) (ys:=C) rfl rfl rfl rfl rfl rfl rfl jq (by first|exact Sli.blk jq rfl (by first|decide|simp) (by first|decide|(unfold maxLen;omega)) rfl|exact Sli.old (by assumption)|exact Sli.own jh (by assumption) jG|assumption|exact Sli.part (by assumption) ja) (by first|assumption|omega|(simp<;>fail)|(simp;omega)) rfl) ?_;rintro _ _ ⟨o',ok',rfl,rfl⟩;refine yr19 ?_;refine KE.fin (H':=oH bE 5 (C.set s c) o'++(D++F)) jd rfl jc ja ⟨oV o' C.length,_,Sli.own jh (ok'.set s c) (by simp),jK _ _,rfl,rfl⟩
theorem rtShade_K {s:Nat} {c:Int} (hC:Sli w0 D bE vc C) (hv:vc.oneCell'=true) (hc:C[s]?=some c) (hl:C.length≤65536):
  Call Tryz.prog w0 318 [vc, .int .i64 (s:Nat)] (D++F) (fun r H'=> ∃ (vc':Value) (N:jb),Sli w0 (N++D) bE vc' (if c=0 then C.set s 1 else C)∧vc'.oneCell'=true∧r= .tuple [vc', .bool (decide (c=0)), .int .i64 0].toArray∧H'=N++(D++F)):=by
 have hs:=jl hc
 by_cases h0:c=0
 ·rw[if_pos h0,decide_eq_true h0];refine Call.enter2 (n:=26) (by kernel_rfl) Tryz.func318 rfl rfl rfl ?_;refine yq11 fun T hT=>?_;refine zeC ?_;refine zc ?_;clear hT T;refine yq27 fun T hT=>?_;refine(CallV.part (CallV.fn (rtwith_K hC hs hl)) ja).mono ?_;rintro _ _ ⟨vc',N,hC',hv',rfl,rfl⟩;refine za ?_;clear hT T;refine yr6 ?_;exact KE.fin jd rfl jc ja ⟨_,N,hC',hv',rfl,rfl⟩
 ·rw[if_neg h0,decide_eq_false h0];refine Call.enter2 (n:=26) (by kernel_rfl) Tryz.func318 rfl rfl rfl ?_;refine yq11 fun T hT=>?_;refine zeC ?_;refine zc ?_;clear hT T;refine yr32 ?_;exact KE.fin jd rfl jc ja ⟨vc,[],hC,hv,rfl,rfl⟩
theorem jgZ {s:Nat} (hC:Sli w0 D bE vc C) (hs:s<C.length) (hl:C.length≤65536):
  Call Tryz.prog w0 300 [vc, .int .i64 (s:Nat)] (D++F) (fun r H'=> ∃ (vc':Value) (N:jb),Sli w0 (N++D) bE vc' (C.set s 2)∧vc'.oneCell'=true∧r= .tuple [vc', .int .i64 0].toArray∧H'=N++(D++F)):=by
 obtain⟨c,hc⟩:=jn hs
 refine Call.enter2 (n:=21) (by kernel_rfl) Tryz.func300 rfl rfl rfl ?_;refine yq10 fun T hT=>?_;refine zeC ?_;refine zc ?_;clear hT T;refine yq21 fun T hT=>?_;refine(CallV.part (CallV.fn (rtwith_K hC hs hl)) ja).mono ?_;rintro _ _ ⟨vc',N,hC',hv',rfl,rfl⟩;refine za ?_;clear hT T;refine yr5 ?_;exact KE.fin jd rfl jc ja ⟨_,N,hC',hv',rfl,rfl⟩
end
section
variable {w0 : World} {D F : jb} {vn : Value} {l : List Int}
theorem rPin_K {s:Nat} (hN:Sli w0 D iE vn l) (hv:vn.oneCell'=true) (hs:s<l.length) (hl:l.length≤65536) (hb: ∀ v∈l,0≤v∧v≤255):
  Call Tryz.prog w0 160 [vn, .int .i64 (s:Nat)] (D++F) (fun r H'=> ∃ (vn':Value) (N:jb) (e:Int),Sli w0 (N++D) iE vn' (JJ l s)∧vn'.oneCell'=true∧r= .tuple [vn', .int .i64 e].toArray∧H'=N++(D++F)):=by
 obtain⟨z,hz⟩:=jn hs
 have hzb:=hb z (List.mem_of_getElem? hz)
 have hge: ¬((s:Nat):Int)≥(l.length:Nat):=by omega
 have hp:JJ l s=if z<255 then l.set s (z+1) else l:=by unfold JJ;rw [hz];rfl
 by_cases h:z<255
 ·rw[hp,if_pos h]
  have h': ¬z≥255:=by omega
  refine Call.enter2 (n:=32) (by kernel_rfl) Tryz.func160 rfl rfl rfl ?_;refine yr41 ?_;refine zt ?_;intro b22;refine yr1 ?_;refine KL.e rfl (Eff.appLit (E:=iE) (ys:=l) rfl rfl rfl rfl rfl rfl rfl jq (by first|exact Sli.blk jq rfl (by first|decide|simp) (by first|decide|(unfold maxLen;omega)) rfl|exact Sli.old (by assumption)|exact Sli.own jh (by assumption) jG|assumption|exact Sli.part (by assumption) ja) (by first|assumption|omega|(simp<;>fail)|(simp;omega)) rfl) ?_;rintro _ _ ⟨o',ok',rfl,rfl⟩;refine yr22 ?_;refine KE.fin (H':=oH iE 3 (l.set s (z+1)) o'++(D++F)) jd rfl jc ja ⟨oV o' l.length,_,0,Sli.own jh (ok'.set s _) (by simp),jK _ _,rfl,rfl⟩
 ·rw[hp,if_neg h]
  have h':z≥255:=by omega
  refine Call.enter2 (n:=32) (by kernel_rfl) Tryz.func160 rfl rfl rfl ?_;refine yr46 ?_;exact KE.fin jd rfl jc ja ⟨vn,[],140,hN,hv,rfl,rfl⟩
theorem rUnpin_K {s:Nat} (hN:Sli w0 D iE vn l) (hv:vn.oneCell'=true) (hs:s<l.length) (hl:l.length≤65536) (hb: ∀ v∈l,0≤v∧v≤255):
  Call Tryz.prog w0 162 [vn, .int .i64 (s:Nat)] (D++F) (fun r H'=> ∃ (vn':Value) (N:jb) (e:Int),Sli w0 (N++D) iE vn' (JO l s)∧vn'.oneCell'=true∧r= .tuple [vn', .int .i64 e].toArray∧H'=N++(D++F)):=by
 obtain⟨z,hz⟩:=jn hs
 have hzb:=hb z (List.mem_of_getElem? hz)
 have hge: ¬((s:Nat):Int)≥(l.length:Nat):=by omega
 have hp:JO l s=if 0<z then l.set s (z-1) else l:=by unfold JO;rw [hz];rfl
 by_cases h:0<z
 ·rw[hp,if_pos h]
  have h': ¬z=0:=by omega
  refine Call.enter2 (n:=32) (by kernel_rfl) Tryz.func162 rfl rfl rfl ?_;refine yr41 ?_;refine zt ?_;intro b22;refine yr1 ?_;refine KL.e rfl (Eff.appLit (E:=iE) (ys:=l) rfl rfl rfl rfl rfl rfl rfl jq (by first|exact Sli.blk jq rfl (by first|decide|simp) (by first|decide|(unfold maxLen;omega)) rfl|exact Sli.old (by assumption)|exact Sli.own jh (by assumption) jG|assumption|exact Sli.part (by assumption) ja) (by first|assumption|omega|(simp<;>fail)|(simp;omega)) rfl) ?_;rintro _ _ ⟨o',ok',rfl,rfl⟩;refine yr22 ?_;refine KE.fin (H':=oH iE 3 (l.set s (z-1)) o'++(D++F)) jd rfl jc ja ⟨oV o' l.length,_,0,Sli.own jh (ok'.set s _) (by simp),jK _ _,rfl,rfl⟩
 ·rw[hp,if_neg h]
  have h':z=0:=by omega
  refine Call.enter2 (n:=32) (by kernel_rfl) Tryz.func162 rfl rfl rfl ?_;refine yr46 ?_;exact KE.fin jd rfl jc ja ⟨vn,[],140,hN,hv,rfl,rfl⟩
end
open Go.RowKit
set_option maxRecDepth 10000
section
variable {w0 : World} {D F : jb} {v : PlV} {vr : Value} {g : PlG} {R : List RwD} {t s : Nat} {x : List Int} {y : ju}
theorem jf1 {i:Int} (hB:BoD w0 D v vr g R) (hf:BoF g R t x) (hy:g.L[s]?=some y):
  Call Tryz.prog w0 166 [.agg (boL v g vr t).toArray, .int .i64 (s:Nat), .int .i64 i] (D++F) (fun r H'=>r= .tuple [.int .i64 (refP x g.slots y i).1, .int .i64 (refP x g.slots y i).2].toArray∧H'=D++F):=by
 have hL:=hB.p.L
 have hLl:=jah (g:=g)
 have hsl:=hf.ok.slots
 have ho:=hB.m.o
 have q1:=hB.p.oL
 have q2:=hB.p.oF
 have q3:=hB.p.oM
 have q4:=hB.p.oC
 have hfit:=hf.ok.fits hy
 have hlx:=hf.l
 have hfld:=fun A=>jg5 (w0:=w0) (D:=D) (F:=A) (ref:=true) (i:=i) hB hf hy
 obtain⟨fe,hfe⟩: ∃ fe,fe=fldP x y true i:=⟨_,rfl⟩
 unfold refP;rw[←hfe];simp only[←hfe] at hfld
 by_cases e:fe=0
 ·subst e
  obtain⟨p1,p2,p3⟩:=jae hfe.symm
  have hi1:(1:Int)+i=((1+i.toNat:Nat):Int):=by omega
  have hfa:y.addr+(1+i.toNat)=fAt y i:=by unfold fAt;omega
  have hld:=fun A=>rbload_K (w0:=w0) (D:=D) (F:=A) (i:=1+i.toNat) hB hf hy (by omega)
  rw[hfa] at hld
  obtain⟨w,hw⟩: ∃ w,wAt x (fAt y i)=w:=⟨_,rfl⟩
  have hwb:=hf.w.at_ (fAt y i)
  rw[hw] at hld hwb⊢;simp only[if_true]
  by_cases hgt:w>((g.slots:Nat):Int)
  ·rw[if_pos hgt]
   have hgt':w>((g.L.length:Nat):Int):=by omega
   unfold boL at*;refine zeD ?_;refine yr2 ?_;refine ze ?_;intro b3;refine yq9 fun T hT=>?_;refine zcN ?_;refine zc ?_;clear hT T;refine yq19 fun T hT=>?_;rw[hi1];refine(CallV.part (CallV.fn (hld _)) ja).mono ?_;refine zc ?_;clear hT T;refine yr24 ?_;exact zd
  ·rw[if_neg hgt]
   have hgt': ¬w>((g.L.length:Nat):Int):=by omega
   unfold boL at*;refine zeD ?_;refine yr2 ?_;refine ze ?_;intro b3;refine yq9 fun T hT=>?_;refine zcN ?_;refine zc ?_;clear hT T;refine yq19 fun T hT=>?_;rw[hi1];refine(CallV.part (CallV.fn (hld _)) ja).mono ?_;refine zc ?_;clear hT T;refine yr28 ?_;exact zd
 ·simp only[if_neg e];clear hfe;unfold boL at*;refine zeD ?_;refine yr2 ?_;refine ze ?_;intro b3;refine yq9 fun T hT=>?_;refine zcN ?_;refine zc ?_;clear hT T;refine yr20 ?_;exact zd
theorem rbSetRef_K {i to:Int} (hB:BoD w0 D v vr g R) (hf:BoF g R t x) (hy:g.L[s]?=some y):
  Call Tryz.prog w0 225 [.agg (boL v g vr t).toArray, .int .i64 (s:Nat), .int .i64 i, .int .i64 to] (D++F) (fun r H'=> ∃ (vr':Value) (R':List RwD) (N:jb),BoD w0 (N++D) v vr' g R'∧rwX R'=(rwX R).set t (j7 x g.slots y i to).2∧r= .tuple [.agg (boL v g vr' t).toArray, .int .i64 (j7 x g.slots y i to).1].toArray∧H'=N++(D++F)):=by
 have hL:=hB.p.L
 have hLl:=jah (g:=g)
 have hsl:=hf.ok.slots
 have ho:=hB.m.o
 have q1:=hB.p.oL
 have q2:=hB.p.oF
 have q3:=hB.p.oM
 have q4:=hB.p.oC
 have hself:=hf.self
 have hfit:=hf.ok.fits hy
 have hww:=hf.ok.words
 have hlx:=hf.l
 have hHas:=fun A=>jc3 (w0:=w0) (D:=D) (F:=A) (n:=(s:Nat)) hB.p hf.ok
 simp only[jdv hy] at hHas
 have hfld:=fun A=>jg5 (w0:=w0) (D:=D) (F:=A) (ref:=true) (i:=i) hB hf hy
 unfold plL at hHas;unfold j7
 by_cases h1:to< -1
 ·rw[if_pos (.inl h1)];dsimp only;unfold boL at*;refine zdC ?_;refine yr2 ?_;refine zj ?_;intro b4 b8;refine yq9 fun T hT=>?_;refine zaI ?_;clear hT T;refine yr27 ?_;exact zcM
 ·by_cases h2:to≥((g.slots:Nat):Int)
  ·rw[if_pos (.inr h2)];dsimp only
   have h2':to≥((g.L.length:Nat):Int):=by omega
   unfold boL at*;refine zdC ?_;refine yr2 ?_;refine zj ?_;intro b4 b8;refine yq9 fun T hT=>?_;refine zaI ?_;clear hT T;refine yr33 ?_;exact zcM
  ·rw[if_neg (by omega)]
   have h2': ¬to≥((g.L.length:Nat):Int):=by omega
   obtain⟨fe,hfe⟩: ∃ fe,fe=fldP x y true i:=⟨_,rfl⟩
   rw[←hfe];simp only[←hfe] at hfld
   by_cases e:fe=0
   ·subst e
    obtain⟨p1,p2,p3⟩:=jae hfe.symm
    have hi1:(1:Int)+i=((1+i.toNat:Nat):Int):=by omega
    have hfa:y.addr+(1+i.toNat)=fAt y i:=by unfold fAt;omega
    have hst:=fun A=>jg4 (w0:=w0) (D:=D) (F:=A) (i:=1+i.toNat) (w:=to+1) hB hf hy (by omega)
    rw[hfa] at hst;simp only[if_true];unfold boL at*;refine zdC ?_;refine yr2 ?_;refine zj ?_;intro b4 b8;refine yq9 fun T hT=>?_;refine zaI ?_;clear hT T;refine yq31 fun T hT=>?_;refine zcN ?_;refine zc ?_;clear hT T;refine yq22 fun T hT=>?_;rw[hi1];refine zdu ?_;rintro _ _ ⟨vr',R',N,hM',hX,rfl,rfl⟩
    have ho':=hM'.m.o
    refine za ?_;clear hT T;refine yr5 ?_;exact KE.fin jd rfl jc ja ⟨vr',R',N,hM',hX,rfl,rfl⟩
   ·simp only[if_neg e];unfold boL at*;refine zdC ?_;refine yr2 ?_;refine zj ?_;intro b4 b8;refine yq9 fun T hT=>?_;refine zaI ?_;clear hT T;refine yq31 fun T hT=>?_;refine zcN ?_;refine zc ?_;clear hT T;refine yr21 ?_;exact zcM
def refsL (x:List Int) (n:Nat) (y:ju) (k:Nat):List Int:=(List.range k).map fun i=>(refP x n y ((i:Nat):Int)).1
theorem jd4 {n k:Nat}:(refsL x n y k).length=k:=by simp[refsL]
theorem refsL_next {n k:Nat}:refsL x n y k++ [(refP x n y ((k:Nat):Int)).1]=refsL x n y (k+1):=by simp[refsL,List.range_succ]
theorem rf_ok (ok:je g) (hrf:jap g x) (hy:g.L[s]?=some y) {i:Int} (h:fldP x y true i=0):(refP x g.slots y i).2=0:=by
 obtain⟨p1,p2,p3⟩:=jae h
 have:=hrf s y hy (1+i.toNat) (by omega) (by unfold fAt at p2;omega)
 unfold refP;rw[if_pos h,if_neg];unfold fAt;rw[show y.addr+1+i.toNat=y.addr+(1+i.toNat) by omega];omega
structure RfS where
 k:Nat
 o:Own
set_option maxHeartbeats 1000000 in
theorem rbRefs_K {q:Nat} (hB:BoD w0 D v vr g R) (hf:BoF g R t x) (hy:g.L[q]?=some y) (hrf:jap g x):
  Call Tryz.prog w0 85 [.agg (boL v g vr t).toArray, .int .i64 (q:Nat)] (D++F) (fun r H'=> ∃ (o:Own) (e:Int),oOk iE (refsL x g.slots y (refsN x y).toNat) o∧r= .tuple [oV o (refsL x g.slots y (refsN x y).toNat).length, .int .i64 e].toArray∧H'=oH iE 3 (refsL x g.slots y (refsN x y).toNat) o++(D++F)):=by
 have ho:=hB.m.o
 have q1:=hB.p.oL
 have q2:=hB.p.oF
 have q3:=hB.p.oM
 have q4:=hB.p.oC
 have hfit:=hf.ok.fits hy
 have hhead:=fun A=>jek (w0:=w0) (D:=D) (F:=A) hB hf hy
 have href:=fun A (i:Nat)=>jf1 (w0:=w0) (D:=D) (F:=A) (i:=(i:Nat)) hB hf hy
 have hn:refsN x y=match headP x y with|some h=>h.r|none=>0:=rfl
 have hfl: ∀ i:Nat,fldP x y true (i:Nat)=match headP x y with|none=>5|some h=>if 0≤((i:Nat):Int)∧((i:Nat):Int)<h.r+h.w∧decide (((i:Nat):Int)<h.r)=true then 0 else 110:=fun _=>rfl
 unfold headV at hhead
 cases hh:headP x y with
 |none=>
  rw[hh] at hn;simp only[hh] at hhead;dsimp only at hn;unfold hdV at hhead;dsimp only at hhead;rw[hn];unfold boL at*;refine Call.enter2 (n:=44) (by kernel_rfl) Tryz.func85 rfl rfl rfl ?_;refine yr2 ?_;refine ze ?_;intro b2;refine yq8 fun T hT=>?_;refine zaH ?_;clear hT T;refine yr3 ?_;refine zf ?_;intro b6;refine yr16 ?_;refine K.loopT (σ:=Unit) [(1,_),(2,_),(6,_)] (fun s kp_=>(9, .int .i64 0)::(8, .slice none 0 0)::(7, .int .i64 5)::kp_) (fun s=>(b6,cells [.int .i64 0, .int .i64 0, .int .i64 0] 138)::(b2,cells [vr, .int .i64 (t:Nat),v.L,v.F,v.M, .int .i64 (g.words:Nat),v.C] 40)::(D++F)) (fun s=>True) (fun s=>0) (()) jg ja (trivial) ?_;rintro⟨⟩ _;refine yr36 ?_;exact KE.fin jd rfl jc ja ⟨none,5,rfl,rfl,rfl⟩
 |some h=>
  have hm:=(jbc (jbT hh).2).1
  have hsz:=(jbc (jbT hh).2).2.2
  rw[hh] at hn;simp only[hh] at hhead hfl;dsimp only at hn hfl
  obtain⟨c,r,w⟩:=h
  dsimp only at hn hfl hsz;simp only[Jd,decide_eq_true_eq] at hm;unfold hdV at hhead;dsimp only at hhead
  obtain⟨n,hrn⟩: ∃ n:Nat,r=n:=⟨r.toNat,by omega⟩
  subst hrn;rw[hn,Int.toNat_natCast]
  have hok: ∀ i:Nat,i<n→(refP x g.slots y (i:Nat)).2=0:=fun i hi=>rf_ok hf.ok hrf hy (by rw[hfl,if_pos ⟨by omega,by omega,decide_eq_true (by omega)⟩])
  unfold boL at*;refine Call.enter2 (n:=44) (by kernel_rfl) Tryz.func85 rfl rfl rfl ?_;refine yr2 ?_;refine ze ?_;intro b2;refine yq8 fun T hT=>?_;refine zaH ?_;clear hT T;refine yr3 ?_;refine zf ?_;intro b6;refine yr16 ?_;refine K.loopT (σ:=RfS) [(1,_),(2,_),(6,_)] (fun s kp_=>(9, .int .i64 (s.k:Nat))::(8,oV s.o (refsL x g.slots y s.k).length)::(7, .int .i64 0)::kp_) (fun s=>oH iE 3 (refsL x g.slots y s.k) s.o++((b6,cells [.int .i64 c, .int .i64 (n:Nat), .int .i64 w] 138)::(b2,cells [vr, .int .i64 (t:Nat),v.L,v.F,v.M, .int .i64 (g.words:Nat),v.C] 40)::(D++F))) (fun s=>s.k≤n∧oOk iE (refsL x g.slots y s.k) s.o) (fun s=>n-s.k) (⟨0,none⟩) jg ja (⟨Nat.zero_le _,rfl⟩) ?_;rintro⟨k,o⟩ ⟨hk,ok⟩;dsimp only at hk ok⊢
  have hrl:=jd4 (x:=x) (n:=g.slots) (y:=y) (k:=k)
  by_cases hlt:k<n
  ·have hlt':((k:Nat):Int)<(n:Nat):=by omega
   have href1:=fun A=>href A k
   simp only[hok k hlt] at href1
   obtain⟨z,hz⟩: ∃ z,(refP x g.slots y ((k:Nat):Int)).1=z:=⟨_,rfl⟩
   have hnx:=refsL_next (x:=x) (n:=g.slots) (y:=y) (k:=k)
   rw[hz] at hnx;simp only[hz] at href1
   have hbd:(refsL x g.slots y (k+1)).length≤4294967296:=by rw[jd4];omega
   refine yq25 fun T hT=>?_;refine(CallV.part (CallV.fn (href1 _)) ja).mono ?_;refine zc ?_;clear hT T;refine yr7 ?_;refine zk ?_;refine yr2 ?_;refine zt ?_;intro b37;refine KL.e rfl (Eff.appZ (E:=iE) (xs:=refsL x g.slots y k) (o:=o) (ys:=[z]) (zs:=refsL x g.slots y (k+1)) rfl rfl rfl rfl rfl rfl jh (by assumption) (by first|exact Sli.blk jq rfl (by first|decide|simp) (by first|decide|(unfold maxLen;omega)) rfl|exact Sli.old (by assumption)|exact Sli.own jh (by assumption) jG|assumption|exact Sli.part (by assumption) ja) (hnx) (by first|assumption|omega|(simp<;>fail)|(simp;omega)) rfl) ?_;rintro _ _ ⟨o',ok',rfl,rfl⟩;refine yr14 ?_;exact KE.again ⟨k+1,o'⟩ jg ja ⟨hlt,ok'⟩ (by show n-(k+1)<n-k;omega)
  ·have hkn:k=n:=by omega
   subst hkn
   have hlt': ¬((k:Nat):Int)<(k:Nat):=by omega
   refine yr37 ?_;exact KE.fin jd rfl jc ja ⟨o,0,ok,rfl,rfl⟩
end
end Go.Proofs.YtldomapkmopomaaGreatDoor.Sw
