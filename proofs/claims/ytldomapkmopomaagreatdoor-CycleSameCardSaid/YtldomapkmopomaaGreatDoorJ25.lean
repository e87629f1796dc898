/-The walker and the contracts that the law needs,part 25. -/
import Derived.Test.YtldomapkmopomaaGreatDoorD1
import Derived.ArgAppend
import Derived.ChangeMaps5
import Derived.Deep.Fields
import Derived.Deep.LoopGhost
import Derived.Deep.OwnRows
import Derived.Deep.Quiet
import Derived.Deep.Slices
import Derived.IntWalk
import Derived.Laws.Cells
import Derived.Laws.CopyOwn
import Derived.Laws.Externs
import Derived.Laws.FloatArith
import Derived.Laws.IdiomStrings
import Derived.Laws.NewFold
import Derived.Laws.StructEq
import Derived.Lib.BitFns
import Derived.Lib.Hide
import Derived.Lib.SmallJoins
import Derived.Lib.TrailingZeros
import Derived.Maps.RangeRun
import Derived.OrdersIn
import Derived.ProofKit
import Derived.RangeFuncBound
import Derived.RangeFuncCalls
import Derived.RangeFuncLeaves
import Derived.RangeFuncNested
import Derived.RecoverIn
import Derived.Shelf.Bits.Mul64
import Derived.Shelf.Slices.Turned
import Derived.Shelf.Spec.TrailingZeros
import Derived.Shelf.Strconv.Itoa0
import Derived.SizedLaws
import Derived.Sort.BigQuietIn
import Derived.StillTailTactics
import Derived.Test.YtldomapkmopomaaGreatDoorProg
import Derived.WalkKit
import Derived.Test.YtldomapkmopomaaGreatDoorJ21
import Derived.Test.YtldomapkmopomaaGreatDoorJ22
import Derived.Test.YtldomapkmopomaaGreatDoorJ23
set_option linter.unusedVariables false set_option linter.unusedSimpArgs false namespace Go.Proofs.YtldomapkmopomaaGreatDoor.Sw
set_option maxHeartbeats 8000000
open Go.Proofs.YtldomapkmopomaaGreatDoor renaming lo → qL, hi → qH
open Go.RowKit
set_option linter.unusedVariables false
set_option linter.unusedSimpArgs false
set_option maxRecDepth 10000
section
variable {w0 : World} {F : jb} {B : BoM} {x : List Int} {s : Nat} {y : ju}
theorem zero_ok {m:Jk} {t:Nat} {p:ju} (okm:JZ m) (hr:m.R[t]?=some x) (hl:p.addr+p.size≤x.length):JZ (J4 m t (Jo x p)):=putM_ok okm hr (jby hl)
theorem bWipe_K (ok:jaq B x) (hy:B.p.g.L[s]?=some y):
  Call Tryz.prog w0 212 [.pointer (some ⟨B.b,0,none⟩), .int .i64 (s:Nat)] (jX B++(jx B.m++(planH B.p++F))) (fun r H'=>r= .int .i64 0∧H'=jX B++(jx (J4 B.m B.t (Jo x y))++(planH B.p++F))):=by
 have okm:=ok.m
 have hr:=ok.r
 obtain⟨f1,f2,_⟩:=ok.p.g.fits hy
 have hz:=jgO (p:=y) hr
 refine Call.enter2 (n:=29) (by kernel_rfl) Tryz.func212 rfl rfl rfl ?_;refine yq9 fun T hT=>?_;refine zbJ ?_;refine zc ?_;clear hT T;rw[JN];refine yr20 ?_;refine zft ?_;refine zau ?_;refine zaX ?_;refine zg ?_;refine zV fun T hT=>?_;refine(CallV.part (CallV.fn (Zero_K (n:=y.size) okm hr (by omega) (by rw[ok.n];omega))) ja).mono ?_;refine zq ?_;rw[hz];refine zh ?_;clear hT T;refine zy ?_;refine yr2 ?_;exact zfu
theorem Make_K {h:HdP} (hG:jw w0) (ok:jaq B x) (hy:B.p.g.L[s]?=some y):
  Call Tryz.prog w0 54 [.pointer (some ⟨B.b,0,none⟩), .int .i64 (s:Nat),hdV h] (jX B++(jx B.m++(planH B.p++F))) (fun r H'=>r= .int .i64 (jW x y h).1∧H'=jX B++(jx (J4 B.m B.t (jW x y h).2)++(planH B.p++F))):=by
 have okm:=ok.m
 have hr:=ok.r
 obtain⟨f1,f2,_⟩:=ok.p.g.fits hy
 have hz:=jgO (p:=y) hr
 have hself:=jd7 hr
 have hput:=fun A (hm:Jd h=true)=>Put_K (w0:=w0) (H:=A) hG hm
 have hlies:=fun A=>lies_K (w0:=w0) (F:=A) (h:=h) ok hy
 have hmk:jW x y h=if Js y h then(if (headP x y).isSome then(8,x) else(0,(Jo x y).set y.addr (putW h))) else(2,x):=rfl
 have hpw:putW h=(putN h.c.toNat h.r.toNat h.w.toNat:Nat):=rfl
 have hlm:=fun e=>(jbc (p:=y) (h:=h) e).1
 obtain⟨pw,hpw'⟩: ∃ pw,pw=putW h:=⟨_,rfl⟩
 rw[←hpw'] at hmk hpw;simp only[←hpw] at hput
 obtain⟨mk,hmk'⟩: ∃ mk,mk=jW x y h:=⟨_,rfl⟩
 rw[←hmk'] at hmk⊢
 obtain⟨li,hli⟩: ∃ li,li=Js y h:=⟨_,rfl⟩
 rw[←hli] at hmk hlm;simp only[←hli] at hlies
 obtain⟨c,r,w⟩:=h
 unfold hdV at*;dsimp only at*;clear hpw hpw' hmk' hli;refine Call.enter3 (n:=65) (by kernel_rfl) Tryz.func54 rfl rfl rfl ?_;refine yr2 ?_;refine ze ?_;intro b5;refine yq7 fun T hT=>?_;refine zbJ ?_;refine zc ?_;clear hT T;refine yq26 fun T hT=>?_;refine zdt ?_;refine zq ?_
 cases li with
 |false=>
  refine za ?_;clear hT T;simp only[Bool.false_eq_true,if_false] at hmk;rw[hmk];dsimp only;rw[hself];refine yr11 ?_;exact zd
 |true=>
  simp only[if_true] at hmk;refine za ?_;clear hT T;refine yq11 fun T hT=>?_;refine(CallV.part (CallV.fn (jdN hG ok hy)) ja).mono ?_;refine zq ?_;unfold headV
  cases hh:headP x y with
  |some h'=>
   rw[hh] at hmk;simp only[Option.isSome,if_true] at hmk;dsimp only
   obtain⟨c',r',w'⟩:=h'
   unfold hdV;dsimp only;refine za ?_;clear hT T;rw[hmk];dsimp only;rw[hself];refine yr3 ?_;refine zf ?_;intro b10;refine yr18 ?_;exact zd
  |none=>
   rw[hh] at hmk;simp only[Option.isSome,Bool.false_eq_true,if_false] at hmk;dsimp only;unfold hdV;dsimp only;refine za ?_;clear hT T;refine yr3 ?_;refine zf ?_;intro b10;refine yq16 fun T hT=>?_;refine(CallV.fn (hput _ (hlm rfl))).mono ?_;rintro _ _ ⟨rfl,rfl⟩;refine za ?_;clear hT T;rw[JN];refine yr8 ?_;refine zbL ?_;refine zau ?_;refine zaX ?_;refine zg ?_;refine zV fun T hT=>?_;refine(CallV.part (CallV.fn (Zero_K (n:=y.size) okm hr (by omega) (by rw[ok.n];omega))) ja).mono ?_;refine zq ?_;rw[hz];refine zh ?_;clear hT T;refine zp ?_;refine yr2 ?_;refine zft ?_;refine zau ?_;refine zaX ?_;refine zg ?_;refine zV fun T hT=>?_;refine(CallV.part (CallV.fn (Store_K (t:=B.t) (a:=y.addr) (x:=Jo x y) (w:=pw) (zero_ok okm hr (by rw[ok.n];omega)) (putM_R hr) (by rw[jby (by rw[ok.n];omega),ok.n];omega))) ja).mono ?_;refine zq ?_;rw[setM_put (putM_R hr),putM_put];refine zh ?_;clear hT T;rw[hmk];dsimp only;refine zy ?_;refine yr2 ?_;exact zfu
end
set_option maxRecDepth 10000
section
variable {w0 : World} {F : jb} {B : BoM} {x : List Int} {s : Nat} {y : ju}
theorem bload_K {ref:Bool} {i:Int} (hG:jw w0) (ok:jaq B x) (hy:B.p.g.L[s]?=some y):
  Call Tryz.prog w0 314 [.pointer (some ⟨B.b,0,none⟩), .bool ref, .int .i64 (s:Nat), .int .i64 i] (jX B++(jx B.m++(planH B.p++F)))
   (fun r H'=>r= .tuple [.int .u64 (if fldP x y ref i=0 then wAt x (fAt y i) else 0), .int .i64 (fldP x y ref i)].toArray∧H'=jX B++(jx B.m++(planH B.p++F))):=by
 have okm:=ok.m
 have hr:=ok.r
 obtain⟨f1,f2,f3,_⟩:=ok.p.g.fits hy
 have hin:=fun(e:fldP x y ref i=0)=>jae e
 have hn:=ok.n
 refine Call.enter4 (n:=18) (by kernel_rfl) Tryz.func314 rfl rfl rfl ?_;refine yr2 ?_;refine zj ?_;intro b4 b8;refine yq10 fun T hT=>?_
 refine(CallV.part (CallV.fn (bat_K (F:=(b4,cells [.pointer (some ⟨B.b,0,none⟩)] 74)::(b8,cells [.int .u64 0] 116)::F) (ref:=ref) (i:=i) (g:=325) (cap:=[.pointer (some ⟨b4,0,none⟩), .pointer (some ⟨b8,0,none⟩)])
  (B1:=jX B++(jx B.m++(planH B.p++((b4,cells [.pointer (some ⟨B.b,0,none⟩)] 74)::(b8,cells [.int .u64 (wAt x (fAt y i))] 116)::F)))) hG ok hy ?_)) ja).mono ?_
 ·intro e A
  obtain⟨q1,q2,q3⟩:=hin e
  have hwx:=jfQ (x:=x) (a:=fAt y i) (by rw[hn];omega)
  refine CallV.clo (cap:=[.pointer (some ⟨b4,0,none⟩), .pointer (some ⟨b8,0,none⟩)]) ?_;refine Call.enter3 (n:=17) (by kernel_rfl) Tryz.func325 rfl rfl rfl ?_;rw[JN];refine K.drawn _ [(0,0),(1,0),(2,0),(3,0),(4,0),(5,0),(6,0),(7,0),(8,0),(9,2),(10,0),(11,0),(12,1),(13,2)] (by kernel_rfl) (by kernel_rfl) (by kernel_rfl) (by kernel_rfl) (by kernel_rfl) (by kernel_rfl) (Part.takeA jP.head (Part.takeA jP.head (Part.takeA jP.head (Part.takeA jP.head (Part.take jH.head (Part.drop Part.all)))))) ?_;refine zaa ?_;refine zQ ?_;refine zaa ?_;refine zB ?_;refine zV fun T hT=>?_;refine(CallV.part (CallV.fn (Load_K okm hr hwx)) ja).mono ?_;refine zl ?_;clear hT T;refine zam ?_;refine zU ?_;exact KE.finN jd rfl jc (by rw[JN];exact ja) ⟨rfl,rfl⟩
 ·refine zq ?_
  by_cases e:fldP x y ref i=0
  ·rw[if_pos e];refine za ?_;clear hT T;simp only[if_pos e];refine yr12 ?_;exact zd
  ·rw[if_neg e];refine za ?_;clear hT T;simp only[if_neg e];refine yr12 ?_;exact zd
theorem bRef_K {i:Int} (hG:jw w0) (ok:jaq B x) (hy:B.p.g.L[s]?=some y):
  Call Tryz.prog w0 293 [.pointer (some ⟨B.b,0,none⟩), .int .i64 (s:Nat), .int .i64 i] (jX B++(jx B.m++(planH B.p++F)))
   (fun r H'=>r= .tuple [.int .i64 (refP x B.p.g.slots y i).1, .int .i64 (refP x B.p.g.slots y i).2].toArray∧H'=jX B++(jx B.m++(planH B.p++F))):=by
 have okp:=ok.p
 have hs:=okp.g.slots
 have hw:=ok.w.at_ (fAt y i)
 obtain⟨e,he⟩: ∃ e,fldP x y true i=e:=⟨_,rfl⟩
 obtain⟨v,hv⟩: ∃ v,wAt x (fAt y i)=v:=⟨_,rfl⟩
 have hl:=fun A=>bload_K (w0:=w0) (F:=A) (ref:=true) (i:=i) hG ok hy
 unfold refP;rw[he] at hl⊢;rw[hv] at hw hl⊢
 by_cases h0:e=0
 ·subst h0;simp only[if_true] at hl⊢
  by_cases hgt:v>(B.p.g.slots:Nat)
  ·rw[if_pos hgt]
   have hgt':((B.p.g.slots:Nat):Int)<v:=hgt
   refine zey ?_;refine yq11 fun T hT=>?_;refine ze3 ?_;clear hT T;refine yq24 fun T hT=>?_;refine zaV ?_;clear hT T;refine yr15 ?_;exact zd
  ·rw[if_neg hgt]
   have hgt': ¬v>((B.p.g.slots:Nat):Int):=hgt
   refine zey ?_;refine yq11 fun T hT=>?_;refine ze3 ?_;clear hT T;refine yq24 fun T hT=>?_;refine zaV ?_;clear hT T;refine yr19 ?_;exact zd
 ·simp only[if_neg h0] at hl⊢;refine zey ?_;refine yq11 fun T hT=>?_;refine ze3 ?_;clear hT T;refine yr27 ?_;exact zd
theorem bSetRef_K {i to:Int} (hG:jw w0) (ok:jaq B x) (hy:B.p.g.L[s]?=some y):
  Call Tryz.prog w0 224 [.pointer (some ⟨B.b,0,none⟩), .int .i64 (s:Nat), .int .i64 i, .int .i64 to] (jX B++(jx B.m++(planH B.p++F)))
   (fun r H'=>r= .int .i64 (j7 x B.p.g.slots y i to).1∧H'=jX B++(jx (J4 B.m B.t (j7 x B.p.g.slots y i to).2)++(planH B.p++F))):=by
 have okp:=ok.p
 have hs:=okp.g.slots
 have hself:=jd7 ok.r
 have hst:=fun A=>bstore_K (w0:=w0) (F:=A) (ref:=true) (i:=i) (w:=to+1) hG ok hy
 unfold j7
 by_cases h1:to< -1
 ·rw[if_pos (.inl h1)];dsimp only;rw[hself];refine zez ?_;refine yq10 fun T hT=>?_;refine zbJ ?_;refine zc ?_;clear hT T;refine yr42 ?_;exact zd
 ·by_cases h2:to≥(B.p.g.slots:Nat)
  ·rw[if_pos (.inr h2)];dsimp only;rw[hself]
   have h2':to≥((B.p.g.slots:Nat):Int):=h2
   refine zez ?_;refine yq10 fun T hT=>?_;refine zbJ ?_;refine zc ?_;clear hT T;refine yq35 fun T hT=>?_;refine zaV ?_;clear hT T;refine yr13 ?_;exact zd
  ·rw[if_neg (by omega)]
   have h2': ¬to≥((B.p.g.slots:Nat):Int):=h2
   refine zez ?_;refine yq10 fun T hT=>?_;refine zbJ ?_;refine zc ?_;clear hT T;refine yq35 fun T hT=>?_;refine zaV ?_;clear hT T;refine yq16 fun T hT=>?_;refine zdu ?_;refine zc ?_;clear hT T
   by_cases e:fldP x y true i=0
   ·simp only[e,if_true];refine yr4 ?_;exact zd
   ·simp only[if_neg e];refine yr4 ?_;exact zd
end
open Go.RowKit
set_option maxRecDepth 10000
section
variable {w0 : World} {F : jb} {q : PiM}
theorem pi_set {s:Nat} {n:Int} (ok:PiOk q) (hs:s<q.l.length) (hn:0≤n∧n≤255):PiOk ⟨q.b,Jr q.r s (decide (0<n)),q.l.set s n,q.o⟩:=by
 refine⟨jcs ok.r _ _,ok.o.set _ _,?_,by simpa using ok.m,fun v hv=>?_⟩
 ·show q.r.bs.set s (decide (0<n))=_
  rw[ok.n,List.map_set]
 ·rcases List.mem_or_eq_of_mem_set hv with h|rfl
  ·exact ok.v v h
  ·exact hn
theorem jg6 {s:Int} (ok:PiOk q):
  Call Tryz.prog w0 36 [.pointer (some ⟨q.b,0,none⟩), .int .i64 s] (Jp q++F) (fun r H'=>r= .int .i64 (if 0≤s then(q.l[s.toNat]?).getD 0 else 0)∧H'=Jp q++F):=by
 have ho:=ok.o
 have hm:=ok.m
 by_cases h0:s<0
 ·rw[if_neg (by omega)];refine zeA ?_;refine yq9 fun T hT=>?_;refine zb7 ?_;rintro _ _ ⟨rfl,rfl⟩;refine za ?_;clear hT T;simp only[jaG];refine yr25 ?_;exact zcA
 ·rw[if_pos (by omega)]
  by_cases h1:s<(q.l.length:Nat)
  ·obtain⟨k,rfl⟩: ∃ k:Nat,s=(k:Nat):=⟨s.toNat,by omega⟩
   obtain⟨v,hv⟩:=jn (l:=q.l) (k:=k) (by omega)
   have hvb:=ok.v v (List.mem_of_getElem? hv)
   have hk:k<q.l.length:=by omega
   have hge: ¬((k:Nat):Int)≥(q.l.length:Nat):=by omega
   rw[show((k:Nat):Int).toNat=k by omega,hv];dsimp only[Option.getD];refine zeA ?_;refine yq9 fun T hT=>?_;refine zb7 ?_;rintro _ _ ⟨rfl,rfl⟩;refine za ?_;clear hT T;simp only[jaG];refine yr41 ?_;exact zcA
  ·have hge:s≥((q.l.length:Nat):Int):=by omega
   rw[List.getElem?_eq_none (by omega)];dsimp only[Option.getD];refine zeA ?_;refine yq9 fun T hT=>?_;refine zb7 ?_;rintro _ _ ⟨rfl,rfl⟩;refine za ?_;clear hT T;simp only[jaG];refine yr32 ?_;exact zcA
theorem more_K {b:Value} {n:Int} (hn:0≤n∧n≤255):
  Call Tryz.prog w0 231 [b, .int .u8 n] F (fun r H'=>r= .tuple [.int .u8 ((n+1)%256), .bool (decide (n<255))].toArray∧H'=F):=by
 by_cases h:n<255
 ·rw[decide_eq_true h];rw[show(n+1)%256=n+1 by omega];refine Call.enter2 (n:=10) (by kernel_rfl) Tryz.func231 rfl rfl rfl ?_;refine yr17 ?_;exact zd
 ·rw[decide_eq_false h];refine Call.enter2 (n:=10) (by kernel_rfl) Tryz.func231 rfl rfl rfl ?_;refine yr17 ?_;exact zd
theorem less_K {b:Value} {n:Int} (hn:0≤n∧n≤255):
  Call Tryz.prog w0 232 [b, .int .u8 n] F (fun r H'=>r= .tuple [.int .u8 ((n-1)%256), .bool (decide (0<n))].toArray∧H'=F):=by
 by_cases h:0<n
 ·rw[decide_eq_true h,show(n-1)%256=n-1 by omega];refine Call.enter2 (n:=10) (by kernel_rfl) Tryz.func232 rfl rfl rfl ?_;refine yr17 ?_;exact zd
 ·rw[decide_eq_false h];refine Call.enter2 (n:=10) (by kernel_rfl) Tryz.func232 rfl rfl rfl ?_;refine yr17 ?_;exact zd
theorem piturn_K {s:Nat} {v n:Int} {is:Bool} {yv:FuncId} {cap:List Value} (ok:PiOk q) (hv:q.l[s]?=some v) (hn:is=true→0≤n∧n≤255)
  (hby: ∀ A,CallV Tryz.prog w0 (.func (.func yv) cap.toArray #[]) [.int .u8 v] A (fun r H'=>r= .tuple [.int .u8 n, .bool is].toArray∧H'=A)):
  Call Tryz.prog w0 230 [.pointer (some ⟨q.b,0,none⟩), .int .i64 (s:Nat), .func (.func yv) cap.toArray #[]] (Jp q++F) (fun r H'=>(∃ e,r= .int .i64 e)∧ ∃ q',PiOk q'∧q'.b=q.b∧q'.l=(if is=true then q.l.set s n else q.l)∧H'=Jp q'++F):=by
 have ho:=ok.o
 have hr:=ok.r
 have hm:=ok.m
 have hs:=jl hv
 have hvb:=ok.v v (List.mem_of_getElem? hv)
 have hge: ¬((s:Nat):Int)≥(q.l.length:Nat):=by omega
 have hrs:s<q.r.bs.length:=by rw[ok.n,List.length_map];exact hs
 refine Call.enter3 (n:=53) (by kernel_rfl) Tryz.func230 rfl rfl rfl ?_;refine yq10 fun T hT=>?_;refine zb7 ?_;rintro _ _ ⟨rfl,rfl⟩;refine za ?_;clear hT T;simp only[jaG];refine yq41 fun T hT=>?_;refine(hby _).mono ?_;refine zc ?_;clear hT T
 cases is with
 |false=>
  simp only[Bool.false_eq_true,if_false];refine yr22 ?_;exact KE.fin jd rfl jc (by first|exact ja|(simp only[jaG];exact ja)) ⟨⟨_,rfl⟩,q,ok,rfl,rfl,rfl⟩
 |true=>
  have hnb:=hn rfl
  simp only[if_true];refine yq38 fun T hT=>?_;refine(CallV.part (CallV.fn (Set_K (v:=decide (0<n)) hr hrs)) ja).mono ?_;refine zc ?_;clear hT T;refine yr4 ?_;exact KE.fin (H':=Jp ⟨q.b,Jr q.r s (decide (0<n)),q.l.set s n,q.o⟩++F) jd rfl jc (by simp only[jaG,List.length_set];exact ja) ⟨⟨_,rfl⟩,⟨q.b,Jr q.r s (decide (0<n)),q.l.set s n,q.o⟩,pi_set ok hs hnb,rfl,rfl,by simp only[jaG]⟩
theorem Pin_K {s:Nat} (ok:PiOk q) (hs:s<q.l.length):
  Call Tryz.prog w0 159 [.pointer (some ⟨q.b,0,none⟩), .int .i64 (s:Nat)] (Jp q++F) (fun r H'=>(∃ e,r= .int .i64 e)∧ ∃ q',PiOk q'∧q'.b=q.b∧q'.l=JJ q.l s∧H'=Jp q'++F):=by
 obtain⟨v,hv⟩:=jn hs
 have hvb:=ok.v v (List.mem_of_getElem? hv)
 have hp:JJ q.l s=if decide (v<255)=true then q.l.set s ((v+1)%256) else q.l:=by
  unfold JJ;rw [hv];simp only[Option.getD,decide_eq_true_eq]
  by_cases h:v<255
  ·rw[if_pos h,if_pos h,show(v+1)%256=v+1 by omega]
  ·rw[if_neg h,if_neg h]
 rw[hp];refine Call.enter2 (n:=10) (by kernel_rfl) Tryz.func159 rfl rfl rfl ?_;refine yq11 fun T hT=>?_;refine(CallV.part (CallV.fn (piturn_K (cap:=[.pointer (some ⟨q.b,0,none⟩)]) ok hv (fun h=>by have:=of_decide_eq_true h;omega) fun A=>CallV.bound (first:=[.pointer (some ⟨q.b,0,none⟩)]) (more_K hvb))) ja).mono ?_;rintro _ _ ⟨⟨e,rfl⟩,q',h1,h2,h3,rfl⟩;refine za ?_;clear hT T;refine yr4 ?_;exact KE.fin jd rfl jc ja ⟨⟨e,rfl⟩,q',h1,h2,h3,rfl⟩
theorem Unpin_K {s:Nat} (ok:PiOk q) (hs:s<q.l.length):
  Call Tryz.prog w0 161 [.pointer (some ⟨q.b,0,none⟩), .int .i64 (s:Nat)] (Jp q++F) (fun r H'=>(∃ e,r= .int .i64 e)∧ ∃ q',PiOk q'∧q'.b=q.b∧q'.l=JO q.l s∧H'=Jp q'++F):=by
 obtain⟨v,hv⟩:=jn hs
 have hvb:=ok.v v (List.mem_of_getElem? hv)
 have hp:JO q.l s=if decide (0<v)=true then q.l.set s ((v-1)%256) else q.l:=by
  unfold JO;rw [hv];simp only[Option.getD,decide_eq_true_eq]
  by_cases h:0<v
  ·rw[if_pos h,if_pos h,show(v-1)%256=v-1 by omega]
  ·rw[if_neg h,if_neg h]
 rw[hp];refine Call.enter2 (n:=10) (by kernel_rfl) Tryz.func161 rfl rfl rfl ?_;refine yq11 fun T hT=>?_;refine(CallV.part (CallV.fn (piturn_K (cap:=[.pointer (some ⟨q.b,0,none⟩)]) ok hv (fun h=>by have:=of_decide_eq_true h;omega) fun A=>CallV.bound (first:=[.pointer (some ⟨q.b,0,none⟩)]) (less_K hvb))) ja).mono ?_;rintro _ _ ⟨⟨e,rfl⟩,q',h1,h2,h3,rfl⟩;refine za ?_;clear hT T;refine yr4 ?_;exact KE.fin jd rfl jc ja ⟨⟨e,rfl⟩,q',h1,h2,h3,rfl⟩
end
set_option maxRecDepth 10000
structure MkR (k:MkM) (p:jO) (m:MaP):Prop where
 C:tiC k.c=m.C
 G:GrR k.g p.g m.G
 hs:k.hs=m.hs
 root:k.root=m.root
 act:k.act=m.act
 steps:k.steps=m.steps
structure MkTo (k k':MkM):Prop extends MkAs k k' where
 f:k'.c.f=k.c.f
 cb:k'.c.b=k.c.b
 gb:k'.g.b=k.g.b
 o:k'.o=k.o
theorem MkTo.refl (k:MkM):MkTo k k:=⟨⟨rfl,rfl,rfl,rfl,rfl,rfl⟩,rfl,rfl,rfl,rfl⟩
theorem MkTo.trans {a b c:MkM} (h:MkTo a b) (h':MkTo b c):MkTo a c:=
 ⟨⟨h'.b.trans h.b,h'.bb.trans h.bb,h'.tb.trans h.tb,h'.nb.trans h.nb,h'.n.trans h.n,h'.l.trans h.l⟩,h'.f.trans h.f,h'.cb.trans h.cb,h'.gb.trans h.gb,h'.o.trans h.o⟩
section
variable {w0 : World} {F : jb} {t : TiM}
theorem jgT {s:Nat} {c:Int} (ok:TiOk t) (hc:(tiC t)[s]?=some c):Call Tryz.prog w0 215 [.pointer (some ⟨t.b,0,none⟩), .int .i64 (s:Nat)] (JP t++F)
  (fun r H'=>r= .tuple [.bool (decide (c=0)), .int .i64 0].toArray∧ ∃ t',TiOk t'∧t'.b=t.b∧t'.f=t.f∧tiC t'=(if c=0 then(tiC t).set s 1 else tiC t)∧H'=JP t'++F):=by
 have ho:=ok.o
 have hf:=ok.f
 have hs:s<t.l.length:=by have:=jl hc;rwa[jaB] at this
 obtain⟨v,hv⟩:=jn hs
 by_cases h0:c=0
 ·rw[decide_eq_true h0,if_pos h0];refine Call.enter2 (n:=32) (by kernel_rfl) Tryz.func215 rfl rfl rfl ?_;refine yq10 fun T hT=>?_;refine(CallV.fn (tiOf_K ok hc)).mono ?_;rintro _ _ ⟨rfl,rfl⟩;refine za ?_;clear hT T;simp only[jad];refine yr24 ?_;refine zfv ?_;refine zbd ?_;refine zaX ?_;refine zbF ?_;refine zN ?_;refine zbX ?_;refine zY ?_;refine yr8 ?_
  have hle:(t.l.set s (2*(t.f:Int))).length=t.l.length:=List.length_set
  refine KE.fin (H':=JP ⟨t.b,t.l.set s (2*(t.f:Int)),t.f,t.o⟩++F) jd rfl jc (by simp only[jad,hle];exact ja) ⟨rfl,⟨t.b,t.l.set s (2*(t.f:Int)),t.f,t.o⟩,⟨ho.set s _,by rw[hle];exact ok.n,hf,?_⟩,rfl,rfl,?_,rfl⟩
  ·intro u hu
   rcases List.mem_or_eq_of_mem_set hu with h|rfl
   ·exact ok.v u h
   ·dsimp only;omega
  ·unfold tiC;rw[List.map_set]
   congr 1
   unfold colP;rw[if_pos rfl]
 ·rw[decide_eq_false h0,if_neg h0];refine Call.enter2 (n:=32) (by kernel_rfl) Tryz.func215 rfl rfl rfl ?_;refine yq10 fun T hT=>?_;refine(CallV.fn (tiOf_K ok hc)).mono ?_;rintro _ _ ⟨rfl,rfl⟩;refine za ?_;clear hT T;simp only[jad];refine yr30 ?_;exact KE.fin jd rfl jc (by first|exact ja|(simp only[jad];exact ja)) ⟨rfl,t,ok,rfl,rfl,rfl,rfl⟩
end
section
variable {w0 : World} {F : jb} {k : MkM} {p : jO} {m : MaP}
theorem jfd {s:Nat} (ok:MkOk k p) (hR:MkR k p m) (hs:s<p.g.slots):Call Tryz.prog w0 142 [.pointer (some ⟨k.b,0,none⟩), .int .i64 (s:Nat)] (jk k p++(planH p++F))
  (fun r H'=>r= .tuple #[]∧ ∃ k',MkOk k' p∧MkTo k k'∧MkR k' p (Jh p.g k.g.ring.length m (s:Nat))∧H'=jk k' p++(planH p++F)):=by
 obtain⟨c,hc⟩:=jcQ ok hs
 have okc:=ok.c
 have okg:=ok.g
 have hmc:m.C[s]?=some c:=by rw[←hR.C];exact hc
 by_cases h0:c=0
 ·have hsm:Jh p.g k.g.ring.length m (s:Nat)={m with C:=m.C.set s 1,G:=JC p.g k.g.ring.length m.G s}:=by
   unfold Jh;rw[Int.toNat_natCast,hmc,h0,if_pos ⟨by omega,rfl⟩]
  subst h0;refine Call.enter2 (n:=22) (by kernel_rfl) Tryz.func142 rfl rfl rfl ?_;simp only[ji];refine yq7 fun T hT=>?_;refine(CallV.part (CallV.fn (jgT okc hc)) ja).mono ?_;rintro _ _ ⟨rfl,c',kc,cb,cf,cc,rfl⟩;refine za ?_;clear hT T;refine yq19 fun T hT=>?_;refine(CallV.part (CallV.fn (grPut_K okg hR.G hs)) ja).mono ?_;rintro _ _ ⟨rfl,g',kg,gb,gl,gR,rfl⟩;refine za ?_;clear hT T;refine yr1 ?_;rw[←cb,←gb]
  have hcn:c'.l.length=p.g.slots:=by have:=congrArg List.length cc;rw [jaB,if_pos rfl,List.length_set,jaB,ok.n] at this;exact this
  exact KE.finN (H':=jk {k with c:=c',g:=g'} p++(planH p++F)) jd rfl jc (by simp only[ji];exact ja)
   ⟨rfl,{k with c:=c',g:=g'},⟨kc,kg,hcn,ok.o,ok.hs⟩,⟨⟨rfl,rfl,rfl,rfl,rfl,gl⟩,cf,cb,gb,rfl⟩,by rw[hsm];exact⟨by show tiC c'=_;rw [cc,if_pos rfl,hR.C],gR,hR.hs,hR.root,hR.act,hR.steps⟩,by simp only[ji]⟩
 ·have hsm:Jh p.g k.g.ring.length m (s:Nat)=m:=by
   unfold Jh;rw[Int.toNat_natCast,hmc,if_neg];rintro⟨_,h⟩;cases h;exact h0 rfl
  have hd:decide (c=0)=false:=decide_eq_false h0
  refine Call.enter2 (n:=22) (by kernel_rfl) Tryz.func142 rfl rfl rfl ?_;simp only[ji];refine yq7 fun T hT=>?_;refine(CallV.part (CallV.fn (jgT okc hc)) ja).mono ?_;rw[hd];rintro _ _ ⟨rfl,c',kc,cb,cf,cc,rfl⟩;rw[if_neg h0] at cc;refine za ?_;clear hT T;refine yr14 ?_;rw[←cb]
  have hcn:c'.l.length=p.g.slots:=by have:=congrArg List.length cc;rw [jaB,jaB,ok.n] at this;exact this
  exact KE.finN (H':=jk {k with c:=c'} p++(planH p++F)) jd rfl jc (by simp only[ji];exact ja)
   ⟨rfl,{k with c:=c'},⟨kc,ok.g,hcn,ok.o,ok.hs⟩,⟨⟨rfl,rfl,rfl,rfl,rfl,rfl⟩,cf,cb,rfl,rfl⟩,by rw[hsm];exact⟨by show tiC c'=_;rw [cc,hR.C],hR.G,hR.hs,hR.root,hR.act,hR.steps⟩,by simp only[ji]⟩
end
open Go.RowKit
set_option maxRecDepth 10000
structure MpR (k:MkM) (B:BoM) (T:TbM) (N:PiM) (W:MwP):Prop where
 bo:jaq B W.x
 tb:TbOk T
 pi:PiOk N
 eT:T.l=W.T
 eN:N.l=W.N
 bb:k.bb=B.b
 tbb:k.tb=T.b
 nb:k.nb=N.b
 w:Jb B.p.g W
theorem MpR.to {k k':MkM} {B:BoM} {T:TbM} {N:PiM} {W:MwP} (h:MpR k B T N W) (ht:MkTo k k'):MpR k' B T N W:=⟨h.bo,h.tb,h.pi,h.eT,h.eN,ht.bb.trans h.bb,ht.tb.trans h.tbb,ht.nb.trans h.nb,h.w⟩
def seenH (B:BoM) (T:TbM) (N:PiM):jb:=jX B++(jx B.m++(jL T++Jp N))
theorem seenH_app {B:BoM} {T:TbM} {N:PiM} {F:jb}:seenH B T N++F=jX B++(jx B.m++(jL T++(Jp N++F))):=by unfold seenH;simp only[List.append_assoc]
structure SkS where
 sl:Int
 is:Bool
section
variable {w0 : World} {F : jb} {k : MkM} {B : BoM} {T : TbM} {N : PiM} {W : MwP} {m : MaP}
theorem jg7 (hp:MpR k B T N W) (ok:MkOk k B.p):
  Call Tryz.prog w0 254 [.pointer (some ⟨k.b,0,none⟩)] (jk k B.p++(planH B.p++(seenH B T N++F))) (fun r H'=>r= .int .i64 ((W.T.length+B.p.g.slots:Nat):Int)∧H'=jk k B.p++(planH B.p++(seenH B T N++F))):=by
 have okT:=hp.tb
 have okp:=hp.bo.p
 have hsl:=okp.g.slots
 have hn:=okT.n
 have e1:=hp.tbb
 have hT:=hp.eT
 have e2:((T.l.length:Nat):Int)+((B.p.g.slots:Nat):Int)=((W.T.length+B.p.g.slots:Nat):Int):=by rw[hT];rfl
 have hlen:=fun A=>jfT (w0:=w0) (F:=A) okT
 simp only[←e1] at hlen;refine Call.enter1 (n:=14) (by kernel_rfl) Tryz.func254 rfl rfl rfl ?_;simp only[ji,seenH_app];refine yr6 ?_;refine K.drawn _ [(0,0),(1,0),(2,0),(3,0),(5,1),(6,1),(7,1),(8,1),(4,2),(9,2),(10,0),(11,0)] (by kernel_rfl) (by kernel_rfl) (by kernel_rfl) (by kernel_rfl) (by kernel_rfl) (by kernel_rfl) Part.all ?_;refine zu ?_;refine z8 ?_;refine zaw ?_;refine zbZ ?_;refine zx ?_;refine zi fun T hT=>?_;refine(CallV.part (CallV.fn (hlen _)) ja).mono ?_;refine zl ?_;clear hT T;refine zi fun T hT=>?_;refine zfl ?_;refine zl ?_;clear hT T;refine zK ?_;refine zy ?_;refine yr2 ?_;rw[e2];exact zfw
theorem mkseek_K {hv:Value} (hp:MpR k B T N W) (ok:MkOk k B.p) (hR:MkR k B.p m) (hm:jv B.p.g k.g.ring.length W m):
  Call Tryz.prog w0 256 [.pointer (some ⟨k.b,0,none⟩),hv] (jk k B.p++(planH B.p++(seenH B T N++F)))
   (fun r H'=>r= .bool (rootM B.p.g k.g.ring.length W m).isSome∧ ∃ k',MkOk k' B.p∧MkTo k k'∧MkR k' B.p ((rootM B.p.g k.g.ring.length W m).getD m)∧H'=jk k' B.p++(planH B.p++(seenH B T N++F))):=by
 have okT:=hp.tb
 have okN:=hp.pi
 have okp:=hp.bo.p
 have hsl:=okp.g.slots
 have hn:=okT.n
 have e1:=hp.tbb
 have e3:=hp.nb
 have hT:=hp.eT
 have hNl:N.l.length=B.p.g.slots:=by rw[hp.eN];exact hp.w.N
 have hroots:=fun A=>jg7 (w0:=w0) (F:=A) hp ok
 have hrt:=hm.root
 have hr:=hR.root
 rw[←hr] at hrt
 have hTl:T.l.length=W.T.length:=by rw[hT]
 by_cases hlt:m.root<W.T.length+B.p.g.slots
 ·have hrm:rootM B.p.g k.g.ring.length W m=some (j4 B.p.g k.g.ring.length {m with root:=m.root+1} (jF B.p.g W m.root)):=by unfold rootM;rw [if_pos hlt]
  rw[hrm,jgi];simp only[Option.isSome,Option.getD]
  have hne: ¬((k.root:Nat):Int)=((W.T.length+B.p.g.slots:Nat):Int):=by omega
  have hslot:=fun A=>tbSlot_K (w0:=w0) (F:=A) (i:=k.root) okT
  have hlen:=fun A=>jfT (w0:=w0) (F:=A) okT
  simp only[←e1] at hslot hlen;refine Call.enter2 (n:=58) (by kernel_rfl) Tryz.func256 rfl rfl rfl ?_;simp only[ji,seenH_app];refine yr7 ?_;refine zfx ?_;refine zaw ?_;refine zcJ ?_;refine zx ?_;refine zV fun T hT=>?_;refine zdv ?_;refine zq ?_;simp only[ji,seenH_app];refine zh ?_;clear hT T;refine za4 ?_;refine zp ?_;refine yr5 ?_;refine K.drawn [] [(0,0),(1,0),(2,0),(3,0),(4,0),(5,0),(6,0),(7,0),(8,2),(9,0),(10,0),(11,0),(12,0),(13,0)] (by kernel_rfl) (by kernel_rfl) (by kernel_rfl) (by kernel_rfl) (by kernel_rfl) (by kernel_rfl) Part.nil ?_;refine zu ?_;refine z8 ?_;refine zu ?_;refine zdo ?_;refine zo ?_;refine zi fun T hT=>?_;refine(CallV.part (CallV.fn (hslot _)) (by first|exact ja|(simp only[ji,seenH_app];exact ja))).mono ?_;refine zl ?_;clear hT T;refine zc5 ?_;refine zct ?_;refine zab ?_;refine yr3 ?_;refine K.drawn _ [(0,1),(1,1),(2,1),(3,1),(4,0),(5,0),(6,0),(7,0),(8,2),(9,0),(10,0)] (by kernel_rfl) (by kernel_rfl) (by kernel_rfl) (by kernel_rfl) (by kernel_rfl) (by kernel_rfl) Part.all ?_;refine zaw ?_;refine zcJ ?_;refine zx ?_;refine zu ?_;refine z8 ?_;refine zi fun T hT=>?_;refine(CallV.part (CallV.fn (hlen _)) (by first|exact ja|(simp only[ji,seenH_app];exact ja))).mono ?_;refine zl ?_;clear hT T;refine zbH ?_;refine zy ?_;refine yr1 ?_;refine K.cutE (σ:=SkS) [(0,_)] jg (fun s kp_=>(5, .int .i64 s.sl)::(6, .bool s.is)::kp_) (fun s=>jk k B.p++(planH B.p++(seenH B T N++F))) (fun s=>jF B.p.g W m.root=(if s.is=true then some s.sl else none)) ?_ ?_
  ·by_cases hrl:k.root<T.l.length
   ·have hat: ¬((k.root:Nat):Int)-((T.l.length:Nat):Int)≥0:=by omega
    have hro:jF B.p.g W m.root=slotT T.l (k.root:Nat):=by
     unfold jF slotT;rw[if_pos (show(0:Int)≤(k.root:Nat) by omega),Int.toNat_natCast,←hr,←hT]
     obtain⟨e,he⟩:=jn hrl
     rw[he]
    refine yr8 ?_;exact KE.meet ⟨(slotT T.l (k.root:Nat)).getD 0,(slotT T.l (k.root:Nat)).isSome⟩ jg (by first|exact ja|(simp only[ji,seenH_app];exact ja)) (by rw[hro];cases slotT T.l (k.root:Nat)<;>rfl)
   ·have hj:((k.root:Nat):Int)-((T.l.length:Nat):Int)=((k.root-T.l.length:Nat):Int):=by omega
    have hat:((k.root-T.l.length:Nat):Int)≥0:=by omega
    obtain⟨c,hc⟩:=jn (l:=N.l) (k:=k.root-T.l.length) (by omega)
    have hcnt:=fun A=>jg6 (w0:=w0) (F:=A) (s:=((k.root-T.l.length:Nat):Int)) okN
    rw[if_pos (by omega),Int.toNat_natCast,hc] at hcnt;simp only[Option.getD,←e3] at hcnt
    have hro:jF B.p.g W m.root=if decide (0<c)=true then some ((k.root-T.l.length:Nat):Int) else none:=by
     unfold jF;rw[←hr,←hT,←hp.eN,List.getElem?_eq_none (by omega)];dsimp only;rw[hc];simp only[Option.getD,decide_eq_true_eq]
    rw[hj];refine yq14 fun T hT=>?_;refine(CallV.part (CallV.fn (hcnt _)) (by first|exact ja|(simp only[ji,seenH_app];exact ja))).mono ?_;refine zc ?_;clear hT T;refine yr4 ?_;exact KE.meet ⟨((k.root-T.l.length:Nat):Int),decide (0<c)⟩ jg (by first|exact ja|(simp only[ji,seenH_app];exact ja)) hro
  ·rintro⟨sl,is⟩ hro;dsimp only at hro⊢
   cases is with
   |true=>
    rw[if_pos rfl] at hro
    have hin:=jdd hp.w hlt hro
    obtain⟨q,rfl⟩: ∃ q:Nat,sl=q:=⟨sl.toNat,by omega⟩
    rw[hro]
    have hsh:=fun A=>jfd (w0:=w0) (F:=A) ok hR (s:=q) (by omega)
    obtain⟨m1,hm1⟩: ∃ m1,m1=Jh B.p.g k.g.ring.length m ((q:Nat):Int):=⟨_,rfl⟩
    have hm1r:m1.root=m.root:=by rw[hm1];exact(jfv _).2.1
    have hso:j4 B.p.g k.g.ring.length m (some ((q:Nat):Int))=m1:=hm1.symm
    rw[hso];simp only[←hm1] at hsh;refine yq10 fun T hT=>?_;refine zbn ?_;rintro _ _ ⟨rfl,k',kok,kto,kR,rfl⟩
    have hk'r:k'.root=k.root:=kR.root.trans (hm1r.trans hr.symm)
    have e5:((k'.root:Nat):Int)+1=((k'.root+1:Nat):Int):=by omega
    refine za ?_;clear hT T;rw[←kto.b];simp only[ji,seenH_app];refine yr20 ?_;rw[e5];exact KE.fin (H':=jk {k' with root:=k'.root+1} B.p++(planH B.p++(seenH B T N++F))) jd rfl jc (by simp only[ji,seenH_app];exact ja)
     ⟨rfl,{k' with root:=k'.root+1},⟨kok.c,kok.g,kok.n,kok.o,kok.hs⟩,⟨⟨kto.b,kto.bb,kto.tb,kto.nb,kto.n,kto.l⟩,kto.f,kto.cb,kto.gb,kto.o⟩,⟨kR.C,kR.G,kR.hs,by show k'.root+1=m.root+1;rw [hk'r,hr],kR.act,kR.steps⟩,by simp only[ji,seenH_app]⟩
   |false=>
    rw[if_neg (by decide)] at hro;rw[hro]
    have hso:j4 B.p.g k.g.ring.length m none=m:=rfl
    rw[hso]
    have e5:((k.root:Nat):Int)+1=((k.root+1:Nat):Int):=by omega
    simp only[ji,seenH_app];refine yr27 ?_;rw[e5];exact KE.fin (H':=jk {k with root:=k.root+1} B.p++(planH B.p++(seenH B T N++F))) jd rfl jc (by simp only[ji,seenH_app];exact ja)
     ⟨rfl,{k with root:=k.root+1},⟨ok.c,ok.g,ok.n,ok.o,ok.hs⟩,⟨⟨rfl,rfl,rfl,rfl,rfl,rfl⟩,rfl,rfl,rfl,rfl⟩,⟨hR.C,hR.G,hR.hs,by show k.root+1=m.root+1;rw [hr],hR.act,hR.steps⟩,by simp only[ji,seenH_app]⟩
 ·have hrm:rootM B.p.g k.g.ring.length W m=none:=by unfold rootM;rw [if_neg hlt]
  rw[hrm];simp only[Option.isSome,Option.getD]
  have hne:((k.root:Nat):Int)=((W.T.length+B.p.g.slots:Nat):Int):=by omega
  refine Call.enter2 (n:=58) (by kernel_rfl) Tryz.func256 rfl rfl rfl ?_;simp only[ji,seenH_app];refine yr7 ?_;refine zfx ?_;refine zaw ?_;refine zcJ ?_;refine zx ?_;refine zV fun T hT=>?_;refine zdv ?_;refine zq ?_;simp only[ji,seenH_app];refine zh ?_;clear hT T;refine zaC ?_;refine zp ?_;refine yr9 ?_;exact zcc
end
set_option maxRecDepth 10000
structure ScS where
 k:MkM
structure ScB where
 b:Nat
section
variable {w0 : World} {F : jb} {k : MkM} {B : BoM} {T : TbM} {N : PiM} {W : MwP} {m : MaP}
theorem refO_eq {g:PlG} {x:List Int} {s:Nat} {i:Int} {y:ju} (hy:g.L[s]?=some y):refO g x (s:Nat) i=if (refP x g.slots y i).2=0∧0≤(refP x g.slots y i).1 then some (refP x g.slots y i).1 else none:=by
 unfold refO;rw [JF hy]
set_option maxHeartbeats 2000000 in
theorem mkscan_K {i:Nat} {h:JQ} (hG:jw w0) (hp:MpR k B T N W) (ok:MkOk k B.p) (hR:MkR k B.p m) (hm:jv B.p.g k.g.ring.length W m) (hh:k.hs[i]?=some h) (his:h.is=true):
  Call Tryz.prog w0 260 [.pointer (some ⟨k.b,0,none⟩), .pointer (some (adr (oV k.o k.hs.length) (i*Ja.sz)))] (jk k B.p++(planH B.p++(seenH B T N++F)))
   (fun r H'=>r= .bool true∧ ∃ m' k',scanM B.p.g k.g.ring.length W m i=some m'∧MkOk k' B.p∧MkTo k k'∧MkR k' B.p m'∧H'=jk k' B.p++(planH B.p++(seenH B T N++F))):=by
 have okp:=hp.bo.p
 have okb:=hp.bo
 have hsl:=okp.g.slots
 have eb:=hp.bb
 have ho:=ok.o
 have hil:=jl hh
 have hhs:=hR.hs
 have hmh:m.hs[i]?=some h:=by rw[←hhs];exact hh
 obtain⟨s,hs,hsb,hf0,hfb⟩: ∃ s:Nat,h.slot=s∧s<B.p.g.slots∧0≤h.field∧(h.field=0∨h.field<refsN W.x (jC B.p.g h.slot)):=by
  rcases hm.h i h hmh with⟨a1,a2,a3,a4,a5⟩|e
  ·exact⟨h.slot.toNat,by omega,by omega,a4,a5⟩
  ·rw[e] at his;cases his
 obtain⟨y,hy⟩:=Jg (g:=B.p.g) hsb
 have hya:=JF hy
 have hfit:=okp.g.fits hy
 have href:=refO_eq (x:=W.x) (i:=h.field) hy
 have hrn:refsN W.x y=match headP W.x y with|some h=>h.r|none=>0:=rfl
 have hhead:=fun A=>jdN (w0:=w0) (F:=A) hG okb hy
 have hrf:=fun A=>bRef_K (w0:=w0) (F:=A) (i:=h.field) hG okb hy
 simp only[←eb] at hhead hrf
 have hsc:scanM B.p.g k.g.ring.length W m i=if h.field+1<refsN W.x y then some {j4 B.p.g k.g.ring.length m (refO B.p.g W.x (s:Nat) h.field) with hs:=m.hs.set i ⟨(s:Nat),h.field+1,true⟩}
  else some {j4 B.p.g k.g.ring.length m (refO B.p.g W.x (s:Nat) h.field) with hs:=m.hs.set i jS,C:=(j4 B.p.g k.g.ring.length m (refO B.p.g W.x (s:Nat) h.field)).C.set s 2}:=by
  unfold scanM;rw[jal hmh,his,if_pos rfl,hs,hya]
  rfl
 obtain⟨o,hod⟩: ∃ o,o=refO B.p.g W.x (s:Nat) h.field:=⟨_,rfl⟩
 have hoin: ∀ q:Int,o=some q→0≤q∧q<(B.p.g.slots:Nat):=fun q hq=>by
  have:=jbj (hod.symm.trans hq) hp.w.w
  exact⟨this.1,this.2.1⟩
 rw[←hod] at hsc href;rw[hs,hya] at hfb
 obtain⟨hsl',hfi,hi'⟩:=h
 dsimp only at hs his hf0 hfb href hsc hrf hod;subst hs his
 obtain⟨rt,hrt⟩: ∃ rt,refP W.x B.p.g.slots y hfi=rt:=⟨_,rfl⟩
 simp only[hrt] at hrf href
 obtain⟨rn,hrnd⟩: ∃ rn,refsN W.x y=rn:=⟨_,rfl⟩
 rw[hrnd] at hrn hsc
 obtain⟨hc,hr,hw,he,hhv,hcond⟩: ∃ hc hr hw he,headV (headP W.x y)= .tuple [.agg [.int .i64 hc, .int .i64 hr, .int .i64 hw].toArray, .int .i64 he].toArray∧((he=0∧hr=rn)∨(he≠0∧rn=0)):=by
  unfold headV hdV
  cases hq:headP W.x y with
  |none=>rw [hq] at hrn;exact⟨0,0,0,5,rfl, .inr ⟨by decide,hrn⟩⟩
  |some q=>rw [hq] at hrn;exact⟨q.c,q.r,q.w,0,rfl, .inl ⟨rfl,hrn.symm⟩⟩
 simp only[hhv] at hhead;refine Call.enter2 (n:=76) (by kernel_rfl) Tryz.func260 rfl rfl rfl ?_;simp only[ji,seenH_app];refine yr5 ?_;refine K.cutT (σ:=ScB) [(0,_),(1,_)] jg (fun s kp_=>(5, .pointer (some ⟨s.b,0,none⟩))::(6, .int .i64 he)::kp_) (fun s=>jk k B.p++(planH B.p++(seenH B T N++((s.b,cells [.int .i64 hc, .int .i64 hr, .int .i64 hw] 138)::F)))) (fun s=>True) ?_ ?_
 ·skip
  refine zw ?_;refine K.drawn ((k.b,cells [.pointer (some ⟨k.bb,0,none⟩), .pointer (some ⟨B.p.b,0,none⟩), .pointer (some ⟨k.tb,0,none⟩), .pointer (some ⟨k.nb,0,none⟩), .pointer (some ⟨k.c.b,0,none⟩), .pointer (some ⟨k.g.b,0,none⟩),oV k.o k.hs.length, .int .i64 (k.root:Nat), .bool k.act, .int .i64 (k.steps:Nat)] 238)::(oH Ja 295 k.hs k.o++ [])) [(0,1),(1,1),(2,1),(3,1),(4,1),(5,1),(6,1),(7,1),(8,3),(9,1),(10,1),(11,1),(12,2),(13,2),(14,0)] (by kernel_rfl) (by kernel_rfl) (by kernel_rfl) (by kernel_rfl) (by kernel_rfl) (by kernel_rfl) ja ?_;refine zm ?_;refine zbK ?_;refine zX ?_;refine zcp ?_;refine zbK ?_;refine zX ?_;refine zF ?_;refine KD.fork2 (x:=8) (y:=12) (o1:=[(9,1),(10,1),(11,1),(12,2),(13,2),(14,0)]) (o2:=[(8,2),(9,0),(10,0),(11,1),(13,2),(14,0)]) (by kernel_rfl) rfl rfl (by kernel_rfl) (by kernel_rfl) ?_ ?_
  ·refine zak fun T hT=>?_;refine zeo ?_;refine zl ?_;clear hT T;refine zm ?_;refine zaf ?_;refine zaf ?_;refine zad ?_;intro b5;refine zav ?_;exact zfy
  ·(refine j3.e rfl (Eff.alloc rfl) ?_;rintro _ _ ⟨b5,rfl,rfl⟩;refine⟨ja,?_⟩)
   refine zi fun T hT=>?_;refine zeo ?_;refine zl ?_;clear hT T;refine zam ?_;refine zav ?_;exact zfy
 ·rintro⟨b5⟩ _;dsimp only;simp only[ji,seenH_app];refine yr2 ?_;refine K.drawn [] [(0,0),(1,0),(2,0),(3,0),(4,0),(5,0),(6,0),(7,0),(8,0),(9,0),(10,0),(11,0),(12,2),(13,0),(14,0),(15,0),(16,0),(17,0)] (by kernel_rfl) (by kernel_rfl) (by kernel_rfl) (by kernel_rfl) (by kernel_rfl) (by kernel_rfl) Part.nil ?_;refine zau ?_;refine zaJ ?_;refine zu ?_;refine zb6 ?_;refine zbj ?_;refine zi fun T hT=>?_;refine(CallV.part (CallV.fn (hrf _)) (by first|exact ja|(simp only[ji,seenH_app];exact ja))).mono ?_;refine zl ?_;clear hT T
  obtain⟨to,f⟩:=rt
  dsimp only at href⊢;refine zc5 ?_;refine zct ?_;refine zab ?_;refine yr1 ?_;refine K.cutE (σ:=ScS) [(0,_),(1,_),(5,_),(6,_)] jg (fun s kp_=>kp_) (fun s=>jk s.k B.p++(planH B.p++(seenH B T N++((b5,cells [.int .i64 hc, .int .i64 hr, .int .i64 hw] 138)::F)))) (fun s=>MkOk s.k B.p∧MkTo k s.k∧MkR s.k B.p (j4 B.p.g k.g.ring.length m o)) ?_ ?_
  ·by_cases h2:f=0
   ·by_cases h1:0≤to
    ·rw[if_pos ⟨h2,h1⟩] at href
     have hin:=hoin to href
     obtain⟨q,rfl⟩: ∃ q:Nat,to=q:=⟨to.toNat,by omega⟩
     have hsh:=fun A=>jfd (w0:=w0) (F:=A) ok hR (s:=q) (by omega)
     have hge:((q:Nat):Int)≥0:=by omega
     rw[href];refine yq16 fun T hT=>?_;refine(CallV.part (CallV.fn (hsh _)) (by first|exact ja|(simp only[ji,seenH_app];exact ja))).mono ?_;rintro _ _ ⟨rfl,k',kok,kto,kR,rfl⟩;refine za ?_;clear hT T;refine yr1 ?_;exact KE.meet ⟨k'⟩ jg (by first|exact ja|(simp only[ji,seenH_app];exact ja)) ⟨kok,kto,kR⟩
    ·rw[if_neg (by rintro⟨_,h⟩;exact h1 h)] at href
     have hge: ¬to≥0:=h1
     rw[href];refine yr14 ?_;exact zfz
   ·rw[if_neg (by rintro⟨h,_⟩;exact h2 h)] at href;rw[href];refine yr12 ?_;exact zfz
  ·rintro⟨k1⟩ ⟨kok,kto,kR⟩;dsimp only at kok kto kR⊢
   obtain⟨h1s,h1r,h1a,h1t⟩:=jcC (g:=B.p.g) (long:=k.g.ring.length) (m:=m) o
   have hh1:k1.hs[i]?=some ⟨(s:Nat),hfi,true⟩:=by rw[kR.hs,h1s];exact hmh
   have ho1:=kok.o
   have okc:=kok.c
   have hil1:=jl hh1
   have hslc:s<k1.c.l.length:=by rw[kok.n];exact hsb
   have hrs:=je7 okp.g hsb W.x
   have hzb:=jeu okp.g hsb
   rw[hya,hrnd] at hrs
   have hfb2:hfi≤64:=by rcases hfb with e|e<;>omega
   have ho2:oOk Ja (k1.hs.set i ⟨(s:Nat),hfi+1,true⟩) k1.o:=ho1.set _ _
   have he2:(k1.hs.set i (⟨(s:Nat),hfi+1,true⟩:JQ))[i]?=some ⟨(s:Nat),hfi+1,true⟩:=List.getElem?_set_self hil1
   rw[←kto.o,←kto.n,←kto.b];simp only[ji,seenH_app]
   skip
   refine zk ?_;refine yr7 ?_;refine KL.eN (Eff.stSl (j:=1) (x1:=(⟨(s:Nat),hfi+1,true⟩:JQ)) rfl rfl rfl rfl jh ho1 hh1 rfl rfl) ?_;rintro _ _ rfl;refine yr1 ?_
   rcases hcond with⟨hc1,hc2⟩|⟨hc1,hc2⟩
   ·by_cases hlt:hfi+1<rn
    ·have hge: ¬hfi+1≥hr:=by omega
     rw[if_pos hlt] at hsc;refine yr2 ?_;refine zbi ?_;refine zg ?_;refine zdw ?_;refine zA ?_;refine zaN ?_;refine zdn ?_;refine zbo ?_;refine zac ?_;refine zec ?_;refine zI ?_;refine yr10 ?_;exact KE.fin (H':=jk {k1 with hs:=k1.hs.set i ⟨(s:Nat),hfi+1,true⟩} B.p++(planH B.p++(seenH B T N++F))) jd rfl jc (by simp only[ji,seenH_app,List.length_set];exact ja)
      ⟨rfl,_,{k1 with hs:=k1.hs.set i ⟨(s:Nat),hfi+1,true⟩},hsc,⟨kok.c,kok.g,kok.n,ho2,by simpa using kok.hs⟩,⟨⟨kto.b,kto.bb,kto.tb,kto.nb,by show(k1.hs.set i _).length=_;rw [List.length_set];exact kto.n,kto.l⟩,kto.f,kto.cb,kto.gb,kto.o⟩,
       ⟨kR.C,kR.G,by show k1.hs.set i _=_;rw [kR.hs,h1s],kR.root,kR.act,kR.steps⟩,by simp only[ji,seenH_app]⟩
    ·have hge:hfi+1≥hr:=by omega
     rw[if_neg hlt] at hsc;refine yr2 ?_;refine zbi ?_;refine zg ?_;refine zdw ?_;refine zA ?_;refine zaN ?_;refine zdn ?_;refine zbo ?_;refine zac ?_;refine KD.y0 rfl rfl rfl rfl (Val.isT (Val.geq rfl rfl) jr) ?_;refine zI ?_;refine yr3 ?_;refine zcK ?_;refine zu ?_;refine zan ?_;refine zaJ ?_;refine zi fun T hT=>?_;refine(CallV.part (CallV.fn (je0 okc hslc)) ja).mono ?_;rintro _ _ ⟨rfl,c',kc,cb,cf,cc,rfl⟩;refine zh ?_;clear hT T;refine zp ?_;refine yr1 ?_;refine zk ?_;refine yr3 ?_;refine KL.eN (Eff.stSlA (x1:=jS) rfl rfl rfl rfl jh ho2 he2) ?_;rintro _ _ rfl;refine yr1 ?_;rw[List.set_set];refine yr7 ?_;rw[←cb]
     have hcn:c'.l.length=B.p.g.slots:=by have:=congrArg List.length cc;rw [jaB,List.length_set,jaB,kok.n] at this;exact this
     exact KE.fin (H':=jk {k1 with c:=c',hs:=k1.hs.set i jS} B.p++(planH B.p++(seenH B T N++F))) jd rfl jc (by simp only[ji,seenH_app,List.length_set];exact ja)
      ⟨rfl,_,{k1 with c:=c',hs:=k1.hs.set i jS},hsc,⟨kc,kok.g,hcn,kok.o.set _ _,by simpa using kok.hs⟩,⟨⟨kto.b,kto.bb,kto.tb,kto.nb,by show(k1.hs.set i jS).length=_;rw [List.length_set];exact kto.n,kto.l⟩,cf.trans kto.f,cb.trans kto.cb,kto.gb,kto.o⟩,
       ⟨by show tiC c'=_;rw [cc,kR.C],kR.G,by show k1.hs.set i jS=_;rw [kR.hs,h1s],kR.root,kR.act,kR.steps⟩,by simp only[ji,seenH_app]⟩
   ·have hlt: ¬hfi+1<rn:=by omega
    rw[if_neg hlt] at hsc;refine yr2 ?_;refine zbi ?_;refine zg ?_;refine KD.v0 rfl rfl (Val.isT (Val.neq rfl rfl) jr) ?_;refine zaR ?_;refine zba ?_;refine zaE ?_;refine yr3 ?_;refine zcK ?_;refine zu ?_;refine zan ?_;refine zaJ ?_;refine zi fun T hT=>?_;refine(CallV.part (CallV.fn (je0 okc hslc)) ja).mono ?_;rintro _ _ ⟨rfl,c',kc,cb,cf,cc,rfl⟩;refine zh ?_;clear hT T;refine zp ?_;refine yr1 ?_;refine zk ?_;refine yr3 ?_;refine KL.eN (Eff.stSlA (x1:=jS) rfl rfl rfl rfl jh ho2 he2) ?_;rintro _ _ rfl;refine yr1 ?_;rw[List.set_set];refine yr7 ?_;rw[←cb]
    have hcn:c'.l.length=B.p.g.slots:=by have:=congrArg List.length cc;rw [jaB,List.length_set,jaB,kok.n] at this;exact this
    exact KE.fin (H':=jk {k1 with c:=c',hs:=k1.hs.set i jS} B.p++(planH B.p++(seenH B T N++F))) jd rfl jc (by simp only[ji,seenH_app,List.length_set];exact ja)
     ⟨rfl,_,{k1 with c:=c',hs:=k1.hs.set i jS},hsc,⟨kc,kok.g,hcn,kok.o.set _ _,by simpa using kok.hs⟩,⟨⟨kto.b,kto.bb,kto.tb,kto.nb,by show(k1.hs.set i jS).length=_;rw [List.length_set];exact kto.n,kto.l⟩,cf.trans kto.f,cb.trans kto.cb,kto.gb,kto.o⟩,
      ⟨by show tiC c'=_;rw [cc,kR.C],kR.G,by show k1.hs.set i jS=_;rw [kR.hs,h1s],kR.root,kR.act,kR.steps⟩,by simp only[ji,seenH_app]⟩
end
open Go.RowKit
set_option maxRecDepth 10000
section
variable {w0 : World} {F : jb} {k : MkM} {B : BoM} {T : TbM} {N : PiM} {W : MwP} {m : MaP}
theorem htake_K {L:List JQ} {o:Own} {n i s:Nat} (ho:oOk Ja L o) (hn:n=L.length) (hi:i<L.length):
  Call Tryz.prog w0 259 [.pointer (some (adr (oV o n) (i*Ja.sz))), .int .i64 (s:Nat)] (oH Ja 295 L o++F) (fun r H'=>r= .tuple #[]∧H'=oH Ja 295 (L.set i ⟨(s:Nat),0,true⟩) o++F):=by
 obtain⟨h,hh⟩:=jn hi
 refine Call.enter2 (n:=8) (by kernel_rfl) Tryz.func259 rfl rfl rfl ?_
 skip
 refine zk ?_;refine yr4 ?_;refine KL.eN (Eff.stSlA (x1:=(⟨(s:Nat),0,true⟩:JQ)) rfl rfl rfl rfl jh ho hh) ?_;rintro _ _ rfl;refine yr1 ?_;exact KE.finN jd rfl jc ja ⟨rfl,rfl⟩
theorem mktake_K {i:Nat} (ok:MkOk k B.p) (hR:MkR k B.p m) (hi:i<k.hs.length):
  Call Tryz.prog w0 257 [.pointer (some ⟨k.b,0,none⟩), .pointer (some (adr (oV k.o k.hs.length) (i*Ja.sz)))] (jk k B.p++F)
   (fun r H'=>(m.G.q=[]∧r= .bool false∧H'=jk k B.p++F)∨ ∃ (s:Nat) (q:List Nat) (k':MkM),m.G.q=s::q∧r= .bool true∧MkOk k' B.p∧MkTo k k'∧MkR k' B.p {m with G:={m.G with q:=q},hs:=m.hs.set i ⟨(s:Nat),0,true⟩}∧H'=jk k' B.p++F):=by
 have okg:=ok.g
 have ho:=ok.o
 have hnx:=fun A=>grNext_K (w0:=w0) (F:=A) okg hR.G
 refine Call.enter2 (n:=20) (by kernel_rfl) Tryz.func257 rfl rfl rfl ?_;simp only[ji,seenH_app];refine yq11 fun T hT=>?_;refine(CallV.part (CallV.fn (hnx _)) ja).mono ?_;rintro _ _ (⟨hq,rfl,rfl⟩|⟨s,q,g',hq,rfl,kg,gb,gl,gR,rfl⟩)
 ·refine za ?_;clear hT T;refine yr23 ?_;exact zfA
 ·refine za ?_;clear hT T;refine yq17 fun T hT=>?_;refine(CallV.part (CallV.fn (htake_K (s:=s) ho rfl hi)) ja).mono ?_;refine zc ?_;clear hT T;refine yr9 ?_;rw[←gb];exact KE.fin (H':=jk {k with g:=g',hs:=k.hs.set i ⟨(s:Nat),0,true⟩} B.p++F) jd rfl jc (by simp only[ji,List.length_set];exact ja)
   (.inr ⟨s,q,{k with g:=g',hs:=k.hs.set i ⟨(s:Nat),0,true⟩},hq,rfl,⟨ok.c,kg,ok.n,ok.o.set _ _,by simpa using ok.hs⟩,⟨⟨rfl,rfl,rfl,rfl,by simp,gl⟩,rfl,rfl,gb,rfl⟩,⟨hR.C,gR,by show k.hs.set i _=_;rw [hR.hs],hR.root,hR.act,hR.steps⟩,by simp only[ji]⟩)
def wtM (m:MaP) (i:Nat) (o:Option Nat) (G:GyP):MaP:=match o with
 |none=>{m with G:=G}
 |some s=>{m with G:=G,hs:=m.hs.set i ⟨(s:Nat),0,true⟩}
theorem walkM_no {g:PlG} {m:MaP} {i:Nat} (hq:walkG g m.G=none):walkM g m i=none:=by
 unfold walkM;rw [hq];split<;>rfl
theorem jgs {g:PlG} {m:MaP} {i:Nat} {o:Option Nat} {G:GyP} (hn:(JH m i).is=false) (hq:walkG g m.G=some (o,G)):walkM g m i=some (wtM m i o G):=by
 unfold walkM;rw [hq,if_neg (by rw[hn];decide)];cases o<;>rfl
theorem mkwalk_K {i:Nat} (hG:jw w0) (ok:MkOk k B.p) (hR:MkR k B.p m) (hm:jv B.p.g k.g.ring.length W m) (hi:i<k.hs.length):
  Call Tryz.prog w0 261 [.pointer (some ⟨k.b,0,none⟩), .pointer (some (adr (oV k.o k.hs.length) (i*Ja.sz)))] (jk k B.p++(planH B.p++F))
   (fun r H'=>(walkG B.p.g m.G=none∧r= .bool false∧H'=jk k B.p++(planH B.p++F))∨ ∃ (o:Option Nat) (G':GyP) (k':MkM),walkG B.p.g m.G=some (o,G')∧r= .bool true∧MkOk k' B.p∧MkTo k k'∧MkR k' B.p (wtM m i o G')∧H'=jk k' B.p++(planH B.p++F)):=by
 have okg:=ok.g
 have ho:=ok.o
 have hw:=fun A=>grWalk_K (w0:=w0) (F:=A) hG okg hR.G hm.G
 refine Call.enter2 (n:=22) (by kernel_rfl) Tryz.func261 rfl rfl rfl ?_;simp only[ji,seenH_app];refine yq11 fun T hT=>?_;refine(CallV.part (CallV.fn (hw _)) ja).mono ?_;rintro _ _ (⟨hq,rfl,rfl⟩|⟨o,G',g',hq,rfl,kg,gb,gl,gR,rfl⟩)
 ·refine za ?_;clear hT T;refine yr25 ?_;exact zfA
 ·cases o with
  |none=>
   unfold nxI;dsimp only[Option.isSome,Option.getD];refine za ?_;clear hT T;refine yr25 ?_;rw[←gb];exact KE.fin (H':=jk {k with g:=g'} B.p++(planH B.p++F)) jd rfl jc (by simp only[ji];exact ja)
    (.inr ⟨none,G',{k with g:=g'},hq,rfl,⟨ok.c,kg,ok.n,ok.o,ok.hs⟩,⟨⟨rfl,rfl,rfl,rfl,rfl,gl⟩,rfl,rfl,gb,rfl⟩,⟨hR.C,gR,hR.hs,hR.root,hR.act,hR.steps⟩,by simp only[ji]⟩)
  |some s=>
   unfold nxI;dsimp only[Option.isSome,Option.getD];refine za ?_;clear hT T;refine yq19 fun T hT=>?_;refine(CallV.part (CallV.fn (htake_K (s:=s) ho rfl hi)) ja).mono ?_;refine zc ?_;clear hT T;refine yr9 ?_;rw[←gb];exact KE.fin (H':=jk {k with g:=g',hs:=k.hs.set i ⟨(s:Nat),0,true⟩} B.p++(planH B.p++F)) jd rfl jc (by simp only[ji,List.length_set];exact ja)
    (.inr ⟨some s,G',{k with g:=g',hs:=k.hs.set i ⟨(s:Nat),0,true⟩},hq,rfl,⟨ok.c,kg,ok.n,ok.o.set _ _,by simpa using ok.hs⟩,⟨⟨rfl,rfl,rfl,rfl,by simp,gl⟩,rfl,rfl,gb,rfl⟩,⟨hR.C,gR,by show k.hs.set i _=m.hs.set i _;rw [hR.hs],hR.root,hR.act,hR.steps⟩,by simp only[ji]⟩)
def jbk:Value:= .agg [.bool false, .bool false, .nilFunc, .bool false, .bool true, .func (.func 256) #[] #[], .bool false, .bool false, .func (.func 257) #[] #[], .bool true, .bool false, .func (.func 260) #[] #[], .bool false, .bool false, .func (.func 261) #[] #[]].toArray
theorem micros_K {H:jb}:Call Tryz.prog w0 207 [] H (fun r H'=>r=jbk∧H'=H):=by
 unfold jbk;refine Call.enter0 (n:=6) (by kernel_rfl) Tryz.func207 rfl rfl rfl ?_;refine yr2 ?_;refine zf ?_;intro b0;refine yr13 ?_;exact zd
end
end Go.Proofs.YtldomapkmopomaaGreatDoor.Sw
