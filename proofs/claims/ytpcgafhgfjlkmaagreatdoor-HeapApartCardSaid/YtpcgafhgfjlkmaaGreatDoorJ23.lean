/-The walker and the contracts that the law needs,part 23. -/
import Derived.Test.YtpcgafhgfjlkmaaGreatDoorD1
import Derived.ArgAppend
import Derived.ChangeMaps5
import Derived.Deep.Fields
import Derived.Deep.LoopGhost
import Derived.Deep.OwnRows
import Derived.Deep.Quiet
import Derived.Deep.Slices
import Derived.IntWalk
import Derived.Laws.Cells
import Derived.Laws.CopyOwn
import Derived.Laws.Externs
import Derived.Laws.FloatArith
import Derived.Laws.IdiomStrings
import Derived.Laws.NewFold
import Derived.Laws.StructEq
import Derived.Lib.BitFns
import Derived.Lib.Hide
import Derived.Lib.SmallJoins
import Derived.Lib.TrailingZeros
import Derived.Maps.RangeRun
import Derived.OrdersIn
import Derived.ProofKit
import Derived.RangeFuncBound
import Derived.RangeFuncCalls
import Derived.RangeFuncLeaves
import Derived.RangeFuncNested
import Derived.RecoverIn
import Derived.Shelf.Bits.Mul64
import Derived.Shelf.Slices.Turned
import Derived.Shelf.Spec.TrailingZeros
import Derived.Shelf.Strconv.Itoa0
import Derived.SizedLaws
import Derived.Sort.BigQuietIn
import Derived.StillTailTactics
import Derived.Test.YtpcgafhgfjlkmaaGreatDoorProg
import Derived.WalkKit
import Derived.Test.YtpcgafhgfjlkmaaGreatDoorJ21
import Derived.Test.YtpcgafhgfjlkmaaGreatDoorJ22
set_option linter.unusedVariables false set_option linter.unusedSimpArgs false set_option linter.unusedVariables false
set_option linter.unusedSimpArgs false
namespace Go.Proofs.YtpcgafhgfjlkmaaGreatDoor.Sw
set_option maxHeartbeats 8000000
open Go.Proofs.YtpcgafhgfjlkmaaGreatDoor renaming lo → qL, hi → qH
open Go.RowKit
set_option maxRecDepth 10000
def jbp (q y:Int):Int:=q/y
def jda (page q y:Int):Int:=(q/y+page/y-1)/(page/y)
def jbf (c:Cfg) (t:Int):Int:=((c.tn[t.toNat]?).map (·.quota)).getD 0
def cfgC (c:Cfg) (k:Int):Int:=((c.cl[k.toNat]?)).getD 0
def jap (c:Cfg) (t k:Int):Int × Int:=if j9 c t k then(jbp (jbf c t) (cfgC c k),0) else(0,2)
def pagesP (c:Cfg) (t k:Int):Int × Int:=if j9 c t k then(jda c.page (jbf c t) (cfgC c k),0) else(0,2)
def prV (p:Int × Int):Value:= .tuple [.int .i64 p.1, .int .i64 p.2].toArray
theorem jhp {q y:Int} (hy:2≤y) (hq:y≤q) (hq2:q≤4096):1≤jbp q y∧jbp q y≤2048:=by
 unfold jbp
 constructor
 ·exact(Int.le_ediv_iff_mul_le (by omega)).2 (by omega)
 ·exact Int.le_trans (Int.ediv_le_ediv (by omega) hq2) (by
   have:(4096:Int)/y*y≤4096:=Int.ediv_mul_le _ (by omega)
   have h0:0≤(4096:Int)/y:=Int.ediv_nonneg (by omega) (by omega)
   have:(4096:Int)/y*2≤4096/y*y:=Int.mul_le_mul_of_nonneg_left hy h0
   omega)
theorem Slots_K {w0:World} {H:jb} {c:Cfg} {vc vt:Value} {t k:Int} (hR:Jo w0 H c vc vt):
  Call Tryz.prog w0 143 [jw c vc vt, .int .i64 t, .int .i64 k] H (fun r H'=>r=prV (jap c t k)∧H'=H):=by
 have hc0:=fun A (hp:Part A H)=>jh2 (t:=t) (k:=k) (hR.part hp)
 obtain⟨hS,hT',o1,o2,l1,l2⟩:=hR
 cases ht:j9 c t k with
 |false=>
  have he:jap c t k=(0,2):=by grind[jap]
  rw[ht] at hc0;rw[he]
  obtain⟨cl,page,tn,workers,grey,gens⟩:=c
  dsimp only at hS hT' l1 l2 he;simp only[jw,jT] at hc0⊢;refine Call.enter3 (n:=25) (by rfl) Tryz.func143 rfl rfl rfl ?_;refine zcj ?_;intro b3;refine zcG ?_;refine zbJ ?_;exact zfB
 |true=>
  obtain⟨i,j,x,y,rfl,rfl,hx,hy,ok⟩:=jbQ ht
  have he:jap c (i:Nat) (j:Nat)=(x.quota/y,0):=by grind[jap,jbp,jbf,cfgC]
  have hb:=(ok.ten x (List.mem_of_getElem? hx)).1
  have hb2:=ok.el y (List.mem_of_getElem? hy)
  have hil:=jx hx
  have hjl:=jx hy
  rw[ht] at hc0;rw[he]
  obtain⟨q,tr,cp,ax⟩:=x
  obtain⟨cl,page,tn,workers,grey,gens⟩:=c
  dsimp only at hS hT' l1 l2 he hx hy hb hb2 hil hjl;simp only[jw,jT] at hc0⊢;refine Call.enter3 (n:=25) (by rfl) Tryz.func143 rfl rfl rfl ?_;refine zcj ?_;intro b3;refine zcG ?_;refine zbJ ?_;refine zE ?_;refine zbU ?_;refine ziX ?_;refine ziC ?_;refine zcC ?_;refine zkq ?_;refine zaF ?_;refine zdf ?_;refine zcC ?_;refine zaF ?_;refine zgr ?_;refine zfL ?_;exact zZ
theorem Pages_K {w0:World} {H:jb} {c:Cfg} {vc vt:Value} {t k:Int} (hR:Jo w0 H c vc vt):
  Call Tryz.prog w0 144 [jw c vc vt, .int .i64 t, .int .i64 k] H (fun r H'=>r=prV (pagesP c t k)∧H'=H):=by
 have hc0:=fun A (hp:Part A H)=>Slots_K (t:=t) (k:=k) (hR.part hp)
 obtain⟨hS,hT',o1,o2,l1,l2⟩:=hR
 cases ht:j9 c t k with
 |false=>
  have he:pagesP c t k=(0,2):=by grind[pagesP]
  have he2:jap c t k=(0,2):=by grind[jap]
  rw[he2] at hc0;rw[he]
  obtain⟨cl,page,tn,workers,grey,gens⟩:=c
  dsimp only at hS hT' l1 l2 he;simp only[jw,jT] at hc0⊢;refine Call.enter3 (n:=35) (by rfl) Tryz.func144 rfl rfl rfl ?_;refine zeh ?_;intro b3;refine z3 ?_;refine zaC fun T hT=>?_;refine zg1 ?_;rintro _ _ ⟨rfl,rfl⟩;simp only[prV];refine zd ?_;clear hT T;refine zaM ?_;refine zdy ?_;exact zaT
 |true=>
  obtain⟨i,j,x,y,rfl,rfl,hx,hy,ok⟩:=jbQ ht
  have he:pagesP c (i:Nat) (j:Nat)=(jda c.page x.quota y,0):=by grind[pagesP,jbf,cfgC]
  have hb:=(ok.ten x (List.mem_of_getElem? hx)).1
  have hb2:=ok.el y (List.mem_of_getElem? hy)
  have hpg:=ok.page
  have hn:jap c (i:Nat) (j:Nat)=(jbp x.quota y,0):=by grind[jap,jbf,cfgC]
  have hsl:=jhp (q:=x.quota) (y:=y) (by omega) (by omega) hb.2
  have hper:1≤c.page/y∧c.page/y≤64:=⟨(Int.le_ediv_iff_mul_le (by omega)).2 (by omega),Int.le_trans (Int.ediv_le_self _ (by omega)) hpg.2⟩
  have hil:=jx hx
  have hjl:=jx hy
  rw[hn] at hc0;rw[he]
  have hpn:jda c.page x.quota y=(jbp x.quota y+c.page/y-1)/(c.page/y):=rfl
  rw[hpn]
  obtain⟨n,hn'⟩: ∃ n,n=jbp x.quota y:=⟨_,rfl⟩
  rw[←hn'] at hc0 hsl⊢
  obtain⟨q,tr,cp,ax⟩:=x
  obtain⟨cl,page,tn,workers,grey,gens⟩:=c
  dsimp only at hS hT' l1 l2 he hx hy hb hb2 hil hjl hpg hper;simp only[jw,jT] at hc0⊢
  obtain⟨pr,hpr⟩: ∃ p,p=page/y:=⟨_,rfl⟩
  rw[←hpr] at hper;refine Call.enter3 (n:=35) (by rfl) Tryz.func144 rfl rfl rfl ?_;refine zeh ?_;intro b3;refine z3 ?_;refine zaC fun T hT=>?_;refine zg1 ?_;rintro _ _ ⟨rfl,rfl⟩;simp only[prV];refine zd ?_;clear hT T;refine zbA ?_;refine zbU ?_;refine K.drawn [] [(0,0),(1,0),(2,0),(3,0),(4,0),(5,0),(6,0),(7,0),(8,0)] (by rfl) (by rfl) (by kernel_rfl) (by rfl) (by rfl) (by rfl) Part.nil ?_;refine zd1 ?_;refine zdf ?_;refine zcC ?_;refine zaF ?_;refine zgr ?_;refine zb0 ?_;refine zaf ?_;refine zm ?_;refine zal ?_;refine zdM ?_;refine ze ?_;refine KL.v rfl (Val.quoN rfl rfl (by grind[qL,qH])) ?_;exact zb8
set_option maxRecDepth 10000
section
variable {w0 : World} {F : jb} {B : BoM} {x : List Int} {s : Nat} {y : jg}
theorem bload_K {ref:Bool} {i:Int} (hG:js w0) (ok:jag B x) (hy:B.p.g.L[s]?=some y):
  Call Tryz.prog w0 248 [.pointer (some ⟨B.b,0,none⟩), .bool ref, .int .i64 (s:Nat), .int .i64 i] (jR B++(jv B.m++(planH B.p++F)))
   (fun r H'=>r= .tuple [.int .u64 (if fldP x y ref i=0 then wAt x (fAt y i) else 0), .int .i64 (fldP x y ref i)].toArray∧H'=jR B++(jv B.m++(planH B.p++F))):=by
 have okm:=ok.m
 have hr:=ok.r
 obtain⟨f1,f2,f3,_⟩:=ok.p.g.fits hy
 have hin:=fun(e:fldP x y ref i=0)=>JQ e
 have hn:=ok.n
 refine Call.enter4 (n:=18) (by rfl) Tryz.func248 rfl rfl rfl ?_;refine zdX ?_;intro b4 b8;refine zu ?_;refine zp ?_;refine zm ?_;refine ze ?_;refine zaJ fun T hT=>?_
 refine(CallV.part (CallV.fn (bat_K (F:=(b4,cells [.pointer (some ⟨B.b,0,none⟩)] 88)::(b8,cells [.int .u64 0] 33)::F) (ref:=ref) (i:=i) (g:=287) (cap:=[.pointer (some ⟨b4,0,none⟩), .pointer (some ⟨b8,0,none⟩)])
  (B1:=jR B++(jv B.m++(planH B.p++((b4,cells [.pointer (some ⟨B.b,0,none⟩)] 88)::(b8,cells [.int .u64 (wAt x (fAt y i))] 33)::F)))) hG ok hy ?_)) ja).mono ?_
 ·intro e A
  obtain⟨q1,q2,q3⟩:=hin e
  have hwx:=jh0 (x:=x) (a:=fAt y i) (by omega)
  refine CallV.clo (cap:=[.pointer (some ⟨b4,0,none⟩), .pointer (some ⟨b8,0,none⟩)]) ?_;refine Call.enter3 (n:=17) (by rfl) Tryz.func287 rfl rfl rfl ?_;rw[jaX];refine K.drawn _ [(0,0),(1,0),(2,0),(3,0),(4,0),(5,0),(6,0),(7,0),(8,0),(9,2),(10,0),(11,0),(12,1),(13,2)] (by rfl) (by rfl) (by kernel_rfl) (by rfl) (by rfl) (by rfl) (Part.takeA Jn.head (Part.takeA Jn.head (Part.takeA Jn.head (Part.takeA Jn.head (Part.take j3.head (Part.drop Part.all)))))) ?_;refine zbN ?_;refine zdf ?_;refine zbN ?_;refine zd1 ?_;refine zc1 fun T hT=>?_;refine(CallV.part (CallV.fn (Load_K okm hr hwx)) ja).mono ?_;rintro _ _ ⟨rfl,rfl⟩;refine zg ?_;clear hT T;refine zgO ?_;refine zfQ ?_;refine zby ?_;exact KE.finN je rfl jd (by rw[jaX];exact ja) ⟨rfl,rfl⟩
 ·rintro _ _ ⟨rfl,rfl⟩
  by_cases e:fldP x y ref i=0
  ·rw[if_pos e];refine zd ?_;clear hT T;simp only[if_pos e];refine zu ?_;refine zdz ?_;refine zO ?_;exact zt
  ·rw[if_neg e];refine zd ?_;clear hT T;simp only[if_neg e];refine zu ?_;refine zdz ?_;refine zO ?_;exact zt
theorem bRef_K {i:Int} (hG:js w0) (ok:jag B x) (hy:B.p.g.L[s]?=some y):
  Call Tryz.prog w0 190 [.pointer (some ⟨B.b,0,none⟩), .int .i64 (s:Nat), .int .i64 i] (jR B++(jv B.m++(planH B.p++F)))
   (fun r H'=>r= .tuple [.int .i64 (refP x B.p.g.slots y i).1, .int .i64 (refP x B.p.g.slots y i).2].toArray∧H'=jR B++(jv B.m++(planH B.p++F))):=by
 have okp:=ok.p
 have hs:=okp.g.slots
 have hw:=ok.w.at_ (fAt y i)
 obtain⟨e,he⟩: ∃ e,fldP x y true i=e:=⟨_,rfl⟩
 obtain⟨v,hv⟩: ∃ v,wAt x (fAt y i)=v:=⟨_,rfl⟩
 have hl:=fun A=>bload_K (w0:=w0) (F:=A) (ref:=true) (i:=i) hG ok hy
 unfold refP;rw[he] at hl⊢;rw[hv] at hw hl⊢
 by_cases h0:e=0
 ·subst h0;simp only[if_true] at hl⊢
  by_cases hgt:v>(B.p.g.slots:Nat)
  ·rw[if_pos hgt]
   have hgt':((B.p.g.slots:Nat):Int)<v:=hgt
   refine zkr ?_;refine za6 ?_;refine zm ?_;refine zo ?_;refine ji (hl _) ja ?_;refine zdq ?_;refine zau ?_;refine zcy ?_;refine zlg ?_;refine zer ?_;refine ze2 ?_;refine zbs ?_;refine zk ?_;refine zhw ?_;refine zd0 ?_;exact zZ
  ·rw[if_neg hgt]
   have hgt': ¬v>((B.p.g.slots:Nat):Int):=hgt
   refine zkr ?_;refine za6 ?_;refine zm ?_;refine zo ?_;refine ji (hl _) ja ?_;refine zdq ?_;refine zau ?_;refine zcy ?_;refine zlg ?_;refine zer ?_;refine ze2 ?_;refine zcq ?_;refine zay ?_;refine ze ?_;refine ze2 ?_;refine zdM ?_;exact zb8
 ·simp only[if_neg h0] at hl⊢;refine zkr ?_;refine za6 ?_;refine zm ?_;refine zo ?_;refine ji (hl _) ja ?_;refine zhy ?_;refine ze ?_;refine zag ?_;refine zk ?_;refine zgP ?_;refine zd0 ?_;exact zZ
theorem bSetRef_K {i to:Int} (hG:js w0) (ok:jag B x) (hy:B.p.g.L[s]?=some y):
  Call Tryz.prog w0 193 [.pointer (some ⟨B.b,0,none⟩), .int .i64 (s:Nat), .int .i64 i, .int .i64 to] (jR B++(jv B.m++(planH B.p++F)))
   (fun r H'=>r= .int .i64 (Jl x B.p.g.slots y i to).1∧H'=jR B++(jv (jaf B.m B.t (Jl x B.p.g.slots y i to).2)++(planH B.p++F))):=by
 have okp:=ok.p
 have hs:=okp.g.slots
 have hself:=jfr ok.r
 have hst:=fun A=>jkN (w0:=w0) (F:=A) (ref:=true) (i:=i) (w:=to+1) hG ok hy
 unfold Jl
 by_cases h1:to< -1
 ·rw[if_pos (.inl h1)];dsimp only;rw[hself];refine zks ?_;refine zy ?_;refine zX ?_;refine zat ?_;refine zgy ?_;refine za9 ?_;refine zdt ?_;refine zfr ?_;refine zab ?_;refine zfy ?_;exact zdv
 ·by_cases h2:to≥(B.p.g.slots:Nat)
  ·rw[if_pos (.inr h2)];dsimp only;rw[hself]
   have h2':to≥((B.p.g.slots:Nat):Int):=h2
   refine zks ?_;refine zy ?_;refine zX ?_;refine zat ?_;refine zgy ?_;refine za9 ?_;refine zdt ?_;refine zfr ?_;refine zT ?_;refine zci ?_;refine zeA ?_;refine zn ?_;refine zer ?_;refine zgo ?_;exact zdv
  ·rw[if_neg (by omega)]
   have h2': ¬to≥((B.p.g.slots:Nat):Int):=h2
   refine zks ?_;refine zy ?_;refine zX ?_;refine zat ?_;refine zgy ?_;refine za9 ?_;refine zdt ?_;refine zfr ?_;refine zT ?_;refine zci ?_;refine zeA ?_;refine zn ?_;refine zer ?_;refine zdj ?_;refine zz ?_;refine zm ?_;refine zm ?_;refine zal ?_;refine ze2 ?_;refine zn ?_;refine ji (hst _) ja ?_
   by_cases e:fldP x y true i=0
   ·simp only[e,if_true];exact zt
   ·simp only[if_neg e];exact zt
end
open Go.RowKit
set_option maxRecDepth 10000
section
variable {w0 : World} {F : jb} {q : PiM}
theorem pi_set {s:Nat} {n:Int} (ok:PiOk q) (hs:s<q.l.length) (hn:0≤n∧n≤255):PiOk ⟨q.b,Jx q.r s (decide (0<n)),q.l.set s n,q.o⟩:=by
 refine⟨jdw ok.r _ _,ok.o.set _ _,?_,by simpa using ok.m,fun v hv=>?_⟩
 ·show q.r.bs.set s (decide (0<n))=_
  rw[ok.n,List.map_set]
 ·rcases List.mem_or_eq_of_mem_set hv with h|rfl
  ·exact ok.v v h
  omega
theorem jjs {s:Int} (ok:PiOk q):
  Call Tryz.prog w0 196 [.pointer (some ⟨q.b,0,none⟩), .int .i64 s] (JD q++F) (fun r H'=>r= .int .i64 (if 0≤s then(q.l[s.toNat]?).getD 0 else 0)∧H'=JD q++F):=by
 have ho:=ok.o
 have hm:=ok.m
 by_cases h0:s<0
 ·rw[if_neg (by omega)];refine zkt ?_;refine zY ?_;refine zg7 ?_;simp only[jbi];refine zA ?_;refine zab ?_;refine zC ?_;refine zfy ?_;refine zav ?_;exact zhT
 ·rw[if_pos (by omega)]
  by_cases h1:s<(q.l.length:Nat)
  ·obtain⟨k,rfl⟩: ∃ k:Nat,s=(k:Nat):=⟨s.toNat,by omega⟩
   obtain⟨v,hv⟩:=jA (l:=q.l) (k:=k) (by omega)
   have hvb:=ok.v v (List.mem_of_getElem? hv)
   have hk:k<q.l.length:=by omega
   have hge: ¬((k:Nat):Int)≥(q.l.length:Nat):=by omega
   rw[show((k:Nat):Int).toNat=k by omega,hv];dsimp only[Option.getD];refine zkt ?_;refine zY ?_;refine zg7 ?_;simp only[jbi];refine zdw ?_;refine zbh ?_;refine zfC ?_;refine zR ?_;refine zF ?_;refine zfE ?_;refine zcJ ?_;refine ze2 ?_;refine zf ?_;exact zhT
  ·have hge:s≥((q.l.length:Nat):Int):=by omega
   rw[List.getElem?_eq_none (by omega)];dsimp only[Option.getD];refine zkt ?_;refine zY ?_;refine zg7 ?_;simp only[jbi];refine zdw ?_;refine zbh ?_;refine zbp ?_;refine zgo ?_;refine zav ?_;exact zhT
theorem more_K {b:Value} {n:Int} (hn:0≤n∧n≤255):
  Call Tryz.prog w0 252 [b, .int .u8 n] F (fun r H'=>r= .tuple [.int .u8 ((n+1)%256), .bool (decide (n<255))].toArray∧H'=F):=by
 by_cases h:n<255
 ·rw[decide_eq_true h];rw[show(n+1)%256=n+1 by omega];refine Call.enter2 (n:=10) (by rfl) Tryz.func252 rfl rfl rfl ?_;refine za6 ?_;refine ze ?_;refine zal ?_;refine ze ?_;refine zab ?_;exact zb8
 ·rw[decide_eq_false h];refine Call.enter2 (n:=10) (by rfl) Tryz.func252 rfl rfl rfl ?_;refine za6 ?_;refine ze ?_;refine KL.v rfl (Val.addW rfl rfl) ?_;refine ze ?_;refine zT ?_;exact zb8
theorem less_K {b:Value} {n:Int} (hn:0≤n∧n≤255):
  Call Tryz.prog w0 253 [b, .int .u8 n] F (fun r H'=>r= .tuple [.int .u8 ((n-1)%256), .bool (decide (0<n))].toArray∧H'=F):=by
 by_cases h:0<n
 ·rw[decide_eq_true h,show(n-1)%256=n-1 by omega];refine Call.enter2 (n:=10) (by rfl) Tryz.func253 rfl rfl rfl ?_;refine za6 ?_;refine ze ?_;refine zdM ?_;refine ze ?_;refine zbs ?_;exact zb8
 ·rw[decide_eq_false h];refine Call.enter2 (n:=10) (by rfl) Tryz.func253 rfl rfl rfl ?_;refine za6 ?_;refine ze ?_;refine KL.v rfl (Val.subW rfl rfl) ?_;refine ze ?_;refine zcq ?_;exact zb8
theorem jkf {s:Nat} {v n:Int} {is:Bool} {yv:FuncId} {cap:List Value} (ok:PiOk q) (hv:q.l[s]?=some v) (hn:is=true→0≤n∧n≤255)
  (hby: ∀ A,CallV Tryz.prog w0 (.func (.func yv) cap.toArray #[]) [.int .u8 v] A (fun r H'=>r= .tuple [.int .u8 n, .bool is].toArray∧H'=A)):
  Call Tryz.prog w0 251 [.pointer (some ⟨q.b,0,none⟩), .int .i64 (s:Nat), .func (.func yv) cap.toArray #[]] (JD q++F) (fun r H'=>r= .int .i64 (if is=true then 0 else 140)∧ ∃ q',PiOk q'∧q'.b=q.b∧q'.l=(if is=true then q.l.set s n else q.l)∧H'=JD q'++F):=by
 have ho:=ok.o
 have hr:=ok.r
 have hm:=ok.m
 have hs:=jx hv
 have hvb:=ok.v v (List.mem_of_getElem? hv)
 have hge: ¬((s:Nat):Int)≥(q.l.length:Nat):=by omega
 have hrs:s<q.r.bs.length:=by rw[ok.n,List.length_map];omega
 refine Call.enter3 (n:=53) (by rfl) Tryz.func251 rfl rfl rfl ?_;refine zae ?_;refine zaP ?_;refine zg7 ?_;simp only[jbi];refine zbk ?_;refine zci ?_;refine zbh ?_;refine zfC ?_;refine zay ?_;refine zcy ?_;refine zF ?_;refine zfE ?_;refine zcJ ?_;refine zq fun T hT=>?_;refine(hby _).mono ?_;rintro _ _ ⟨rfl,rfl⟩;refine zd ?_;clear hT T
 cases is with
 |false=>
  simp only[Bool.false_eq_true,if_false];refine zaM ?_;refine zU ?_;refine zav ?_;exact KE.fin je rfl jd (by first|exact ja|(simp only[jbi];exact ja)) ⟨rfl,q,ok,rfl,rfl,rfl⟩
 |true=>
  have hnb:=hn rfl
  simp only[if_true];refine zaM ?_;refine zE ?_;refine zR ?_;refine zF ?_;refine zm ?_;refine zgt ?_;refine KL.eN (Eff.stSl0 rfl rfl rfl rfl jn (by omega) (by assumption) rfl rfl) ?_;rintro _ _ rfl;refine zW ?_;refine zK ?_;refine zB ?_;refine zm ?_;refine KL.v rfl (Val.gtr rfl rfl) ?_;refine zn ?_;refine ji (jdU (v:=decide (0<n)) hr hrs) ja ?_;refine zf ?_;exact KE.fin (H':=JD ⟨q.b,Jx q.r s (decide (0<n)),q.l.set s n,q.o⟩++F) je rfl jd (by simp only[jbi,List.length_set];exact ja) ⟨rfl,⟨q.b,Jx q.r s (decide (0<n)),q.l.set s n,q.o⟩,pi_set ok hs hnb,rfl,rfl,by grind[jbi]⟩
theorem Pin2_K {s:Nat} (ok:PiOk q) (hs:s<q.l.length):
  Call Tryz.prog w0 195 [.pointer (some ⟨q.b,0,none⟩), .int .i64 (s:Nat)] (JD q++F) (fun r H'=>r= .int .i64 (if (q.l[s]?).getD 0<255 then 0 else 140)∧ ∃ q',PiOk q'∧q'.b=q.b∧q'.l=JA q.l s∧H'=JD q'++F):=by
 obtain⟨v,hv⟩:=jA hs
 have hvb:=ok.v v (List.mem_of_getElem? hv)
 have hp:JA q.l s=if decide (v<255)=true then q.l.set s ((v+1)%256) else q.l:=by
  grind[JA]
 have he:(if (q.l[s]?).getD 0<255 then(0:Int) else 140)=if decide (v<255)=true then 0 else 140:=by
  grind
 rw[hp,he];refine Call.enter2 (n:=10) (by rfl) Tryz.func195 rfl rfl rfl ?_;refine zdx ?_;refine ze ?_;refine zbF ?_;refine zn ?_;refine j4 (jkf (cap:=[.pointer (some ⟨q.b,0,none⟩)]) ok hv (fun h=>by omega) fun A=>CallV.bound (first:=[.pointer (some ⟨q.b,0,none⟩)]) (more_K hvb)) ja ?_;rintro _ _ ⟨rfl,q',h1,h2,h3,rfl⟩;refine zf ?_;exact KE.fin je rfl jd ja ⟨rfl,q',h1,h2,h3,rfl⟩
theorem Unpin2_K {s:Nat} (ok:PiOk q) (hs:s<q.l.length):
  Call Tryz.prog w0 197 [.pointer (some ⟨q.b,0,none⟩), .int .i64 (s:Nat)] (JD q++F) (fun r H'=>r= .int .i64 (if 0<(q.l[s]?).getD 0 then 0 else 140)∧ ∃ q',PiOk q'∧q'.b=q.b∧q'.l=J0 q.l s∧H'=JD q'++F):=by
 obtain⟨v,hv⟩:=jA hs
 have hvb:=ok.v v (List.mem_of_getElem? hv)
 have hp:J0 q.l s=if decide (0<v)=true then q.l.set s ((v-1)%256) else q.l:=by
  grind[J0]
 have he:(if 0<(q.l[s]?).getD 0 then(0:Int) else 140)=if decide (0<v)=true then 0 else 140:=by
  grind
 rw[hp,he];refine Call.enter2 (n:=10) (by rfl) Tryz.func197 rfl rfl rfl ?_;refine zdx ?_;refine ze ?_;refine zbF ?_;refine zn ?_;refine j4 (jkf (cap:=[.pointer (some ⟨q.b,0,none⟩)]) ok hv (fun h=>by omega) fun A=>CallV.bound (first:=[.pointer (some ⟨q.b,0,none⟩)]) (less_K hvb)) ja ?_;rintro _ _ ⟨rfl,q',h1,h2,h3,rfl⟩;refine zf ?_;exact KE.fin je rfl jd ja ⟨rfl,q',h1,h2,h3,rfl⟩
end
set_option maxRecDepth 10000
structure MkR (k:MkM) (p:jQ) (m:MaP):Prop where
 C:tiC k.c=m.C
 G:GrR k.g p.g m.G
 hs:k.hs=m.hs
 root:k.root=m.root
 act:k.act=m.act
 steps:k.steps=m.steps
structure MkTo (k k':MkM):Prop extends MkAs k k' where
 f:k'.c.f=k.c.f
 cb:k'.c.b=k.c.b
 gb:k'.g.b=k.g.b
 o:k'.o=k.o
theorem MkTo.refl (k:MkM):MkTo k k:=⟨⟨rfl,rfl,rfl,rfl,rfl,rfl⟩,rfl,rfl,rfl,rfl⟩
theorem MkTo.trans {a b c:MkM} (h:MkTo a b) (h':MkTo b c):MkTo a c:=
 ⟨⟨h'.b.trans h.b,h'.bb.trans h.bb,h'.tb.trans h.tb,h'.nb.trans h.nb,h'.n.trans h.n,h'.l.trans h.l⟩,h'.f.trans h.f,h'.cb.trans h.cb,h'.gb.trans h.gb,h'.o.trans h.o⟩
section
variable {w0 : World} {F : jb} {t : TiM}
theorem jje {s:Nat} {c:Int} (ok:TiOk t) (hc:(tiC t)[s]?=some c):Call Tryz.prog w0 291 [.pointer (some ⟨t.b,0,none⟩), .int .i64 (s:Nat)] (jal t++F)
  (fun r H'=>r= .tuple [.bool (decide (c=0)), .int .i64 0].toArray∧ ∃ t',TiOk t'∧t'.b=t.b∧t'.f=t.f∧tiC t'=(if c=0 then(tiC t).set s 1 else tiC t)∧H'=jal t'++F):=by
 have ho:=ok.o
 have hf:=ok.f
 have hs:s<t.l.length:=by grind[jx,jba]
 obtain⟨v,hv⟩:=jA hs
 by_cases h0:c=0
 ·rw[decide_eq_true h0,if_pos h0];refine Call.enter2 (n:=32) (by rfl) Tryz.func291 rfl rfl rfl ?_;refine zhD ?_;refine jq (jiy ok hc) ?_;simp only[jaM];refine zbA ?_;refine zA ?_;refine zed ?_;refine zbU ?_;refine zlC ?_;refine zfJ ?_;refine zeZ ?_;refine zhP ?_;refine zbP ?_;refine zhH ?_;refine zfe ?_;refine zaf ?_;refine zaI ?_
  have hle:(t.l.set s (2*(t.f:Int))).length=t.l.length:=List.length_set
  refine KE.fin (H':=jal ⟨t.b,t.l.set s (2*(t.f:Int)),t.f,t.o⟩++F) je rfl jd (by simp only[jaM,hle];exact ja) ⟨rfl,⟨t.b,t.l.set s (2*(t.f:Int)),t.f,t.o⟩,⟨ho.set s _,by rw[hle];exact ok.n,hf,?_⟩,rfl,rfl,?_,rfl⟩
  ·intro u hu
   rcases List.mem_or_eq_of_mem_set hu with h|rfl
   ·exact ok.v u h
   grind
  simp[tiC,jbN]
 ·rw[decide_eq_false h0,if_neg h0];refine Call.enter2 (n:=32) (by rfl) Tryz.func291 rfl rfl rfl ?_;refine zhD ?_;refine jq (jiy ok hc) ?_;simp only[jaM];refine zbA ?_;refine zA ?_;refine zag ?_;refine zC ?_;refine zgP ?_;refine zas ?_;exact KE.fin je rfl jd (by first|exact ja|(simp only[jaM];exact ja)) ⟨rfl,t,ok,rfl,rfl,rfl,rfl⟩
end
section
variable {w0 : World} {F : jb} {k : MkM} {p : jQ} {m : MaP}
theorem jg7 {s:Nat} (ok:MkOk k p) (hR:MkR k p m) (hs:s<p.g.slots):Call Tryz.prog w0 265 [.pointer (some ⟨k.b,0,none⟩), .int .i64 (s:Nat)] (jp k p++(planH p++F))
  (fun r H'=>r= .tuple #[]∧ ∃ k',MkOk k' p∧MkTo k k'∧MkR k' p (JP p.g k.g.ring.length m (s:Nat))∧H'=jp k' p++(planH p++F)):=by
 obtain⟨c,hc⟩:=jeb ok hs
 have okc:=ok.c
 have okg:=ok.g
 have hmc:m.C[s]?=some c:=by rw[←hR.C];omega
 by_cases h0:c=0
 ·have hsm:JP p.g k.g.ring.length m (s:Nat)={m with C:=m.C.set s 1,G:=jam p.g k.g.ring.length m.G s}:=by
   grind[JP]
  subst h0;refine Call.enter2 (n:=22) (by rfl) Tryz.func265 rfl rfl rfl ?_;simp only[jo];refine zy ?_;refine zK ?_;refine zah ?_;refine zdu ?_;refine j4 (jje okc hc) ja ?_;rintro _ _ ⟨rfl,c',kc,cb,cf,cc,rfl⟩;refine zcZ ?_;refine zaS ?_;refine zcF ?_;refine zdu ?_;refine j4 (grPut_K okg hR.G hs) ja ?_;rintro _ _ ⟨rfl,g',kg,gb,gl,gR,rfl⟩;refine zN ?_;rw[←cb,←gb]
  have hcn:c'.l.length=p.g.slots:=by have:=congrArg List.length cc;rw [jba,if_pos rfl,List.length_set,jba,ok.n] at this;omega
  exact KE.finN (H':=jp {k with c:=c',g:=g'} p++(planH p++F)) je rfl jd (by simp only[jo];exact ja)
   ⟨rfl,{k with c:=c',g:=g'},⟨kc,kg,hcn,ok.o,ok.hs⟩,⟨⟨rfl,rfl,rfl,rfl,rfl,gl⟩,cf,cb,gb,rfl⟩,by rw[hsm];exact⟨by rw[cc,if_pos rfl,hR.C],gR,hR.hs,hR.root,hR.act,hR.steps⟩,by grind[jo]⟩
 ·have hsm:JP p.g k.g.ring.length m (s:Nat)=m:=by
   grind[JP]
  have hd:decide (c=0)=false:=decide_eq_false h0
  refine Call.enter2 (n:=22) (by rfl) Tryz.func265 rfl rfl rfl ?_;simp only[jo];refine zy ?_;refine zK ?_;refine zah ?_;refine zb6 fun T hT=>?_;refine(CallV.part (CallV.fn (jje okc hc)) ja).mono ?_;rw[hd];rintro _ _ ⟨rfl,c',kc,cb,cf,cc,rfl⟩;rw[if_neg h0] at cc;refine zd ?_;clear hT T;refine zcZ ?_;refine zbq ?_;rw[←cb]
  have hcn:c'.l.length=p.g.slots:=by have:=congrArg List.length cc;rw [jba,jba,ok.n] at this;omega
  exact KE.finN (H':=jp {k with c:=c'} p++(planH p++F)) je rfl jd (by simp only[jo];exact ja)
   ⟨rfl,{k with c:=c'},⟨kc,ok.g,hcn,ok.o,ok.hs⟩,⟨⟨rfl,rfl,rfl,rfl,rfl,rfl⟩,cf,cb,rfl,rfl⟩,by rw[hsm];exact⟨by rw[cc,hR.C],hR.G,hR.hs,hR.root,hR.act,hR.steps⟩,by grind[jo]⟩
end
end Go.Proofs.YtpcgafhgfjlkmaaGreatDoor.Sw
