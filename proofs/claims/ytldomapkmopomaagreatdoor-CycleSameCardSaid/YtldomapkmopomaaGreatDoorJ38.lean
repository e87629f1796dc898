/-The walker and the contracts that the law needs,part 38. -/
import Derived.Test.YtldomapkmopomaaGreatDoorD1
import Derived.ArgAppend
import Derived.ChangeMaps5
import Derived.Deep.Fields
import Derived.Deep.LoopGhost
import Derived.Deep.OwnRows
import Derived.Deep.Quiet
import Derived.Deep.Slices
import Derived.IntWalk
import Derived.Laws.Cells
import Derived.Laws.CopyOwn
import Derived.Laws.Externs
import Derived.Laws.FloatArith
import Derived.Laws.IdiomStrings
import Derived.Laws.NewFold
import Derived.Laws.StructEq
import Derived.Lib.BitFns
import Derived.Lib.Hide
import Derived.Lib.SmallJoins
import Derived.Lib.TrailingZeros
import Derived.Maps.RangeRun
import Derived.OrdersIn
import Derived.ProofKit
import Derived.RangeFuncBound
import Derived.RangeFuncCalls
import Derived.RangeFuncLeaves
import Derived.RangeFuncNested
import Derived.RecoverIn
import Derived.Shelf.Bits.Mul64
import Derived.Shelf.Slices.Turned
import Derived.Shelf.Spec.TrailingZeros
import Derived.Shelf.Strconv.Itoa0
import Derived.SizedLaws
import Derived.Sort.BigQuietIn
import Derived.StillTailTactics
import Derived.Test.YtldomapkmopomaaGreatDoorProg
import Derived.WalkKit
import Derived.Test.YtldomapkmopomaaGreatDoorJ37
set_option linter.unusedVariables false set_option linter.unusedSimpArgs false namespace Go.Proofs.YtldomapkmopomaaGreatDoor.Sw
set_option maxHeartbeats 8000000
open Go.Proofs.YtldomapkmopomaaGreatDoor renaming lo → qL, hi → qH
open Go.RowKit
set_option linter.unusedVariables false
set_option linter.unusedSimpArgs false
set_option maxRecDepth 10000
section
variable {w0 : World} {F : jb} {y : CyM} {s : CyP} {g : PlG} {long : Nat}
set_option maxHeartbeats 4000000 in
theorem jfI (hG:jw w0) (h:CpR g long y s):
  Call Tryz.prog w0 17 [.pointer (some ⟨y.b,0,none⟩)] (cycH y++F) (fun r H'=>r= .bool (helpC g long s).isSome∧CyQ g long y 0 F ((helpC g long s).getD s) H'):=by
 have okg:je g:=by rw[←h.eg];exact h.p.bo.p.g
 have hls:=h.le.s
 have hlm:=h.le.m
 have hst:s.st≤100000000:=by omega
 have hmst:s.m.steps≤1000000000:=by omega
 by_cases h1:s.ph=1
 ·have hss:helpC g long s=(Jq g long s.W s.m).map fun m'=>madeC g {s with m:=m'}:=by unfold helpC;rw [if_pos h1]
  have hstep:=fun A=>mkHelp_K (w0:=w0) (F:=A) hG h.p h.ok h.R (by rw[h.eg,h.el];exact h.i.m) hmst
  unfold jaz at hstep;rw[h.eg,h.el] at hstep;simp only[seenH_app] at hstep
  cases hm:Jq g long s.W s.m with
  |some m'=>
   obtain⟨hk,hu,hku⟩:=jbv hm
   have hle:=h.le.help okg h.i (s':=madeC g {s with m:=m'}) (by rw[hss,hm];rfl)
   rw[hss];simp only[hm,Option.map_some,Option.isSome_some,Option.getD_some] at hstep⊢
   have hmk:=fun A k' kok kto kR=>jeo (w0:=w0) (F:=A) hG (h.toCpM.mark (k':=k') (m':=m') kok kto kR) h.eg (by show CyPre g k'.g.ring.length _;rw [kto.l,h.el];exact jbC okg h.i h1 hku) hst
   have hR:=fun k' kok kto kR=>h.mark (k':=k') h1 hku hle kok kto kR
   have hT:=fun k' kto=>mark_to (k':=k') (m':=m') (ph:=(madeC g {s with m:=m'}).ph) (sa:=(madeC g {s with m:=m'}).sa) h kto
   unfold CyQ
   obtain⟨s',hs'⟩: ∃ s',madeC g {s with m:=m'}=s':=⟨_,rfl⟩
   simp only[hs'] at hmk hR hT⊢;refine zc1 ?_;refine yq9 fun T hT=>?_;refine zdJ ?_;refine zc ?_;clear hT T;unfold bndV;refine yq1 fun T hT=>?_;refine zdK ?_;rintro _ _ ⟨rfl,k',kok,kto,kR,rfl⟩;refine za ?_;clear hT T;refine zz fun T hT=>?_;refine(CallV.part (CallV.fn (hmk _ k' kok kto kR)) (by simp only[cycH_app,kto.b];exact ja)).mono ?_;refine zc ?_;clear hT T;refine yr4 ?_;exact KE.fin jd rfl jc ja ⟨rfl,_,hR k' kok kto kR,hT k' kto,rfl⟩
  |none=>
   rw[hss];simp only[hm,Option.map_none,Option.isSome_none,Option.getD_none] at hstep⊢
   have hR:=fun k' kok kto kR=>CpR.mk (h.toCpM.mark (k':=k') (m':=s.m) kok kto kR) h.eg (kto.l.trans h.el) h.i h.le
   have hT:=fun k' (kto:MkTo y.k k')=>(⟨rfl,(jaQ h.p.bo).symm,rfl,rfl,rfl,rfl,kto.toMkAs,kto.f,rfl,rfl⟩:Ju y {y with k:=k'} s.W.x 0)
   unfold CyQ;refine zc1 ?_;refine yq9 fun T hT=>?_;refine zdJ ?_;refine zc ?_;clear hT T;unfold bndV;refine yq1 fun T hT=>?_;refine zdK ?_;rintro _ _ ⟨rfl,k',kok,kto,kR,rfl⟩;refine za ?_;clear hT T;refine zz fun T hT=>?_;refine zcj ?_;refine zc ?_;clear hT T;refine yr4 ?_;exact zfI
 ·by_cases h2:s.ph=2
  ·obtain⟨s',b,hs,hM,hcall⟩:=jhg (w0:=w0) h h2
   have hss:helpC g long s=some (madeC g s'):=by unfold helpC;rw [if_neg h1,if_pos h2,hs];rfl
   have hle:=h.le.help okg h.i hss
   have hcy:=jba okg h.i h2 hs
   rw[hss];simp only[Option.isSome_some,Option.getD_some]
   have hmk:=fun A=>jeo (w0:=w0) (F:=A) hG hM h.eg (by show CyPre g y.k.g.ring.length _;rw [h.el];exact hcy.1) (by rw[hcy.2.2.2.2.2.2.2];exact hst)
   have hR:=h.sweep h2 hs hM hle
   have hT:Ju y (jbI (ja2 y s'.W.x b) (madeC g s').ph (madeC g s').sa) (madeC g s').W.x 0:=by rw[jf5];exact sweep_to
   unfold CyQ
   obtain⟨q,hq⟩: ∃ q,madeC g s'=q:=⟨_,rfl⟩
   rw[hq] at hmk hR hT⊢;refine zc1 ?_;refine yq9 fun T hT=>?_;refine zeJ ?_;rintro _ _ ⟨bl,rfl,rfl⟩;refine za ?_;clear hT T;unfold bndV;refine yq1 fun T hT=>?_;refine(CallV.part (CallV.bound (first:=[.pointer (some ⟨y.s.b,0,none⟩)]) (hcall _)) ja).mono ?_;refine zc ?_;clear hT T;refine zz fun T hT=>?_;refine ze2 ?_;clear hT T;refine yr4 ?_;exact KE.fin jd rfl jc ja ⟨rfl,_,hR,hT,rfl⟩
  ·have hss:helpC g long s=none:=by unfold helpC;rw [if_neg h1,if_neg h2]
   rw[hss];simp only[Option.isSome_none,Option.getD_none]
   have hQ:=fun A=>CpR.refl (F:=A) h
   refine zc1 ?_;refine yq9 fun T hT=>?_;refine(CallV.part (CallV.fn (jhf (by rw[h.ph];exact h1) (by rw[h.ph];exact h2))) ja).mono ?_;refine zc ?_;clear hT T;refine yq1 fun T hT=>?_;refine(CallV.fn cyw3_K).mono ?_;refine zc ?_;clear hT T;refine zz fun T hT=>?_;refine zcj ?_;refine zc ?_;clear hT T;refine yr4 ?_;exact KE.fin jd rfl jc ja ⟨rfl,hQ F⟩
structure HpS where
 n:Nat
 y:CyM
 s:CyP
theorem cyFinish_E (h0:y.ph=0):Call Tryz.prog w0 15 [.pointer (some ⟨y.b,0,none⟩)] (cycH y++F) (fun r H'=>r= .tuple [.int .i64 0, .int .i64 9].toArray∧H'=cycH y++F):=by
 have hno:=fun A=>cynone_K (w0:=w0) (F:=A) (y:=y)
 obtain⟨yb,B,a,T,N,k,sp,nw,ph,st⟩:=y
 dsimp only at*;subst h0;refine zeR ?_;refine yq11 fun T hT=>?_;refine zdL ?_;refine zc ?_;clear hT T;simp only[cycH_app,seenH_app];refine yr24 ?_;exact zG
theorem jgI {z:CyP} (hG:jw w0) (h:CpR g long y z) (h0:z.ph≠0):
  Call Tryz.prog w0 15 [.pointer (some ⟨y.b,0,none⟩)] (cycH y++F) (fun r H'=> ∃ (n:Nat) (s':CyP),r= .tuple [.int .i64 (n:Nat), .int .i64 0].toArray∧jai g long z n s'∧helpC g long s'=none∧s'.ph=3∧CyQ g long y 0 F s' H'):=by
 have okg:je g:=by rw[←h.eg];exact h.p.bo.p.g
 have h0': ¬((y.ph:Nat):Int)=0:=by rw[h.ph];omega
 have hh:=fun A (y':CyM) (s':CyP) (h:CpR g long y' s')=>jfI (w0:=w0) (F:=A) hG h
 refine zeR ?_;refine yq11 fun T hT=>?_;refine zbe ?_;clear hT T;simp only[cycH_app,seenH_app];refine yr20 ?_;refine K.loopT (σ:=HpS) [(0,_)] (fun s kp_=>(2, .int .i64 (s.n:Nat))::kp_) (fun s=>cycH s.y++F) (fun s=>CpR g long s.y s.s∧Ju y s.y s.s.W.x 0∧jai g long z s.n s.s) (fun s=>jY g s.s) (⟨0,y,z⟩) jg (by first|exact ja|(simp only[cycH_app,seenH_app];exact ja)) (⟨h,Ju.refl h.toCpM, .refl⟩) ?_;rintro⟨n,y1,z1⟩ ⟨h1,t1,hp⟩;dsimp only at h1 t1 hp⊢
 have hst:=(hp.ok okg h.i).st
 have hph:=(hp.ok okg h.i).ph
 have hls:=h1.le.s
 have hn8:n≤100000000:=by omega
 have hh1:=fun A=>hh A y1 z1 h1
 rw[t1.b] at hh1
 cases hs:helpC g long z1 with
 |some z2=>
  rw[hs] at hh1;simp only[Option.isSome_some,Option.getD_some] at hh1
  have hm:=jcM okg h1.i hs
  refine yq4 fun T hT=>?_;refine(CallV.part (CallV.fn (hh1 _)) ja).mono ?_;rintro _ _ ⟨rfl,y2,h2,t2,rfl⟩;refine za ?_;clear hT T;refine yr12 ?_;exact KE.again ⟨n+1,y2,z2⟩ jg ja ⟨h2,t1.trans t2, .snoc hp hs⟩ hm
 |none=>
  rw[hs] at hh1;simp only[Option.isSome_none,Option.getD_none] at hh1
  have h3:=jff okg h1.i (by omega) hs
  refine yq4 fun T hT=>?_;refine(CallV.part (CallV.fn (hh1 _)) ja).mono ?_;rintro _ _ ⟨rfl,y2,h2,t2,rfl⟩;refine za ?_;clear hT T;refine yr16 ?_;exact KE.fin jd rfl jc ja ⟨n,z1,rfl,hp,hs,h3,y2,h2,t1.trans t2,rfl⟩
end
set_option maxRecDepth 10000
theorem eq_take {α:Type} {l m:List α} {k:Nat} (hl:l.length=m.length) (h:l.take k=m.take k) (hk:l.length≤k):l=m:=by
 rwa[List.take_of_length_le hk,List.take_of_length_le (by omega)] at h
theorem take_eq {l m:List Int} {k:Nat} {a:Int} (h:l.take k=m.take k) (h1:l[k]?=some a) (h2:m[k]?=some a):l.take (k+1)=m.take (k+1):=by
 rw[jaP h1,jaP h2,h]
structure SmQ where
 k:Nat
theorem SameInts_K {w0:World} {H:jb} {va vb:Value} {l m:List Int} (h1:Sli w0 H iE va l) (h2:Sli w0 H iE vb m) (hl:l.length≤4294967296):
  Call Tryz.prog w0 89 [va,vb] H (fun r H'=>r= .bool (decide (l=m))∧H'=H):=by
 refine Call.enter2 (n:=26) (by kernel_rfl) Tryz.func89 rfl rfl rfl ?_
 by_cases hlm:l.length=m.length
 ·have hne: ¬((l.length:Nat):Int)≠((m.length:Nat):Int):=by omega
  refine yr25 ?_;refine zfQ ?_;rintro⟨k⟩ ⟨hk,he⟩;dsimp only at hk he⊢
  by_cases hlt:k<l.length
  ·obtain⟨x,hx⟩:=jn hlt
   obtain⟨y,hy⟩:=jn (l:=m) (k:=k) (by omega)
   by_cases hxy:x=y
   ·have hxy2: ¬x≠y:=fun h=>h hxy
    refine yr15 ?_;refine zbI ?_;refine zS ?_;refine zS ?_;refine zdw ?_;refine zp ?_;refine yr10 ?_;subst hxy;exact zfR
   ·have hne2:l≠m:=fun h=>hxy (by rw[h,hy] at hx;cases hx;rfl)
    refine yr15 ?_;refine zbI ?_;refine zS ?_;refine zS ?_;refine KD.v0 rfl rfl (Val.isT (Val.neq rfl rfl) jr) ?_;refine zp ?_;refine yr13 ?_;exact zdW
  ·have heq:l=m:=eq_take hlm he (by omega)
   refine yr21 ?_;exact KE.fin jd rfl jc ja ⟨by rw[decide_eq_true heq];rfl,rfl⟩
 ·have hne:((l.length:Nat):Int)≠((m.length:Nat):Int):=by omega
  have hne2:l≠m:=fun h=>hlm (by rw[h])
  refine yr23 ?_;exact zdW
theorem Same3_K {w0:World} {H:jb} {va vb:Value} {l m:List Int} (h1:Sli w0 H uE va l) (h2:Sli w0 H uE vb m) (hl:l.length≤4294967296):
  Call Tryz.prog w0 38 [va,vb] H (fun r H'=>r= .bool (decide (l=m))∧H'=H):=by
 refine Call.enter2 (n:=26) (by kernel_rfl) Tryz.func38 rfl rfl rfl ?_
 by_cases hlm:l.length=m.length
 ·have hne: ¬((l.length:Nat):Int)≠((m.length:Nat):Int):=by omega
  refine yr25 ?_;refine zfQ ?_;rintro⟨k⟩ ⟨hk,he⟩;dsimp only at hk he⊢
  by_cases hlt:k<l.length
  ·obtain⟨x,hx⟩:=jn hlt
   obtain⟨y,hy⟩:=jn (l:=m) (k:=k) (by omega)
   by_cases hxy:x=y
   ·have hxy2: ¬x≠y:=fun h=>h hxy
    refine yr15 ?_;refine zbI ?_;refine zS ?_;refine zS ?_;refine zdw ?_;refine zp ?_;refine yr10 ?_;subst hxy;exact zfR
   ·have hne2:l≠m:=fun h=>hxy (by rw[h,hy] at hx;cases hx;rfl)
    refine yr15 ?_;refine zbI ?_;refine zS ?_;refine zS ?_;refine KD.v0 rfl rfl (Val.isT (Val.neq rfl rfl) jr) ?_;refine zp ?_;refine yr13 ?_;exact zdW
  ·have heq:l=m:=eq_take hlm he (by omega)
   refine yr21 ?_;exact KE.fin jd rfl jc ja ⟨by rw[decide_eq_true heq];rfl,rfl⟩
 ·have hne:((l.length:Nat):Int)≠((m.length:Nat):Int):=by omega
  have hne2:l≠m:=fun h=>hlm (by rw[h])
  refine yr23 ?_;exact zdW
structure RnS where
 k:Nat
 oo:Own
 R:List RwD
 N:jb
theorem rmNew_K {w0:World} {F:jb} {c:Cfg} {vc vt:Value} (hR:j1 w0 F c vc vt) (hc:jT c=true):
  Call Tryz.prog w0 51 [jt c vc vt] F (fun r H'=> ∃ (vr:Value) (R:List RwD) (N:jb),jat w0 N vr R∧rwX R=mR (fun t=>wordsP c (t:Nat)) c.tn.length∧r= .agg [vr].toArray∧H'=N++F):=by
 have hok:=(jar hc).tn
 have hB:=fun k (hk:k<c.tn.length)=>jcJ hc hk
 have hreg:=fun A (k:Nat) (hk:k<c.tn.length) (hp:Part A F)=>jcE (t:=(k:Nat)) (hR.part hp)
 have hrin:=fun k (hk:k<c.tn.length)=>jd3 hc hk
 obtain⟨f,hf⟩: ∃ f:Nat→Int,f=fun i=>wordsP c (i:Nat):=⟨_,rfl⟩
 have hfi: ∀ i:Nat,wordsP c (i:Nat)=f i:=fun i=>by rw[hf]
 simp only[hfi] at hB hrin⊢
 obtain⟨hS,hT',o1,o2,l1,l2⟩:=hR
 obtain⟨cl,page,tn,workers,grey,gens⟩:=c
 dsimp only at hS hT' l1 l2 hok hB hreg hrin⊢;simp only[jt,jJ,prV] at hreg⊢;clear hf hfi hc;refine Call.enter1 (n:=28) (by kernel_rfl) Tryz.func51 rfl rfl rfl ?_;refine yr2 ?_;refine zj ?_;intro b1 b2;refine yr4 ?_;refine zf ?_;intro b3;refine yr9 ?_;refine K.loopT (σ:=RnS) [(1,_),(2,_),(3,_)] (fun s kp_=>(4, .int .i64 (s.k:Nat))::kp_) (fun s=>(s.N++(oH rwE 108 s.R s.oo++((b3,cells [oV s.oo s.R.length] 38)::(b1,cells [vc, .int .i64 page,vt, .int .i64 workers, .int .i64 grey, .int .i64 gens] 25)::(b2,cells [.slice none 0 0] 38)::F)))) (fun s=>s.k≤tn.length∧oOk rwE s.R s.oo∧rwX s.R=mR f s.k∧ ∀ q'∈s.R,Sli w0 s.N uE (.slice q'.a q'.n q'.c) q'.x) (fun s=>tn.length-s.k) (⟨0,none,[],[]⟩) jg ja (⟨Nat.zero_le _,rfl,rfl,fun q' h=>by cases h⟩) ?_;rintro⟨k,oo,R1,N1⟩ ⟨hk,hoo,hX1,hs1⟩;dsimp only at hk hoo hX1 hs1⊢
 have hR1:R1.length=k:=by have:=congrArg List.length hX1;simpa [rwX,jdK] using this
 by_cases hlt:k<tn.length
 ·have hreg1:=fun A hp=>hreg A k hlt hp
  have hbk:=hB k hlt
  obtain⟨n,hn⟩: ∃ n:Nat,f k=n:=⟨(f k).toNat,by omega⟩
  simp only[hrin k hlt,hn] at hreg1;rw[hn] at hbk
  have hXs:mR f (k+1)=mR f k++ [List.replicate n 0]:=by simp[mR,List.range_succ,hn]
  clear hreg hrin hB;refine yq19 fun T hT=>?_;refine(CallV.fn (hreg1 _ ja)).mono ?_;rintro _ _ ⟨rfl,rfl⟩;refine za ?_;clear hT T;refine yr7 ?_;refine zw ?_
  (first|refine K.seq (K.drawn ([]) [(0,0),(1,0),(2,0),(3,5),(4,5),(5,2),(6,0),(7,2)] (by kernel_rfl) (by kernel_rfl) (by kernel_rfl) (by kernel_rfl) (by kernel_rfl) (by kernel_rfl) ja ?_)|refine K.seq (K.seq (K.drawn ([]) [(0,0),(1,0),(2,0),(3,5),(4,5),(5,2),(6,0),(7,2)] (by kernel_rfl) (by kernel_rfl) (by kernel_rfl) (by kernel_rfl) (by kernel_rfl) (by kernel_rfl) ja ?_))|refine K.drawn ([]) [(0,0),(1,0),(2,0),(3,5),(4,5),(5,2),(6,0),(7,2)] (by kernel_rfl) (by kernel_rfl) (by kernel_rfl) (by kernel_rfl) (by kernel_rfl) (by kernel_rfl) ja ?_)
  refine za2 ?_;refine zaG ?_;refine KD.eM rfl rfl (Eff.makeR (E:=uE) (x0:=0) rfl rfl rfl rfl rfl rfl (by first|assumption|omega|(simp<;>fail)|(simp;omega))) ?_;rintro _ _ ⟨o23,ok23,rfl,rfl⟩;refine⟨ja,?_⟩;refine KD.eM rfl rfl (Eff.buildS jbZ rfl rfl rfl rfl rfl jb5) ?_;rintro _ _ ⟨b24,rfl,rfl⟩;refine zW ?_
  --STOP before op 5
  cases o23 with
  |none=>
   have hr0:List.replicate n (0:Int)=[]:=ok23
   have hn0:n=0:=by simpa using congrArg List.length hr0
   subst hn0
   have hbd:(R1++ [(⟨none,0,0,List.replicate 0 0⟩:RwD)]).length≤4294967296:=by simp;omega
   have hS1:Sli w0 [(b24,cells (jD rwE [(⟨none,0,0,List.replicate 0 0⟩:RwD)]) 108)] rwE (.slice (some ⟨b24,0,none⟩) 1 1) [(⟨none,0,0,List.replicate 0 0⟩:RwD)]:=Sli.blk jH.head rfl (by simp) (by decide) rfl
   refine KD.e rfl rfl (Eff.appZ (E:=rwE) (xs:=R1) (o:=oo) (ys:=[⟨none,0,0,List.replicate 0 0⟩]) (zs:=R1++ [⟨none,0,0,List.replicate 0 0⟩]) rfl rfl rfl rfl rfl rfl jh (by assumption) (by first|exact Sli.blk jq rfl (by first|decide|simp) (by first|decide|(unfold maxLen;omega)) rfl|exact Sli.old (by assumption)|exact Sli.own jh (by assumption) jG|assumption|exact Sli.part (by assumption) ja) (rfl) (by first|assumption|omega|(simp<;>fail)|(simp;omega)) rfl) ?_;rintro _ _ ⟨o',ok',rfl,rfl⟩;refine⟨ja,?_⟩;refine za2 ?_
   (first|(refine KD.eN rfl (Eff.storeL rfl rfl jcb rfl jq jcZ) ?_;rintro _ _ rfl;refine⟨ja,?_⟩)|(refine KD.eN rfl (Eff.stSl rfl rfl rfl rfl jh (by assumption) (by assumption) rfl rfl) ?_;rintro _ _ rfl;refine⟨ja,?_⟩)|(refine KD.eN rfl (Eff.stSl0 rfl rfl rfl rfl jh (by assumption) (by assumption) rfl rfl) ?_;rintro _ _ rfl;refine⟨ja,?_⟩))
   refine zp ?_;refine yr7 ?_
   exact KE.again ⟨k+1,o',R1++ [⟨none,0,0,List.replicate 0 0⟩],oH uE 116 (List.replicate 0 0) none++N1⟩ jg ja ⟨hlt,ok',by show rwX _=_;rw [hXs,←hX1];simp[rwX],fun q2 h2=>by
    rcases List.mem_append.1 h2 with h2|h2
    ·exact(hs1 q2 h2).part ja
    ·rw[List.mem_singleton.1 h2];exact Sli.own (o:=none) jh rfl rfl⟩ (by show tn.length-(k+1)<tn.length-k;omega)
  |some ob=>
   have hbd:(R1++ [(⟨some ⟨ob.b,0,none⟩,(List.replicate n (0:Int)).length,ob.c,List.replicate n 0⟩:RwD)]).length≤4294967296:=by simp;omega
   have hS1:Sli w0 [(b24,cells (jD rwE [(⟨some ⟨ob.b,0,none⟩,(List.replicate n (0:Int)).length,ob.c,List.replicate n 0⟩:RwD)]) 108)] rwE (.slice (some ⟨b24,0,none⟩) 1 1) [(⟨some ⟨ob.b,0,none⟩,(List.replicate n (0:Int)).length,ob.c,List.replicate n 0⟩:RwD)]:=Sli.blk jH.head rfl (by simp) (by decide) rfl
   refine KD.e rfl rfl (Eff.appZ (E:=rwE) (xs:=R1) (o:=oo) (ys:=[⟨some ⟨ob.b,0,none⟩,(List.replicate n (0:Int)).length,ob.c,List.replicate n 0⟩]) (zs:=R1++ [⟨some ⟨ob.b,0,none⟩,(List.replicate n (0:Int)).length,ob.c,List.replicate n 0⟩]) rfl rfl rfl rfl rfl rfl jh (by assumption) (by first|exact Sli.blk jq rfl (by first|decide|simp) (by first|decide|(unfold maxLen;omega)) rfl|exact Sli.old (by assumption)|exact Sli.own jh (by assumption) jG|assumption|exact Sli.part (by assumption) ja) (rfl) (by first|assumption|omega|(simp<;>fail)|(simp;omega)) rfl) ?_;rintro _ _ ⟨o',ok',rfl,rfl⟩;refine⟨ja,?_⟩
   --nothing is left
   refine zaY ?_;refine zU ?_;refine yr7 ?_
   exact KE.again ⟨k+1,o',R1++ [⟨some ⟨ob.b,0,none⟩,(List.replicate n (0:Int)).length,ob.c,List.replicate n 0⟩],oH uE 116 (List.replicate n 0) (some ob)++N1⟩ jg ja ⟨hlt,ok',by show rwX _=_;rw [hXs,←hX1];simp[rwX],fun q2 h2=>by
    rcases List.mem_append.1 h2 with h2|h2
    ·exact(hs1 q2 h2).part ja
    ·rw[List.mem_singleton.1 h2];exact Sli.own jh ok23 rfl⟩ (by show tn.length-(k+1)<tn.length-k;omega)
 ·have hke:k=tn.length:=by omega
  subst hke;refine yr23 ?_;exact KE.fin (H':=(N1++oH rwE 108 R1 oo)++F) jd rfl jc (by rw[List.append_assoc];exact ja) ⟨oV oo R1.length,R1,_,⟨Sli.own (H:=(N1++oH rwE 108 R1 oo)) jh hoo rfl,jK _ _,fun q2 h2=>(hs1 q2 h2).part ja⟩,hX1,rfl,rfl⟩
open Go.RowKit
set_option maxRecDepth 10000
structure J6 where
 h:Int
 u:Nat
def stpL (x:J6):List Value:=[.int .i64 x.h, .int .u8 (x.u:Nat)]
def stpC (g:PlG) (long nw:Nat) (s:CyP) (x:J6):Option CyP:=if x.h<0 then helpC g long s else stepC g long nw s x.h (x.u:Nat)
section
variable {R0 : List (List Int)} {gn : Int} {w0 : World} {g : PlG} {long nf : Nat} {X : WcM} {s s' : CyP} {F : jb}
theorem step_same {nw:Nat} (h:jp g long s) (ok:je g) {k u:Int} (hs:stepC g long nw s k u=some s'):s'.A=s.A∧s'.W.T=s.W.T∧s'.W.N=s.W.N:=by
 unfold stepC at hs
 split at hs
 ·cases hm:stepM g long s.W s.m k u with
  |none=>rw [hm] at hs;cases hs
  |some m'=>
   rw[hm] at hs;cases hs
   obtain⟨a,b,c,_⟩:=jbQ (g:=g) (s:={s with m:=m',st:=s.st+1})
   exact zfJ
 ·split at hs
  ·rename_i h2
   cases hm:sweepC g s with
   |none=>rw [hm] at hs;cases hs
   |some q=>
    rw[hm] at hs;cases hs
    obtain⟨_,_,_,_,e1,e2,e3,_⟩:=jba ok h h2.1 hm
    obtain⟨a,b,c,_⟩:=jbQ (g:=g) (s:={q with st:=q.st+1})
    exact zfK
  ·cases hs
theorem beq_self (b:Bool):(b==b)=true:=by cases b<;>rfl
theorem getD_T {o:Option CyP} (h: ∀ s',o=some s'→s'.W.T.length=s.W.T.length):(o.getD s).W.T.length=s.W.T.length:=by
 cases o with
 |none=>rfl
 |some s'=>exact h s' rfl
set_option maxHeartbeats 4000000 in
theorem steps_K {x:J6} (hG:jw w0) (hX:WcR R0 gn w0 g long nf X s) (hu:x.u<256):
  Call Tryz.prog w0 78 [.agg (wcL g long X s).toArray, .agg (stpL x).toArray] (wcH X++F) (WcQ R0 gn w0 g long nf X ((stpC g long X.y.nw s x).getD s) F (fun a=> .tuple [a, .bool true].toArray)):=by
 have okg:=hX.okg
 have hi:=hX.p.i
 obtain⟨q1,q2,q3,q4,q5,q6,q7,q8,q9,r1,r2,r3,r4,r5⟩:=hX.d.c
 unfold WcQ
 obtain⟨hd,u⟩:=x
 unfold stpC stpL;dsimp only at hu⊢
 by_cases h0:hd<0
 ·simp only[if_pos h0]
  have hp:=fun A=>jfI (w0:=w0) (F:=A) hG hX.p
  have hq:=fun A=>rcHelp_K (F:=A) hX.d okg hX.lg hi hX.p.le
  have hl:((helpC g long s).getD s).W.T.length=s.W.T.length:=getD_T fun s' e=>by rw[(jhd hi okg e).2.1]
  have hto:=fun y' d' N hp ht hd=>hX.next (y':=y') (d':=d') (N:=N) (n:=0) (s':=(helpC g long s).getD s) hp ht hd hl
  unfold CyQ at hp;unfold CyS CyG at hq
  obtain⟨s',hs'⟩: ∃ s',(helpC g long s).getD s=s':=⟨_,rfl⟩
  obtain⟨bo,hbo⟩: ∃ bo,(helpC g long s).isSome=bo:=⟨_,rfl⟩
  simp only[hs',hbo] at hp hq hto⊢;clear hl;rw[wcH_app]
  obtain⟨y,v,d,D⟩:=X
  unfold wcL;unfold cyL at hq;dsimp only at*;refine Call.enter2 (n:=47) (by kernel_rfl) Tryz.func78 rfl rfl rfl ?_;refine yr2 ?_;refine zn ?_;intro b2 b3 b4;refine yq22 fun T hT=>?_;refine(CallV.part (CallV.fn (hp _)) ja).mono ?_;rintro _ _ ⟨rfl,y',hp',o1,rfl⟩;refine za ?_;clear hT T;refine yq7 fun T hT=>?_;refine(CallV.part (CallV.fn (hq _)) ja).mono ?_;rintro _ _ ⟨d',N,hd',rfl,rfl⟩
  obtain⟨_,_,_,_,v5,v6,v7,v8,v9,x1,x2,x3,x4,x5⟩:=hd'.c
  refine za ?_;clear hT T;refine yr20 ?_;rw[beq_self];exact zfS
 ·simp only[if_neg h0]
  have hp:=fun A=>cyStep_K (w0:=w0) (F:=A) (hd:=hd) (v:=(u:Nat)) hG hX.p (by omega)
  have hq:=fun A=>rcStep_K (F:=A) (hd:=hd) (u:=(u:Nat)) hX.d okg hX.lg hi hX.p.le (by omega) hX.hnw
  have hl:((stepC g long X.y.nw s hd (u:Nat)).getD s).W.T.length=s.W.T.length:=getD_T fun s' e=>by rw[(step_same hi okg e).2.1]
  have hto:=fun y' d' N hp ht hd'=>hX.next (y':=y') (d':=d') (N:=N) (n:=0) (s':=(stepC g long X.y.nw s hd (u:Nat)).getD s) hp ht hd' hl
  unfold CyQ at hp;unfold CyS CyG at hq
  obtain⟨s',hs'⟩: ∃ s',(stepC g long X.y.nw s hd (u:Nat)).getD s=s':=⟨_,rfl⟩
  obtain⟨bo,hbo⟩: ∃ bo,(stepC g long X.y.nw s hd (u:Nat)).isSome=bo:=⟨_,rfl⟩
  simp only[hs',hbo] at hp hq hto⊢;clear hl;rw[wcH_app]
  obtain⟨y,v,d,D⟩:=X
  unfold wcL;unfold cyL at hq;dsimp only at*;refine Call.enter2 (n:=47) (by kernel_rfl) Tryz.func78 rfl rfl rfl ?_;refine yr2 ?_;refine zn ?_;intro b2 b3 b4;refine yq28 fun T hT=>?_;refine(CallV.part (CallV.fn (hp _)) ja).mono ?_;rintro _ _ ⟨rfl,y',hp',o1,rfl⟩;refine za ?_;clear hT T;refine yq11 fun T hT=>?_;refine(CallV.part (CallV.fn (hq _)) ja).mono ?_;rintro _ _ ⟨d',N,hd',rfl,rfl⟩
  obtain⟨_,_,_,_,v5,v6,v7,v8,v9,x1,x2,x3,x4,x5⟩:=hd'.c
  refine za ?_;clear hT T;refine yr19 ?_;rw[beq_self];exact zfS
end
set_option maxRecDepth 10000
def jcy (c:Cfg):Int:=((c.tn[0]?).map (·.caps)).getD 0
def okY (c:Cfg):Bool:=(smallP c&&(decide ((totalP c).1≤2000)&&jT c))&&decide (jcy c≤60)
theorem jcm {w0:World} {F:jb} {c:Cfg} {vc vt:Value} (hR:j1 w0 F c vc vt) (hno:okY c=false):
  Call Tryz.prog w0 10 [jt c vc vt] F (fun r H'=>r= .tuple [.agg wc0.toArray, .bool false].toArray∧H'=F):=by
 have htot:=fun A (hp:Part A F)=>rTotal_K (hR.part hp)
 have hsm:=fun A (hp:Part A F)=>Small_K (hR.part hp)
 have hck:=fun A (hp:Part A F)=>jeK (hR.part hp)
 have hlen:jT c=true→ ∃ t0,c.tn[0]?=some t0:=fun h=>jn (by have:=(jar h).tn;omega)
 obtain⟨tt,te,htt⟩: ∃ tt te,totalP c=(tt,te):=⟨_,_,rfl⟩
 obtain⟨hS,hT',o1,o2,l1,l2⟩:=hR
 unfold okY jcy at hno;rw[htt] at hno;simp only[htt] at htot
 obtain⟨cp,hcp⟩: ∃ cp,cp=jT c:=⟨_,rfl⟩
 obtain⟨sp,hsp⟩: ∃ sp,sp=smallP c:=⟨_,rfl⟩
 simp only[←hcp] at hno hck hlen;simp only[←hsp] at hno hsm;clear hcp hsp htt
 obtain⟨cl,page,tn,workers,grey,gens⟩:=c
 dsimp only at hS hT' l1 l2;simp only[jt,jJ,prV] at htot hsm hck⊢;unfold wc0 cy0
 cases sp with
 |false=>
  refine zc2 ?_;refine yr2 ?_;refine zj ?_;intro b1 b2;refine yq6 fun T hT=>?_;refine zch ?_;rintro _ _ ⟨rfl,rfl⟩;refine za ?_;clear hT T;refine yq11 fun T hT=>?_;refine zc3 ?_;rintro _ _ ⟨rfl,rfl⟩;refine za ?_;clear hT T;refine yr30 ?_;exact zd
 |true=>
  by_cases ht:tt≤2000
  ·have hgt: ¬tt>2000:=by omega
   cases cp with
   |true=>
    rw[decide_eq_true ht] at hno
    obtain⟨t0,h0⟩:=hlen rfl
    dsimp only at h0 hno;rw[h0] at hno
    obtain⟨x1,x2,x3,x4⟩:=t0
    have hcg:x3>60:=by
     simp only[Bool.true_and,Bool.and_true,Option.map_some,Option.getD_some,decide_eq_false_iff_not] at hno
     omega
    unfold errB at hck;simp only[if_true] at hck
    have h0l:=jl h0
    refine zc2 ?_;refine yr2 ?_;refine zj ?_;intro b1 b2;refine yq6 fun T hT=>?_;refine zch ?_;rintro _ _ ⟨rfl,rfl⟩;refine za ?_;clear hT T;refine yq11 fun T hT=>?_;refine zc3 ?_;rintro _ _ ⟨rfl,rfl⟩;refine za ?_;clear hT T;refine yq11 fun T hT=>?_;refine(CallV.fn (hck _ ja)).mono ?_;rintro _ _ ⟨rfl,rfl⟩;refine za ?_;clear hT T;refine yr29 ?_;exact zd
   |false=>
    unfold errB at hck;simp only[Bool.false_eq_true,if_false] at hck;refine zc2 ?_;refine yr2 ?_;refine zj ?_;intro b1 b2;refine yq6 fun T hT=>?_;refine zch ?_;rintro _ _ ⟨rfl,rfl⟩;refine za ?_;clear hT T;refine yq11 fun T hT=>?_;refine zc3 ?_;rintro _ _ ⟨rfl,rfl⟩;refine za ?_;clear hT T;refine yq11 fun T hT=>?_;refine(CallV.fn (hck _ ja)).mono ?_;rintro _ _ ⟨rfl,rfl⟩;refine za ?_;clear hT T;refine yr23 ?_;exact zd
  ·have hgt:tt>2000:=by omega
   refine zc2 ?_;refine yr2 ?_;refine zj ?_;intro b1 b2;refine yq6 fun T hT=>?_;refine zch ?_;rintro _ _ ⟨rfl,rfl⟩;refine za ?_;clear hT T;refine yq11 fun T hT=>?_;refine zc3 ?_;rintro _ _ ⟨rfl,rfl⟩;refine za ?_;clear hT T;refine yr32 ?_;exact zd
def CMade (w0:World) (c:Cfg) (X:WcM):Prop:=WcR (mR (fun t=>wordsP c (t:Nat)) c.tn.length) c.gens w0 (gOf c 0) c.grey.toNat 1 X (newC (gOf c 0) (jcy c).toNat c.workers.toNat)∧X.y.nw=c.workers.toNat
set_option maxHeartbeats 8000000 in
theorem cmade_K {w0:World} {Dc F:jb} {c:Cfg} {vc vt:Value} (hG:jw w0) (hR:j1 w0 (Dc++F) c vc vt) (hok:okY c=true) (hC:Sli w0 Dc iE vc c.cl) (hvc:vc.oneCell'=true):
    Call Tryz.prog w0 10 [jt c vc vt] (Dc++F) (fun r H'=> ∃ X:WcM,CMade w0 c X∧r= .tuple [.agg (wcL (gOf c 0) c.grey.toNat X (newC (gOf c 0) (jcy c).toNat c.workers.toNat)).toArray, .bool true].toArray∧H'=wcH X++F):=by
  unfold okY at hok;simp only[Bool.and_eq_true,decide_eq_true_eq] at hok
  obtain⟨⟨k1,k2,k3⟩,k4⟩:=hok
  have htot:=fun A (hp:Part A (Dc++F))=>rTotal_K (hR.part hp)
  have hsm:=fun A (hp:Part A (Dc++F))=>Small_K (hR.part hp)
  have hck:=fun A (hp:Part A (Dc++F))=>jeK (hR.part hp)
  have hcfg:=jar k3
  have ht:thereP c 0 0=true:=jaS (i:=0) (j:=0) k3 (by have:=hcfg.tn;omega) (by have:=hcfg.cl;omega)
  have ga:=g_at ht
  have okg:=ga.ok
  have hreg:wordsP c 0=(gOf c 0).words:=by
    have h1:=ga.region
    have h2:=jd3 (i:=0) k3 (by have:=hcfg.tn;omega)
    have h3:regionP c 0=(wordsP c ((0:Nat):Int),0):=h2
    rw[h3] at h1;exact(Prod.mk.inj h1).1
  have hmn:=fun A (hp:Part A (Dc++F))=>mNew_K (hR.part hp) k3
  have hrm:=fun A (hp:Part A (Dc++F))=>rmNew_K (hR.part hp) k3
  have hlen:=hcfg.tn
  have htt:totalP c=(sumN (fun i=>wordsP c (i:Nat)) c.tn.length,0):=by simp[totalP,k3]
  obtain⟨t0,ht0⟩:=jn (l:=c.tn) (k:=0) (by omega)
  have hten:=hcfg.ten t0 (List.mem_of_getElem? ht0)
  have hcp:jcy c=t0.caps:=by unfold jcy;rw [ht0];rfl
  rw[hcp] at k4
  have hwk:=hcfg.workers
  have hgy:=hcfg.grey
  have hgn:=hcfg.gens
  have hpn:=fun A (m:Jk) (hp:Part A (Dc++F)) (okm:JZ m) hm=>cyNew_K (m:=m) (t:=0) hG (hR.part hp) k3 ht0 okm hm
  have hdn:=fun A Dm vr Rm (hp:Part (Dm++(Dc++A)) (Dc++F)) hM hm0 hml=>rcNew_K (Dm:=Dm) (F:=A) (vr:=vr) (Rm:=Rm) (hR.part hp) k3 ht0 hC hvc hM hm0 hml
  obtain⟨tt,htt'⟩: ∃ tt,sumN (fun i=>wordsP c (i:Nat)) c.tn.length=tt:=⟨_,rfl⟩
  rw[htt,htt'] at k2;simp only[htt,htt'] at htot;dsimp only at k2
  have hgt: ¬tt>2000:=by omega
  obtain⟨mm,hmm⟩: ∃ mm,mm=mR (fun t=>wordsP c (t:Nat)) c.tn.length:=⟨_,rfl⟩
  have hx0r:List.replicate (wordsP c ((0:Nat):Int)).toNat (0:Int)=List.replicate (gOf c 0).words 0:=by show List.replicate (wordsP c 0).toNat 0=_;rw [hreg];rfl
  have hm0:mm[0]?=some (List.replicate (gOf c 0).words 0):=by rw[hmm,←hx0r];exact mR_get (by omega)
  have hml:mm.length≤1000:=by rw[hmm,jdK];omega
  unfold CMade;rw[hcp];simp only[←hmm] at hmn hrm⊢
  obtain⟨g,hg⟩: ∃ g,g=gOf c 0:=⟨_,rfl⟩
  simp only[←hg] at hdn okg hm0⊢
  have hg0:gOf c ((0:Nat):Int)=g:=hg.symm
  simp only[hg0] at hpn;unfold errB at hck;simp only[k1,k3,if_true] at hck hsm
  obtain⟨hS,hT',o1,o2,l1,l2⟩:=hR
  clear htt htt' hg hg0 hmm hreg ga ht hcfg k1 k3 hx0r hcp
  obtain⟨cl,page,tn,workers,grey,gens⟩:=c
  obtain⟨x1,x2,x3,x4⟩:=t0
  dsimp only at hS hT' l1 l2 hC hlen ht0 k4 hwk hgy hgn hten hpn hdn⊢
  have hcg: ¬x3>60:=by omega
  have h0l:=jl ht0
  simp only[jt,jJ,prV] at htot hsm hck hmn hpn hdn hrm⊢;refine zc2 ?_;refine yr2 ?_;refine zj ?_;intro b1 b2;refine yq6 fun T hT=>?_;refine zch ?_;rintro _ _ ⟨rfl,rfl⟩;refine za ?_;clear hT T;refine yq11 fun T hT=>?_;refine zc3 ?_;rintro _ _ ⟨rfl,rfl⟩;refine za ?_;clear hT T;refine yq11 fun T hT=>?_;refine(CallV.fn (hck _ ja)).mono ?_;rintro _ _ ⟨rfl,rfl⟩;refine za ?_;clear hT T;refine yr24 ?_;refine zf ?_;intro b6;refine yq5 fun T hT=>?_;refine(CallV.fn (hmn _ ja)).mono ?_;rintro _ _ ⟨m,okm,hmR,rfl,rfl⟩;refine za ?_;clear hT T;refine yq12 fun T hT=>?_;refine(CallV.part (CallV.fn (hpn ((b6,cells (.pointer (some ⟨m.b,0,none⟩):: .pointer none::cy0) 57)::(b1,cells [vc, .int .i64 page,vt, .int .i64 workers, .int .i64 grey, .int .i64 gens] 25)::(b2,cells wc0 57)::(Dc++F)) m ja okm (by rw[hmR];exact hm0))) ja).mono ?_;rintro _ _ ⟨y,hy,rfl,rfl⟩;refine za ?_;clear hT T;refine yr8 ?_;refine K.drawn _ [(0,1),(1,0),(2,2),(3,2),(4,0),(5,2)] (by kernel_rfl) (by kernel_rfl) (by kernel_rfl) (by kernel_rfl) (by kernel_rfl) (by kernel_rfl) (Part.drop Part.all) ?_;refine zaO ?_;refine zai ?_;refine zi fun T hT=>?_;refine(CallV.fn (hrm _ ja)).mono ?_;rintro _ _ ⟨vr,R,Nr,hMD,hrR,rfl,rfl⟩
  have q6:=hMD.o
  have hRl : R.length ≤ 1000 := by have : (rwX R).length ≤ 1000 := by rw [hrR]; exact hml
                                   simpa [rwX] using this
  refine zh ?_;clear hT T;refine zi fun T hT=>?_;refine(CallV.part (CallV.fn (hdn ((b6,cells (.pointer (some ⟨m.b,0,none⟩):: .pointer (some ⟨y.b,0,none⟩)::cy0) 57)::(b1,cells [vc, .int .i64 page,vt, .int .i64 workers, .int .i64 grey, .int .i64 gens] 25)::(b2,cells wc0 57)::(cycH y++F)) Nr vr R ja hMD (by rw[hrR];exact hm0) hRl)) ja).mono ?_;rintro _ _ ⟨v,d,N,hD,rfl,rfl⟩
  obtain⟨q1,q2,q3,q4,q5,q7,q8,q9,r1,r2,r3,r4,r5,r6⟩:=hD.c
  obtain⟨hy1,hy2,hy3,hy4,hy5,hy6⟩:=hy
  have hX:WcR mm gens w0 g grey.toNat 1 ⟨y,v,d,N++(Nr++Dc)⟩ (newC g x3.toNat workers.toNat):=by
    have hl:1≤grey.toNat∧grey.toNat≤64:=by omega
    rw[hrR] at hD;refine⟨hy1,hD,hl.2,hy3,?_,hy4,by rw[hy6];exact Nat.le_refl _,by show(List.replicate _ _).length≤_;rw [List.length_replicate];omega⟩
    show y.B.m.R=mm.set 0 (List.replicate g.words 0)
    rw[hy2,hmR]
    obtain⟨hl1,he⟩:=List.getElem?_eq_some_iff.1 hm0
    rw[←he,List.set_getElem_self]
  unfold cyL;refine zh ?_;clear hT T;refine zbh ?_;refine zM ?_;refine zY ?_;refine yr2 ?_;refine K.drawn _ ((0,1)::(1,0)::(2,0)::(3,0)::(4,0)::(5,0)::(6,0)::(7,0)::(8,0)::(9,0)::(10,0)::(11,0)::(12,2)::(13,0)::(14,0)::(15,0)::(16,0)::(17,0)::(18,2)::(19,0)::(20,0)::(21,0)::(22,0)::(23,0)::(24,2)::(25,0)::(26,0)::(27,0)::(28,0)::(29,0)::(30,2)::(31,1)::(32,1)::(33,2)::(34,0)::[]) (by kernel_rfl) (by kernel_rfl) (by kernel_rfl) (by kernel_rfl) (by kernel_rfl) (by kernel_rfl) (Part.take jH.head (Part.takeA jP.head (Part.takeA jP.head (Part.takeA jP.head (Part.take jH.head (Part.drop Part.all)))))) ?_;refine zaO ?_;refine zQ ?_;refine KD.v0 rfl rfl (Val.neqPN rfl rfl rfl) ?_;refine zg ?_;refine zac ?_;refine zdX ?_;refine zT ?_;refine zac ?_;refine zv fun T hT=>?_;refine(CallV.part (CallV.fn (jd9 (y:=y))) ja).mono ?_;refine zl ?_;clear hT T;refine zdX ?_;refine zT ?_;refine zac ?_;refine zv fun T hT=>?_;refine(CallV.part (CallV.fn (jdw (y:=y))) ja).mono ?_;refine zl ?_;clear hT T;refine zdX ?_;refine zT ?_;refine zac ?_;refine zv fun T hT=>?_;refine(CallV.part (CallV.fn (jdj (y:=y))) ja).mono ?_;refine zl ?_;clear hT T;refine zdX ?_;refine zT ?_;refine zac ?_;refine zv fun T hT=>?_;refine(CallV.part (CallV.fn (jcO (y:=y))) ja).mono ?_;refine zl ?_;clear hT T;refine KD.y1 rfl rfl rfl rfl (Val.neqPN rfl rfl rfl) ?_;refine KD.v1 rfl rfl (Val.pickT rfl rfl rfl) ?_;refine zM ?_;refine zaK ?_;refine yr2 ?_;exact KE.fin (H':=wcH ⟨y,v,d,N++(Nr++Dc)⟩++F) jd rfl jc (by simp only[wcH_app,List.append_assoc];exact ja) ⟨⟨y,v,d,N++(Nr++Dc)⟩,⟨hX,hy5⟩,by rw[←hy2];rfl,rfl⟩
open Go.RowKit
set_option maxRecDepth 100000
def cwC:Cfg:=⟨[2,4],8,[⟨20,8,4,1⟩,⟨4,1,1,0⟩],1,2,3⟩
def cwG:PlG:=gOf cwC 0
def cwY0:ju:=(cwG.L[0]?).getD ⟨0,0,0,0⟩
def cwY1:ju:=(cwG.L[1]?).getD ⟨0,0,0,0⟩
def cw0:CyP:=newC cwG 4 1
def cw1:CyP:={cw0 with A:=(takeP cwG cw0.A 0).2.2}
def cw2:CyP:={cw1 with A:=(takeP cwG cw1.A 0).2.2}
def cw3:CyP:={cw2 with W:={cw2.W with T:=jZ cw2.W.T ((0:Nat):Int)}}
def cw4:CyP:={cw3 with W:={cw3.W with x:=(jW cw3.W.x cwY0 ⟨0,0,1⟩).2}}
def cw5:CyP:={cw4 with W:={cw4.W with x:=(jW cw4.W.x cwY1 ⟨0,0,1⟩).2}}
def cw6:CyP:=beginC cwG cw5
def cwF:Nat × CyP:=finC cwG 2 cw6
def cw8:CyP:=publishC cwG 3 cwF.2
theorem cw_ok:okY cwC=true:=by kernel_rfl
theorem cw_y0:cwG.L[0]?=some cwY0:=by kernel_rfl
theorem cw_y1:cwG.L[1]?=some cwY1:=by kernel_rfl
theorem cw_n:cwF.1=36:=by kernel_rfl
theorem cw_help:(helpC cwG 2 cw5).isSome=false:=by kernel_rfl
theorem cw_step:(stepC cwG 2 1 cwF.2 0 5).isSome=false:=by kernel_rfl
theorem cw_ph:cwF.2.ph=3:=by kernel_rfl
theorem cw_freed:cwF.2.D.count true=1:=by kernel_rfl
theorem cw_back:recyN 3 cwF.2.W.T=0:=by kernel_rfl
open Go.RowKit
set_option maxRecDepth 10000
section
variable {w0 : World} {F : jb} {y : CyM} {s : CyP} {g : PlG} {long : Nat}
theorem cHas_K {t:Nat} (h:CpR g long y s):Call Tryz.prog w0 35 [.pointer (some ⟨y.a.b,0,none⟩), .int .i64 (t:Nat)] (cycH y++F) (fun r H'=>r= .bool ((s.A[t]?).getD false)∧H'=cycH y++F):=by
 have hc:=Call.ro (w0:=w0) (A:=jR y.a y.B.p) (H:=cycH y++F) (fun F=>Has_K (F:=F) (i:=(t:Nat)) h.oka) (by rw[cycH_app];exact ja)
 rw[jcX,h.A] at hc;exact hc
theorem jfK {t:Nat} (h:CpR g long y s):Call Tryz.prog w0 36 [.pointer (some ⟨y.N.b,0,none⟩), .int .i64 (t:Nat)] (cycH y++F) (fun r H'=>r= .int .i64 ((s.W.N[t]?).getD 0)∧H'=cycH y++F):=by
 have hc:=Call.ro (w0:=w0) (A:=Jp y.N) (H:=cycH y++F) (fun F=>jg6 (F:=F) (s:=(t:Nat)) h.p.pi) (by rw[cycH_app];exact ja)
 rw[if_pos (by omega),Int.toNat_natCast,h.p.eN] at hc;exact hc
theorem jgb {i:Nat} (h:CpR g long y s):Call Tryz.prog w0 37 [.pointer (some ⟨y.T.b,0,none⟩), .int .i64 (i:Nat)] (cycH y++F) (fun r H'=>r= .tuple [.int .i64 ((slotT s.W.T (i:Nat)).getD 0), .bool (slotT s.W.T (i:Nat)).isSome].toArray∧H'=cycH y++F):=by
 have hc:=Call.ro (w0:=w0) (A:=jL y.T) (H:=cycH y++F) (fun F=>tbSlot_K (F:=F) (i:=i) h.p.tb) (by rw[cycH_app];exact ja)
 rw[h.p.eT] at hc;exact hc
theorem cyDoomed_K (hG:jw w0) (h:CpR g long y s):Call Tryz.prog w0 23 [.pointer (some ⟨y.b,0,none⟩)] (cycH y++F)
  (fun r H'=> ∃ o,oOk iE (idxP s.D) o∧r=oV o (idxP s.D).length∧H'=oH iE 3 (idxP s.D) o++(cycH y++F)):=by
 have hd:=fun A=>spDoomed_K (w0:=w0) (F:=A) hG h.oks
 rw[h.D] at hd;refine Call.enter1 (n:=10) (by kernel_rfl) Tryz.func23 rfl rfl rfl ?_;refine yq9 fun T hT=>?_;refine zbe ?_;clear hT T;simp only[cycH_app];refine yq11 fun T hT=>?_;refine(CallV.part (CallV.fn (hd _)) ja).mono ?_;rintro _ _ ⟨o,ko,rfl,rfl⟩;refine za ?_;clear hT T;refine yr4 ?_;exact KE.fin (H':=oH iE 3 (idxP s.D) o++(cycH y++F)) jd rfl jc (by simp only[cycH_app];exact ja) ⟨o,ko,rfl,by simp only[cycH_app]⟩
theorem cAll_K (h:CpR g long y s):Call Tryz.prog w0 39 [.pointer (some ⟨y.B.m.b,0,none⟩)] (cycH y++F)
  (fun r H'=> ∃ o,oOk uE y.B.m.R.flatten o∧r=oV o y.B.m.R.flatten.length∧H'=oH uE 116 y.B.m.R.flatten o++(cycH y++F)):=by
 refine Call.at_ (All_K h.p.bo.m) (by simp only[cycH_app];exact ja) ?_;rintro _ _ ⟨o,ko,rfl,rfl⟩;exact⟨_,⟨o,ko,rfl,rfl⟩,by simp only[cycH_app];exact ja⟩
end
set_option maxRecDepth 100000
structure CwR (R0:List (List Int)) (g:PlG) (long nw:Nat) (gn:Int) (nf pb pm pB pT pa:Nat) (y:CyM) (s:CyP):Prop where
 p:CpR g long y s
 b:y.b=pb
 m:y.B.m.b=pm
 B:y.B.b=pB
 T:y.T.b=pT
 a:y.a.b=pa
 nw:y.nw=nw
 g:y.T.gens=gn
 f:y.k.c.f≤nf
 t:y.B.t=0
 R:y.B.m.R=R0.set 0 s.W.x
def CwQ (R0:List (List Int)) (g:PlG) (long nw:Nat) (gn:Int) (nf pb pm pB pT pa:Nat) (s:CyP) (F H':jb):Prop:= ∃ y,CwR R0 g long nw gn nf pb pm pB pT pa y s∧H'=cycH y++F
section
variable {w0 : World} {R0 : List (List Int)} {g : PlG} {long nw : Nat} {gn : Int} {nf n pb pm pB pT pa : Nat} {y : CyM} {s s' : CyP} {F H' : jb}
theorem CwR.to (h:CwR R0 g long nw gn nf pb pm pB pT pa y s) (hq:CyQ g long y n F s' H'):CwQ R0 g long nw gn (nf+n) pb pm pB pT pa s' F H':=by
 obtain⟨y',h1,h2,rfl⟩:=hq
 exact⟨y',⟨h1,h2.b.trans h.b,h2.mb.trans h.m,by rw[h2.B];exact h.B,h2.T.trans h.T,h2.a.trans h.a,h2.nw.trans h.nw,h2.G.trans h.g,by rw[h2.f];have:=h.f;omega,by rw[h2.B];exact h.t,by
  rw[h2.B]
  show y.B.m.R.set y.B.t s'.W.x=_
  rw[h.t,h.R,List.set_set]⟩,rfl⟩
theorem awTake_K {k:Int} (hG:jw w0) (h:CwR R0 g long nw gn nf pb pm pB pT pa y s) (hs:{s with A:=(takeP g s.A k).2.2}=s'):Call Tryz.prog w0 52 [.pointer (some ⟨pa,0,none⟩), .int .i64 k] (cycH y++F)
  (fun r H'=>r= .tuple [.int .i64 (takeP g s.A k).1, .int .i64 (takeP g s.A k).2.1].toArray∧CwQ R0 g long nw gn nf pb pm pB pT pa s' F H'):=by
 subst hs;have:=cTake_K (F:=F) (k:=k) hG h.p;rw [h.a] at this;exact zbr
theorem awMint_K {n:Nat} (h:CwR R0 g long nw gn nf pb pm pB pT pa y s) (hn:n<g.slots) (hs:{s with W:={s.W with T:=jZ s.W.T (n:Nat)}}=s'):Call Tryz.prog w0 53 [.pointer (some ⟨pT,0,none⟩), .int .i64 (n:Nat)] (cycH y++F)
  (fun r H'=>r= .tuple [.int .i64 (mintV s.W.T).1, .int .u32 (mintV s.W.T).2.1, .int .i64 (mintV s.W.T).2.2].toArray∧CwQ R0 g long nw gn nf pb pm pB pT pa s' F H'):=by
 subst hs;have:=cMint_K (w0:=w0) (F:=F) h.p hn;rw [h.T] at this;exact zbr
theorem awMake_K {n:Nat} {z:ju} {hd:HdP} (hG:jw w0) (h:CwR R0 g long nw gn nf pb pm pB pT pa y s) (hz:g.L[n]?=some z) (hs:{s with W:={s.W with x:=(jW s.W.x z hd).2}}=s'):Call Tryz.prog w0 54 [.pointer (some ⟨pB,0,none⟩), .int .i64 (n:Nat),hdV hd] (cycH y++F)
  (fun r H'=>r= .int .i64 (jW s.W.x z hd).1∧CwQ R0 g long nw gn nf pb pm pB pT pa s' F H'):=by
 subst hs;have:=cMake_K (F:=F) (hd:=hd) hG h.p hz;rw [h.B] at this;exact zbr
theorem jfL {b:Bool} (hG:jw w0) (h:CwR R0 g long nw gn nf pb pm pB pT pa y s) (hb:(helpC g long s).isSome=b) (hs:(helpC g long s).getD s=s'):Call Tryz.prog w0 17 [.pointer (some ⟨pb,0,none⟩)] (cycH y++F) (fun r H'=>r= .bool b∧CwQ R0 g long nw gn nf pb pm pB pT pa s' F H'):=by
 subst hs hb;have:=jfI (F:=F) hG h.p;rw [h.b] at this;exact zbr
theorem jer {b:Bool} {hd v:Int} (hG:jw w0) (h:CwR R0 g long nw gn nf pb pm pB pT pa y s) (hv:0≤v∧v<256) (hb:(stepC g long nw s hd v).isSome=b) (hs:(stepC g long nw s hd v).getD s=s'):Call Tryz.prog w0 16 [.pointer (some ⟨pb,0,none⟩), .int .i64 hd, .int .u8 v] (cycH y++F) (fun r H'=>r= .bool b∧CwQ R0 g long nw gn nf pb pm pB pT pa s' F H'):=by
 subst hs hb;have:=cyStep_K (F:=F) (hd:=hd) hG h.p hv;rw [h.b,h.nw] at this;exact zbr
theorem jdo (h:CwR R0 g long nw gn nf pb pm pB pT pa y s) (h0:s.ph=0) (hf:nf≤1000000) (hs:beginC g s=s'):Call Tryz.prog w0 24 [.pointer (some ⟨pb,0,none⟩)] (cycH y++F) (fun r H'=>r= .int .i64 0∧CwQ R0 g long nw gn (nf+1) pb pm pB pT pa s' F H'):=by
 subst hs;have:=jdl (w0:=w0) (F:=F) h.p h0 (Nat.le_trans h.f hf);rw [h.b] at this;exact zbr
theorem jeY (h:CwR R0 g long nw gn nf pb pm pB pT pa y s) (h0:s.ph≠0):Call Tryz.prog w0 24 [.pointer (some ⟨pb,0,none⟩)] (cycH y++F) (fun r H'=>r= .int .i64 9∧H'=cycH y++F):=by
 have:=cyBegin_E (w0:=w0) (F:=F) (y:=y) (by rw[h.p.ph];exact h0);rw [h.b] at this
 exact this
theorem jce {n m:Nat} (hG:jw w0) (h:CwR R0 g long nw gn nf pb pm pB pT pa y s) (h3:s.ph=3) (hn:s.D.count true=n) (hm:recyN gn s.W.T=m) (hs:publishC g gn s=s'):Call Tryz.prog w0 21 [.pointer (some ⟨pb,0,none⟩)] (cycH y++F) (fun r H'=>r= .tuple [.int .i64 (n:Nat), .int .i64 (m:Nat), .int .i64 0].toArray∧CwQ R0 g long nw gn nf pb pm pB pT pa s' F H'):=by
 subst hs hn hm;have:=jgm (F:=F) hG h.p h3;rw [h.b,h.g] at this;exact zbr
theorem jdO (h:CwR R0 g long nw gn nf pb pm pB pT pa y s) (h0:s.ph≠3):Call Tryz.prog w0 21 [.pointer (some ⟨pb,0,none⟩)] (cycH y++F) (fun r H'=>r= .tuple [.int .i64 0, .int .i64 0, .int .i64 9].toArray∧H'=cycH y++F):=by
 have:=jhU (w0:=w0) (F:=F) (y:=y) (by rw[h.p.ph];exact h0);rw [h.b] at this
 exact this
theorem jbM {n:Nat} (hG:jw w0) (h:CwR R0 g long nw gn nf pb pm pB pT pa y s) (h0:s.ph≠0) (hn:(finC g long s).1=n) (hs:(finC g long s).2=s'):Call Tryz.prog w0 15 [.pointer (some ⟨pb,0,none⟩)] (cycH y++F) (fun r H'=>r= .tuple [.int .i64 (n:Nat), .int .i64 0].toArray∧CwQ R0 g long nw gn nf pb pm pB pT pa s' F H'):=by
 subst hs hn;have:=jgI (F:=F) hG h.p h0;rw [h.b] at this;refine this.mono ?_;rintro _ _ ⟨n,s',rfl,h1,h2,h3,hq⟩;rw[fin_is h.p.okg h.p.i h1 h2];exact⟨rfl,h.to hq⟩
theorem awPhase_K (h:CwR R0 g long nw gn nf pb pm pB pT pa y s):Call Tryz.prog w0 30 [.pointer (some ⟨pb,0,none⟩)] (cycH y++F) (fun r H'=>r= .int .u8 (s.ph:Nat)∧H'=cycH y++F):=by
 have:=jdk (w0:=w0) (F:=F) (y:=y);rw [h.b,h.p.ph] at this;exact this
theorem jcH (h:CwR R0 g long nw gn nf pb pm pB pT pa y s):Call Tryz.prog w0 31 [.pointer (some ⟨pb,0,none⟩)] (cycH y++F) (fun r H'=>r= .int .i64 (s.st:Nat)∧H'=cycH y++F):=by
 have:=jhh (w0:=w0) (F:=F) (y:=y);rw [h.b,h.p.st] at this;exact this
theorem jgq (h:CwR R0 g long nw gn nf pb pm pB pT pa y s) (h0:s.ph=0):Call Tryz.prog w0 15 [.pointer (some ⟨pb,0,none⟩)] (cycH y++F) (fun r H'=>r= .tuple [.int .i64 0, .int .i64 9].toArray∧H'=cycH y++F):=by
 have:=cyFinish_E (w0:=w0) (F:=F) (y:=y) (by rw[h.p.ph];exact h0);rw [h.b] at this
 exact this
theorem jct (h:CwR R0 g long nw gn nf pb pm pB pT pa y s):Call Tryz.prog w0 39 [.pointer (some ⟨pm,0,none⟩)] (cycH y++F) (fun r H'=> ∃ o,oOk uE y.B.m.R.flatten o∧r=oV o y.B.m.R.flatten.length∧H'=oH uE 116 y.B.m.R.flatten o++(cycH y++F)):=by
 have:=cAll_K (w0:=w0) (F:=F) h.p;rw [h.m] at this;exact this
theorem jfj (h:CwR R0 g long nw gn nf pb pm pB pT pa y s):Call Tryz.prog w0 28 [.pointer (some ⟨pb,0,none⟩)] (cycH y++F) (fun r H'=>r= .pointer (some ⟨pT,0,none⟩)∧H'=cycH y++F):=by
 have:=jdj (w0:=w0) (F:=F) (y:=y);rw [h.b,h.T] at this;exact this
theorem awBody_K (h:CwR R0 g long nw gn nf pb pm pB pT pa y s):Call Tryz.prog w0 27 [.pointer (some ⟨pb,0,none⟩)] (cycH y++F) (fun r H'=>r= .pointer (some ⟨pB,0,none⟩)∧H'=cycH y++F):=by
 have:=jdw (w0:=w0) (F:=F) (y:=y);rw [h.b,h.B] at this;exact this
theorem jbx (h:CwR R0 g long nw gn nf pb pm pB pT pa y s):Call Tryz.prog w0 26 [.pointer (some ⟨pb,0,none⟩)] (cycH y++F) (fun r H'=>r= .pointer (some ⟨pa,0,none⟩)∧H'=cycH y++F):=by
 have:=jd9 (w0:=w0) (F:=F) (y:=y);rw [h.b,h.a] at this;exact this
theorem jc0 {t:Nat} (h:CwR R0 g long nw gn nf pb pm pB pT pa y s):Call Tryz.prog w0 35 [.pointer (some ⟨pa,0,none⟩), .int .i64 (t:Nat)] (cycH y++F) (fun r H'=>r= .bool ((s.A[t]?).getD false)∧H'=cycH y++F):=by
 have:=cHas_K (w0:=w0) (F:=F) (t:=t) h.p;rw [h.a] at this;exact this
end
open Go.RowKit
set_option maxRecDepth 10000
theorem count_set {l:List Bool} {i:Nat} (h:l[i]?=some false):(l.set i true).count false+1=l.count false:=by
 induction l generalizing i with
 |nil=>simp at h
 |cons x l ih=>
  cases i with
  |zero=>simp at h;subst h;simp
  |succ i=>
   simp at h
   have:=ih h
   simp only[List.set_cons_succ,List.count_cons]
   omega
section
variable {g : PlG} {W : MwP} {o o0 : List Bool} {mr : Bool} {n : Nat}
structure RcA (g:PlG) (W:MwP) (n:Nat) (o:List Bool):Prop where
 len:o.length=g.slots
 ok: ∀ s:Nat,o[s]?=some true→RchM g W s
 rt: ∀ r s:Nat,r<n→jF g W r=some (s:Nat)→o[s]?=some true
theorem RcA.nil:RcA g W 0 (List.replicate g.slots false):=⟨by simp,fun s h=>(by
 rw[List.getElem?_replicate] at h
 split at h<;>cases h),fun r s h=>absurd h (Nat.not_lt_zero _)⟩
theorem jgX {s t:Nat} (h:o[t]?=some true):(o.set s true)[t]?=some true:=by
 by_cases e:s=t
 ·subst e;rw [List.getElem?_set_self (jl h)]
 ·rw[List.getElem?_set_ne e];exact h
theorem of_set {s t:Nat} (h:(o.set s true)[t]?=some true):o[t]?=some true∨(t=s):=by
 by_cases e:s=t
 ·exact .inr e.symm
 ·rw[List.getElem?_set_ne e] at h;exact .inl h
theorem RcA.put {s:Nat} (h:RcA g W n o) (hn:n<W.T.length+g.slots) (hW:Jb g W) (hr:jF g W n=some (s:Nat)):RcA g W (n+1) (o.set s true):=by
 have hs:s<g.slots:=by have:=(jdd hW hn hr).2;omega
 refine⟨by rw[List.length_set];exact h.len,fun t ht=>?_,fun r t hrn hrt=>?_⟩
 ·rcases of_set ht with e|e
  ·exact h.ok t e
  ·subst e;exact .root hn hr
 ·rcases Nat.lt_or_ge r n with hl|hl
  ·exact jgX (h.rt r t hl hrt)
  ·have:r=n:=by omega
   subst this;rw[hr] at hrt
   have e:s=t:=by have:=Option.some.inj hrt;omega
   subst e;exact List.getElem?_set_self (by rw[h.len];exact hs)
theorem RcA.skip (h:RcA g W n o) (hr: ∀ s:Nat,jF g W n=some (s:Nat)→o[s]?=some true):RcA g W (n+1) o:=⟨h.len,h.ok,fun r t hrn hrt=>by
 rcases Nat.lt_or_ge r n with hl|hl
 ·exact h.rt r t hl hrt
 ·have:r=n:=by omega
  subst this;exact hr t hrt⟩
structure RdS (g:PlG) (W:MwP) (o0 o:List Bool) (mr:Bool):Prop where
 a:RcA g W (W.T.length+g.slots) o
 c:mr=true→o.count false<o0.count false
 e:mr=false→o=o0
theorem RdS.put {s:Nat} (h:RdS g W o0 o mr) (hs:RchM g W s) (hf:o[s]?=some false):RdS g W o0 (o.set s true) true:=by
 have h1:=count_set hf
 refine⟨⟨by rw[List.length_set];exact h.a.len,fun t ht=>?_,fun r t hr ht=>jgX (h.a.rt r t hr ht)⟩,fun _=>?_,fun e=>(by cases e)⟩
 ·rcases of_set ht with e|e
  ·exact h.a.ok t e
  ·subst e;exact hs
 ·cases mr with
  |true=>have:=h.c rfl;omega
  |false=>have:=h.e rfl;subst this;omega
def ClN (g:PlG) (W:MwP) (o:List Bool) (n:Nat):Prop:= ∀ (s t:Nat) (i:Int),s<n→o[s]?=some true→refO g W.x (s:Nat) i=some (t:Nat)→o[t]?=some true
theorem RcA.done (hW:Jb g W) (h:RcA g W (W.T.length+g.slots) o) (hc:ClN g W o g.slots) (s:Nat) (hs:s<g.slots):o[s]?=some true↔RchM g W s:=by
 refine⟨h.ok s,fun hr=>?_⟩
 induction hr with
 |root h1 h2=>exact h.rt _ _ h1 h2
 |edge h1 h2 ih=>
  have hs1:=rch_in hW h1
  exact hc _ _ _ hs1 (ih hs1) h2
theorem ref_list (ok:je g) (hW:Jb g W) (hrf:jap g W.x) {s:Nat} {y:ju} (hy:g.L[s]?=some y) {k:Nat} {v:Int} (h:(refsL W.x g.slots y (refsN W.x y).toNat)[k]?=some v) (h0:0≤v):refO g W.x (s:Nat) (k:Nat)=some v∧v<(g.slots:Nat):=by
 have hk:k<(refsN W.x y).toNat:=by have:=jl h;rwa[jd4] at this
 have hv:(refP W.x g.slots y (k:Nat)).1=v:=by
  unfold refsL at h;rw[List.getElem?_map,List.getElem?_range hk] at h
  simpa using h
 have hf:fldP W.x y true (k:Nat)=0:=by
  unfold refsN at hk
  cases hh:headP W.x y with
  |none=>rw [hh] at hk;simp at hk
  |some q=>
   rw[hh] at hk
   have hm:=(jbc (jbT hh).2).1
   simp only[Jd,decide_eq_true_eq] at hm;unfold fldP;rw[hh];dsimp only at hk⊢;rw[if_pos ⟨by omega,by omega,decide_eq_true (by omega)⟩]
 have h2:=rf_ok ok hrf hy hf
 have hr:refO g W.x (s:Nat) (k:Nat)=some v:=by
  unfold refO;rw[JF hy,if_pos ⟨h2,by rw[hv];exact h0⟩,hv]
 exact⟨hr,(jbj hr hW.w).2.1⟩
theorem ref_in (hW:Jb g W) {s t:Nat} {y:ju} (hy:g.L[s]?=some y) {i:Int} (h:refO g W.x (s:Nat) i=some (t:Nat)): ∃ k:Nat,(refsL W.x g.slots y (refsN W.x y).toNat)[k]?=some ((t:Nat):Int):=by
 obtain⟨_,_,h3,h4⟩:=jbj h hW.w
 rw[JF hy] at h4;refine⟨i.toNat,?_⟩;unfold refsL;rw[List.getElem?_map,List.getElem?_range (by omega)]
 have he:refO g W.x (s:Nat) i=some (refP W.x g.slots y i).1:=by
  unfold refO at h⊢;rw[JF hy] at h⊢
  split at h
  ·rename_i hc;rw [if_pos hc]
  ·cases h
 rw[h] at he
 have:=Option.some.inj he
 simp only[Option.map_some];rw[show((i.toNat:Nat):Int)=i by omega,←this]
end
end Go.Proofs.YtldomapkmopomaaGreatDoor.Sw
