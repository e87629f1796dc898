/-The walker and the contracts that the law needs,part 28. -/
import Derived.Test.YtpcgafhgfjlkmaaGreatDoorD1
import Derived.ArgAppend
import Derived.ChangeMaps5
import Derived.Deep.Fields
import Derived.Deep.LoopGhost
import Derived.Deep.OwnRows
import Derived.Deep.Quiet
import Derived.Deep.Slices
import Derived.IntWalk
import Derived.Laws.Cells
import Derived.Laws.CopyOwn
import Derived.Laws.Externs
import Derived.Laws.FloatArith
import Derived.Laws.IdiomStrings
import Derived.Laws.NewFold
import Derived.Laws.StructEq
import Derived.Lib.BitFns
import Derived.Lib.Hide
import Derived.Lib.SmallJoins
import Derived.Lib.TrailingZeros
import Derived.Maps.RangeRun
import Derived.OrdersIn
import Derived.ProofKit
import Derived.RangeFuncBound
import Derived.RangeFuncCalls
import Derived.RangeFuncLeaves
import Derived.RangeFuncNested
import Derived.RecoverIn
import Derived.Shelf.Bits.Mul64
import Derived.Shelf.Slices.Turned
import Derived.Shelf.Spec.TrailingZeros
import Derived.Shelf.Strconv.Itoa0
import Derived.SizedLaws
import Derived.Sort.BigQuietIn
import Derived.StillTailTactics
import Derived.Test.YtpcgafhgfjlkmaaGreatDoorProg
import Derived.WalkKit
import Derived.Test.YtpcgafhgfjlkmaaGreatDoorJ26
import Derived.Test.YtpcgafhgfjlkmaaGreatDoorJ27
set_option linter.unusedVariables false set_option linter.unusedSimpArgs false set_option linter.unusedVariables false
set_option linter.unusedSimpArgs false
namespace Go.Proofs.YtpcgafhgfjlkmaaGreatDoor.Sw
set_option maxHeartbeats 8000000
open Go.Proofs.YtpcgafhgfjlkmaaGreatDoor renaming lo → qL, hi → qH
open Go.RowKit
set_option maxRecDepth 10000
theorem tot1_K {w0:World} {F:jb} {c:Cfg} {vc vt:Value} {b1 i:Nat} (hR:Jo w0 F c vc vt) (hc:jX c=true) (hi:i<c.tn.length):
  Call Tryz.prog w0 121 [.int .i64 (i:Nat), .pointer (some ⟨b1,0,none⟩)] ((b1,cells (jT c vc vt) 25)::F)
   (fun r H'=>r= .int .i64 (wordsP c (i:Nat))∧H'=(b1,cells (jT c vc vt) 25)::F):=by
 have hc0:=fun A (hp:Part A F)=>jhZ (hR.part hp) hc hi
 obtain⟨hS,hT',o1,o2,l1,l2⟩:=hR
 obtain⟨p,hp⟩: ∃ p,p=wordsP c (i:Nat):=⟨_,rfl⟩
 rw[←hp] at hc0⊢
 obtain⟨cl,page,tn,workers,grey,gens⟩:=c
 dsimp only at hS hT' l1 l2 hc0⊢;simp only[jw,jT] at hc0⊢;refine Call.enter2 (n:=7) (by rfl) Tryz.func121 rfl rfl rfl ?_;refine z7 ?_;refine zb3 ?_;refine zbJ ?_;exact zt
theorem base1_K {w0:World} {F:jb} {c:Cfg} {vc vt:Value} {b1 i:Nat} (hR:Jo w0 F c vc vt) (hc:jX c=true) (hi:i<c.tn.length):
  Call Tryz.prog w0 124 [.int .i64 (i:Nat), .pointer (some ⟨b1,0,none⟩)] ((b1,cells (jT c vc vt) 25)::F)
   (fun r H'=>r= .int .i64 (wordsP c (i:Nat))∧H'=(b1,cells (jT c vc vt) 25)::F):=by
 have hc0:=fun A (hp:Part A F)=>jhZ (hR.part hp) hc hi
 obtain⟨hS,hT',o1,o2,l1,l2⟩:=hR
 obtain⟨p,hp⟩: ∃ p,p=wordsP c (i:Nat):=⟨_,rfl⟩
 rw[←hp] at hc0⊢
 obtain⟨cl,page,tn,workers,grey,gens⟩:=c
 dsimp only at hS hT' l1 l2 hc0⊢;simp only[jw,jT] at hc0⊢;refine Call.enter2 (n:=7) (by rfl) Tryz.func124 rfl rfl rfl ?_;refine z7 ?_;refine zb3 ?_;refine zbJ ?_;exact zt
theorem jhU {w0:World} {H:jb} {c:Cfg} {vc vt:Value} {t:Int} (hR:Jo w0 H c vc vt):
  Call Tryz.prog w0 96 [jw c vc vt, .int .i64 t] H (fun r H'=>r=prV (jaw c t)∧H'=H):=by
 have hc0:=fun A (hp:Part A H)=>jh2 (t:=t) (k:=0) (hR.part hp)
 have hw:=fun A (hp:Part A H) (i:Nat) (hc:jX c=true) (hi:i<c.tn.length)=>jhZ (hR.part hp) hc hi
 obtain⟨hS,hT',o1,o2,l1,l2⟩:=hR
 cases ht:j9 c t 0 with
 |false=>
  have he:jaw c t=(0,2):=by grind[jaw]
  rw[ht] at hc0;rw[he];clear hw
  obtain⟨cl,page,tn,workers,grey,gens⟩:=c
  dsimp only at hS hT' l1 l2 he;simp only[jw,jT] at hc0⊢;refine Call.enter2 (n:=13) (by rfl) Tryz.func96 rfl rfl rfl ?_;refine zeg ?_;intro b2;refine zbJ ?_;exact zfB
 |true=>
  obtain⟨i,j,x,y,rfl,_,hx,hy,ok⟩:=jbQ ht
  have hil:=jx hx
  have hcp:jX c=true:=by grind[j9]
  have he:jaw c (i:Nat)=(wordsP c (i:Nat),0):=by grind[jaw]
  have hw':=fun A hp=>hw A hp i hcp hil
  clear hw;rw[ht] at hc0;rw[he]
  obtain⟨p,hp⟩: ∃ p,p=wordsP c (i:Nat):=⟨_,rfl⟩
  rw[←hp] at hw'⊢
  obtain⟨cl,page,tn,workers,grey,gens⟩:=c
  dsimp only at hS hT' l1 l2 he hx hy hil;simp only[jw,jT] at hc0 hw'⊢;refine Call.enter2 (n:=13) (by rfl) Tryz.func96 rfl rfl rfl ?_;refine zeg ?_;intro b2;refine zbJ ?_;refine zeX ?_;refine zb3 ?_;refine jq (hw' _ ja) ?_;exact zb8
theorem Total_K {w0:World} {H:jb} {c:Cfg} {vc vt:Value} (hR:Jo w0 H c vc vt):
  Call Tryz.prog w0 84 [jw c vc vt] H (fun r H'=>r=prV (totalP c)∧H'=H):=by
 have hc0:=fun A (hp:Part A H)=>jiQ (hR.part hp)
 cases hc:jX c with
 |false=>
  have he:totalP c=(0,2):=by grind[totalP]
  rw[hc] at hc0;rw[he];simp only[jbe,Bool.false_eq_true,if_false] at hc0
  obtain⟨hS,hT',o1,o2,l1,l2⟩:=hR
  obtain⟨cl,page,tn,workers,grey,gens⟩:=c
  dsimp only at hS hT' l1 l2 he;simp only[jw,jT] at hc0⊢;refine Call.enter1 (n:=14) (by rfl) Tryz.func84 rfl rfl rfl ?_;refine zcj ?_;intro b1;refine zbx ?_;refine zbJ ?_;refine zcA ?_;refine zdy ?_;exact zaT
 |true=>
  have hok:=(ja2 hc).tn
  have he:totalP c=(sumN (fun i=>wordsP c (i:Nat)) c.tn.length,0):=by grind[totalP]
  have hc1:=fun k b1 (hk:k<c.tn.length)=>tot1_K (b1:=b1) hR hc hk
  have hB:=fun k (hk:k<c.tn.length)=>jeJ hc hk
  rw[hc] at hc0;rw[he];simp only[jbe,if_true] at hc0
  obtain⟨f,hf⟩: ∃ f:Nat→Int,f=fun i=>wordsP c (i:Nat):=⟨_,rfl⟩
  have hfi: ∀ i,wordsP c (i:Nat)=f i:=fun i=>by grind
  rw[←hf];simp only[hfi] at hB hc1
  obtain⟨hS,hT',o1,o2,l1,l2⟩:=hR
  obtain⟨cl,page,tn,workers,grey,gens⟩:=c
  dsimp only at hS hT' l1 l2 he hok hB hc1⊢;simp only[jw,jT] at hc0 hc1⊢;refine Call.enter1 (n:=14) (by rfl) Tryz.func84 rfl rfl rfl ?_;refine zcj ?_;intro b1;refine zbx ?_;refine zbJ ?_;refine zdt ?_;refine zz ?_;refine zI ?_;refine zaJ fun T hT=>?_;refine(CallV.part (CallV.fn (sumT_K (H:=(b1,cells [vc, .int .i64 page,vt, .int .i64 workers, .int .i64 grey, .int .i64 gens] 25)::H) (l:=tn) (f:=f) (hT'.part ja) hok.2 (fun k hk=>hB k hk) ?_)) ja).mono ?_
  ·grind[CallV.clo]
  ·rintro _ _ ⟨rfl,rfl⟩;refine zd ?_;clear hT T;exact zb8
set_option maxRecDepth 10000
structure RrS where
 k:Nat
theorem jfq {w0:World} {H:jb} {c:Cfg} {vc vt:Value} {t:Int} (hR:Jo w0 H c vc vt):
  Call Tryz.prog w0 57 [jw c vc vt, .int .i64 t] H (fun r H'=>r=prV (jaw c t)∧H'=H):=by
 have hc0:=fun A (hp:Part A H)=>jhs (t:=t) (k:=0) (hR.part hp)
 cases ht:j9 c t 0 with
 |false=>
  obtain⟨hS,hT',o1,o2,l1,l2⟩:=hR
  have he:jaw c t=(0,2):=by grind[jaw]
  rw[ht] at hc0;rw[he]
  obtain⟨cl,page,tn,workers,grey,gens⟩:=c
  dsimp only at hS hT' l1 l2 he;simp only[jw,jT] at hc0⊢;refine Call.enter2 (n:=35) (by rfl) Tryz.func57 rfl rfl rfl ?_;refine zeg ?_;intro b2;refine zbJ ?_;exact zfB
 |true=>
  obtain⟨i,j,x,y,rfl,_,hx,hy,ok⟩:=jbQ ht
  have hil:=jx hx
  have hcp:jX c=true:=by grind[j9]
  have hok:=ok.cl
  have he:jaw c (i:Nat)=(sumN (pwP c (i:Nat)) c.cl.length,0):=by grind[jaw,wordsP]
  have hpg:=fun A (hp:Part A H) (k:Nat)=>rPages_K (t:=(i:Nat)) (k:=(k:Nat)) (hR.part hp)
  have hB:=fun k (hk:k<c.cl.length)=>pw_le (jb4 hcp hil hk)
  have hz:=fun k (hk:k<c.cl.length)=>(jhA (jb4 hcp hil hk)).2.2
  have hpwd: ∀ k,(pagesP c (i:Nat) ((k:Nat):Int)).1*c.page=pwP c (i:Nat) k:=fun k=>rfl
  obtain⟨hS,hT',o1,o2,l1,l2⟩:=hR
  rw[ht] at hc0;rw[he]
  obtain⟨f,hf⟩: ∃ f,f=pwP c (i:Nat):=⟨_,rfl⟩
  obtain⟨g,hg⟩: ∃ g:Nat→Int × Int,g=fun k=>pagesP c (i:Nat) ((k:Nat):Int):=⟨_,rfl⟩
  have hgk: ∀ k:Nat,pagesP c (i:Nat) ((k:Nat):Int)=g k:=fun k=>by grind
  rw[←hf] at hB hpwd⊢;simp only[hgk] at hpg hz hpwd;clear hg hgk hf he
  obtain⟨cl,page,tn,workers,grey,gens⟩:=c
  dsimp only at hS hT' l1 l2 hok hB hz hpwd hil⊢;simp only[jw,jT,prV] at hc0 hpg⊢;refine Call.enter2 (n:=35) (by rfl) Tryz.func57 rfl rfl rfl ?_;refine zeg ?_;intro b2;refine zbJ ?_;refine zeX ?_;refine zcn ?_;refine K.loopT (σ:=RrS) [(1,_),(2,_)] (fun s kp_=>(7, .int .i64 (s.k:Nat))::(6, .int .i64 (sumN f s.k))::kp_) (fun s=>(b2,cells [vc, .int .i64 page,vt, .int .i64 workers, .int .i64 grey, .int .i64 gens] 25)::H) (fun s=>s.k≤cl.length) (fun s=>cl.length-s.k) (⟨0⟩) jj ja ((by simp)) ?_;rintro⟨k⟩ hk;dsimp only at hk⊢
  by_cases hlt:k<cl.length
  ·have b1':=jcX (f:=f) (n:=k) (fun i hi=>hB i (by omega))
   have b2':=hB k hlt
   have hzk:=hz k hlt
   have hpk:=hpwd k
   have hpgk:=fun A hp=>hpg A hp k
   obtain⟨⟨p1,p2⟩,hgp⟩: ∃ p,p=g k:=⟨_,rfl⟩
   rw[←hgp] at hzk hpk;simp only[←hgp] at hpgk;dsimp only at hzk hpk hpgk;subst hzk
   obtain⟨a,ha⟩: ∃ a,a=sumN f k:=⟨_,rfl⟩
   have hs:sumN f (k+1)=a+p1*page:=by rw[ha,hpk];rfl
   rw[←hpk] at b2';rw[←ha] at b1'⊢;refine zcY ?_;refine zce ?_;refine zbc ?_;refine zcG ?_;refine jq (hpgk _ ja) ?_;refine zcw ?_;refine za0 ?_;refine zm ?_;refine zF ?_;refine zg6 ?_;refine zea ?_;refine zbL ?_;refine ze ?_;refine zea ?_;rw[←hs];exact zi7
  ·have hke:k=cl.length:=by omega
   subst hke;refine zcY ?_;refine zcV ?_;refine zbe ?_;exact zt
set_option maxRecDepth 10000
structure RbS where
 k:Nat
theorem jjn {c:Cfg} {i:Nat} (hc:jX c=true) (hi:i<c.tn.length):jaw c ((i:Nat):Int)=(wordsP c (i:Nat),0):=by
 have h:=jb4 (j:=0) hc hi (by have:=(ja2 hc).cl;omega)
 grind[j9,jaw]
theorem jis {c:Cfg} {i:Nat} (hc:jX c=true) (hi:i<c.tn.length):jbH c ((i:Nat):Int)=(sumN (fun i=>wordsP c (i:Nat)) i,0):=by
 have h:=jb4 (j:=0) hc hi (by have:=(ja2 hc).cl;omega)
 grind[j9,jbH]
theorem rBase_K {w0:World} {H:jb} {c:Cfg} {vc vt:Value} {t:Int} (hR:Jo w0 H c vc vt):
  Call Tryz.prog w0 117 [jw c vc vt, .int .i64 t] H (fun r H'=>r=prV (jbH c t)∧H'=H):=by
 have hc0:=fun A (hp:Part A H)=>jhs (t:=t) (k:=0) (hR.part hp)
 cases ht:j9 c t 0 with
 |false=>
  obtain⟨hS,hT',o1,o2,l1,l2⟩:=hR
  have he:jbH c t=(0,2):=by grind[jbH]
  rw[ht] at hc0;rw[he]
  obtain⟨cl,page,tn,workers,grey,gens⟩:=c
  dsimp only at hS hT' l1 l2 he;simp only[jw,jT] at hc0⊢;refine Call.enter2 (n:=29) (by rfl) Tryz.func117 rfl rfl rfl ?_;refine zeg ?_;intro b2;refine zbJ ?_;exact zfB
 |true=>
  obtain⟨i,j,x,y,rfl,_,hx,hy,ok⟩:=jbQ ht
  have hil:=jx hx
  have hcp:jX c=true:=by grind[j9]
  have hok:=ok.tn
  have he:=jis hcp hil
  have hpg:=fun A (hp:Part A H) (k:Nat) (hk:k<c.tn.length)=>(jjn hcp hk)▸jfq (t:=(k:Nat)) (hR.part hp)
  have hB:=fun k (hk:k<c.tn.length)=>jeJ hcp hk
  obtain⟨hS,hT',o1,o2,l1,l2⟩:=hR
  rw[ht] at hc0;rw[he]
  obtain⟨f,hf⟩: ∃ f:Nat→Int,f=fun i=>wordsP c (i:Nat):=⟨_,rfl⟩
  have hfi: ∀ i,wordsP c (i:Nat)=f i:=fun i=>by grind
  rw[←hf];simp only[hfi] at hB hpg;clear hf hfi he
  obtain⟨cl,page,tn,workers,grey,gens⟩:=c
  dsimp only at hS hT' l1 l2 hok hB hil hpg⊢;simp only[jw,jT,prV] at hc0 hpg⊢;refine Call.enter2 (n:=29) (by rfl) Tryz.func117 rfl rfl rfl ?_;refine zeg ?_;intro b2;refine zbJ ?_;refine zeX ?_;refine zcn ?_;refine K.loopT (σ:=RbS) [(1,_),(2,_)] (fun s kp_=>(7, .int .i64 (s.k:Nat))::(6, .int .i64 (sumN f s.k))::kp_) (fun s=>(b2,cells [vc, .int .i64 page,vt, .int .i64 workers, .int .i64 grey, .int .i64 gens] 25)::H) (fun s=>s.k≤i) (fun s=>i-s.k) (⟨0⟩) jj ja ((by simp)) ?_;rintro⟨k⟩ hk;dsimp only at hk⊢
  by_cases hlt:k<i
  ·have b1':=jcX (f:=f) (n:=k) (fun i hi=>hB i (by omega))
   have b2':=hB k (by omega)
   have hpgk:=fun A hp=>hpg A hp k (by omega)
   obtain⟨a,ha⟩: ∃ a,a=sumN f k:=⟨_,rfl⟩
   obtain⟨b,hb⟩: ∃ b,b=f k:=⟨_,rfl⟩
   have hs:sumN f (k+1)=a+b:=by rw[ha,hb];rfl
   rw[←hb] at b2';simp only[←hb] at hpgk;rw[←ha] at b1'⊢;refine za4 ?_;refine zab ?_;refine zbc ?_;refine zb3 ?_;refine jq (hpgk _ ja) ?_;refine zcw ?_;refine za0 ?_;refine zm ?_;refine zea ?_;refine zbL ?_;refine ze ?_;refine zea ?_;rw[←hs];exact zi7
  ·have hke:k=i:=by omega
   subst hke;refine za4 ?_;refine zT ?_;refine zdh ?_;refine zbe ?_;exact zt
open Go.RowKit
set_option maxRecDepth 10000
theorem rTotal_K {w0:World} {H:jb} {c:Cfg} {vc vt:Value} (hR:Jo w0 H c vc vt):
  Call Tryz.prog w0 81 [jw c vc vt] H (fun r H'=>r=prV (totalP c)∧H'=H):=by
 have hb0:=fun A (hp:Part A H)=>rBase_K (t:=(c.tn.length:Nat)-1) (hR.part hp)
 have hr0:=fun A (hp:Part A H)=>jfq (t:=(c.tn.length:Nat)-1) (hR.part hp)
 cases hc:jX c with
 |false=>
  obtain⟨hS,hT',o1,o2,l1,l2⟩:=hR
  have he:totalP c=(0,2):=by grind[totalP]
  have hb:jbH c ((c.tn.length:Nat)-1)=(0,2):=by grind[jbH,j9]
  rw[hb] at hb0;rw[he];clear hr0 hb
  obtain⟨cl,page,tn,workers,grey,gens⟩:=c
  dsimp only at hS hT' l1 l2 he hb0;simp only[jw,jT,prV] at hb0⊢;refine Call.enter1 (n:=32) (by rfl) Tryz.func81 rfl rfl rfl ?_;refine zeh ?_;intro b1;refine z3 ?_;refine zI ?_;refine zad ?_;refine zdM ?_;refine zn ?_;refine jq (hb0 _ ja) ?_;refine zaM ?_;refine zdy ?_;exact zaT
 |true=>
  have hok:=(ja2 hc).tn
  obtain⟨m,hm⟩: ∃ m,c.tn.length=m+1:=⟨c.tn.length-1,by omega⟩
  have hml:m<c.tn.length:=by omega
  have hmi:((c.tn.length:Nat):Int)-1=(m:Nat):=by omega
  have hb:jbH c ((c.tn.length:Nat)-1)=(sumN (fun i=>wordsP c (i:Nat)) m,0):=by grind[jis]
  have hr:jaw c ((c.tn.length:Nat)-1)=(wordsP c (m:Nat),0):=by grind[jjn]
  have hB:=fun k (hk:k<c.tn.length)=>jeJ hc hk
  have he:totalP c=(sumN (fun i=>wordsP c (i:Nat)) m+wordsP c (m:Nat),0):=by simp only[totalP,hc,if_true,hm];rfl
  have hb1:=jcX (f:=fun i=>wordsP c (i:Nat)) (n:=m) (fun k hk=>hB k (by omega))
  have hb2:=hB m hml
  rw[hb] at hb0;rw[hr] at hr0;rw[he]
  obtain⟨a,ha⟩: ∃ a,a=sumN (fun i=>wordsP c (i:Nat)) m:=⟨_,rfl⟩
  obtain⟨b,hb'⟩: ∃ b,b=wordsP c (m:Nat):=⟨_,rfl⟩
  rw[←ha] at hb0 hb1⊢;rw[←hb'] at hr0 hb2⊢;clear ha hb' hb hr he hB
  obtain⟨hS,hT',o1,o2,l1,l2⟩:=hR
  obtain⟨cl,page,tn,workers,grey,gens⟩:=c
  dsimp only at hS hT' l1 l2 hok hb0 hr0 hm hml hmi⊢;simp only[jw,jT,prV] at hb0 hr0⊢;refine Call.enter1 (n:=32) (by rfl) Tryz.func81 rfl rfl rfl ?_;refine zeh ?_;intro b1;refine z3 ?_;refine zI ?_;refine zad ?_;refine zdM ?_;refine zn ?_;refine jq (hb0 _ ja) ?_;refine zbA ?_;refine zz ?_;refine z3 ?_;refine zI ?_;refine zad ?_;refine zdM ?_;refine zn ?_;refine jq (hr0 _ ja) ?_;refine zQ ?_;refine zm ?_;refine zal ?_;exact zb8
set_option maxRecDepth 10000
theorem Of0_K {w0:World} {F:jb} {p:jQ} {k:Nat} (ok:J6 p) (hk:k<p.g.m):
  Call Tryz.prog w0 234 [.pointer (some ⟨p.b,0,none⟩), .int .i64 (k:Nat)] (planH p++F) (fun r H'=>r= .tuple [.int .i64 (p.g.first k:Nat), .int .i64 (p.g.n k:Nat), .int .i64 0].toArray∧H'=planH p++F):=by
 have ho:=ok.o
 have hpl:p.g.parts.length=p.g.m:=jcL
 have hkl:k<p.g.parts.length:=by omega
 have hge: ¬((k:Nat):Int)≥((p.g.parts.length:Nat):Int):=by omega
 have hx:p.g.parts[k]?=some (p.g.pt k):=jdj hk
 refine Call.enter2 (n:=38) (by rfl) Tryz.func234 rfl rfl rfl ?_;refine zae ?_;refine zch ?_;refine zaP ?_;refine zgv ?_;simp only[jO];refine zbk ?_;refine zci ?_;refine zaq ?_;refine zfC ?_;refine zdd ?_;refine za1 ?_;refine K.drawn [] [(0,0),(1,0),(2,0),(3,0),(4,0),(5,0),(6,0),(7,0),(8,0),(9,0),(10,0),(11,0),(12,0),(13,0),(14,0),(15,0),(16,0),(17,0),(18,0)] (by rfl) (by rfl) (by kernel_rfl) (by rfl) (by rfl) (by rfl) Part.nil ?_;refine zfJ ?_;refine zbP ?_;refine KD.v0 rfl rfl (Val.fieldSl (k:=1) rfl rfl) ?_;refine zhQ ?_;refine zfJ ?_;refine zbP ?_;refine zjf ?_;refine zhQ ?_;refine zgu ?_;refine zfL ?_;exact zdP
theorem Of0_E {w0:World} {F:jb} {p:jQ} {k:Int} (ok:J6 p) (hk: ¬(0≤k∧k<(p.g.m:Nat))):
  Call Tryz.prog w0 234 [.pointer (some ⟨p.b,0,none⟩), .int .i64 k] (planH p++F) (fun r H'=>r= .tuple [.int .i64 0, .int .i64 0, .int .i64 2].toArray∧H'=planH p++F):=by
 have ho:=ok.o
 have hpl:p.g.parts.length=p.g.m:=jcL
 refine Call.enter2 (n:=38) (by rfl) Tryz.func234 rfl rfl rfl ?_
 by_cases h0:k<0
 ·refine zgR ?_;refine zch ?_;refine zk ?_;refine zaP ?_;refine zgv ?_;simp only[jO];refine zdg ?_;refine zab ?_;refine zfy ?_;refine zk ?_;refine zac ?_;refine zch ?_;refine zd0 ?_;exact zdP
 ·have hge:k≥((p.g.parts.length:Nat):Int):=by omega
  refine zae ?_;refine zch ?_;refine zaP ?_;refine zgv ?_;simp only[jO];refine zbk ?_;refine zci ?_;refine zaq ?_;refine zbp ?_;refine zgo ?_;refine zk ?_;refine zac ?_;refine zch ?_;refine zd0 ?_;exact zdP
def jbw (g:PlG) (k:Nat):List jeu:=(List.range k).map g.pt
theorem pts_succ (g:PlG) (k:Nat):jbw g k++ [g.pt k]=jbw g (k+1):=by simp[jbw,List.range_succ]
theorem pts_len (g:PlG) (k:Nat):(jbw g k).length=k:=by simp[jbw]
structure NwS where
 k:Nat
 o:Own
theorem pNew_K {w0:World} {F:jb} {c:Cfg} {vc vt:Value} {t:Int} (hR:Jo w0 F c vc vt) (ht:j9 c t 0=true):
  Call Tryz.prog w0 97 [jw c vc vt, .int .i64 t] F (fun r H'=> ∃ p:jQ,J6 p∧p.g=gOf c t∧r= .tuple [.pointer (some ⟨p.b,0,none⟩), .int .i64 0].toArray∧H'=planH p++F):=by
 have ga:=g_at ht
 obtain⟨g,hg⟩: ∃ g,g=gOf c t:=⟨_,rfl⟩
 rw[←hg] at ga⊢
 have hreg:=fun A (hp:Part A F)=>jhU (t:=t) (hR.part hp)
 have hsl:=fun A (k:Nat) (hp:Part A F)=>Slots_K (t:=t) (k:=(k:Nat)) (hR.part hp)
 have hpg:=fun A (k:Nat) (hp:Part A F)=>Pages_K (t:=t) (k:=(k:Nat)) (hR.part hp)
 rw[ga.region] at hreg
 have ok:=ga.ok
 have hm:=ok.m
 have hgm:=ga.m
 have hgy:=ga.y
 have hgs:=ga.slots
 have hgp:=ga.pages
 have hgpg:=ga.page
 have hpgl:=ok.pg
 obtain⟨hS,hT',o1,o2,l1,l2⟩:=hR
 obtain⟨cl,page,tn,workers,grey,gens⟩:=c
 dsimp only at hS hT' l1 l2 hgm hgy hgpg;simp only[jw,jT] at hreg hsl hpg⊢;subst hgpg;simp only[prV] at hreg hsl hpg;clear ga hg ht
 have f0:g.first 0=0:=rfl
 have q0:g.page 0=0:=rfl
 refine Call.enter2 (n:=92) (by kernel_rfl) Tryz.func97 rfl rfl rfl ?_;refine zeg ?_;intro b2;refine jq (hreg _ ja) ?_;refine zQ ?_;refine zcv ?_;refine zz ?_;refine zF ?_;refine zei ?_;intro b27;refine zX ?_;refine zB ?_;refine zad ?_;refine zcH ?_;refine K.loopT (σ:=NwS) [(1,_),(2,_),(8,_),(29,_),(30,_)] (fun s kp_=>(31, .int .i64 (s.k:Nat))::kp_) (fun s=>(b27,cells [oV s.o (jbw g s.k).length, .int .i64 (g.first s.k:Nat), .int .i64 (g.page s.k:Nat), .int .i64 (g.pg:Nat)] 189)::(oH jdQ 202 (jbw g s.k) s.o++((b2,cells [vc, .int .i64 (g.pg:Nat),vt, .int .i64 workers, .int .i64 grey, .int .i64 gens] 25)::F))) (fun s=>s.k≤g.m∧oOk jdQ (jbw g s.k) s.o) (fun s=>g.m-s.k) (⟨0,none⟩) jj ja (⟨Nat.zero_le _,rfl⟩) ?_;rintro⟨k,o⟩ ⟨hk,hok⟩;dsimp only at hk hok⊢
 by_cases hlt:k<g.m
 ·obtain⟨y,hy⟩:=jA (l:=cl) (k:=k) (by omega)
  have hyk:=hgy k y hy
  subst hyk
  have hkl:k<cl.length:=by omega
  have hsl1:=fun A hp=>hsl A k hp
  have hpg1:=fun A hp=>hpg A k hp
  rw[hgs k hlt] at hsl1;rw[hgp k hlt] at hpg1
  have y1:=ok.y k hlt
  have hper:((g.pg:Nat):Int)/((g.y k:Nat):Int)=((g.per k:Nat):Int):=rfl
  have b1:=ok.first (show k≤g.m by omega)
  have b2':=ok.page (show k≤g.m by omega)
  have b3:=ok.n hlt
  have b4:=ok.pgs hlt
  have e1:((g.first k:Nat):Int)+((g.n k:Nat):Int)=((g.first (k+1):Nat):Int):=rfl
  have e2:((g.page k:Nat):Int)+((g.pgs k:Nat):Int)=((g.page (k+1):Nat):Int):=rfl
  have hptl:=pts_len g k
  have hptb:(jbw g (k+1)).length≤4294967296:=by rw[pts_len];omega
  dsimp only at hsl1 hpg1;clear hsl hpg hgs hgp hgy;refine zaN ?_;refine zcP ?_;refine z8 ?_;refine zk ?_;refine zu ?_;refine zcG ?_;refine jq (hsl1 _ ja) ?_;refine zQ ?_;refine zcG ?_;refine jq (hpg1 _ ja) ?_;refine zcw ?_;refine zcW ?_
  (first|refine K.seq (K.drawn ((b27,cells [oV o (jbw g k).length, .int .i64 (g.first k:Nat), .int .i64 (g.page k:Nat), .int .i64 (g.pg:Nat)] 189)::[]) [(0,1),(1,1),(2,1),(3,1),(4,1),(5,0),(6,0),(7,0),(8,0),(9,0),(10,0),(11,0),(12,0),(13,0),(14,0),(15,0),(16,0),(17,0),(18,0),(19,0),(20,2),(21,2),(22,0),(23,0),(24,4)] (by kernel_rfl) (by kernel_rfl) (by kernel_rfl) (by kernel_rfl) (by kernel_rfl) (by kernel_rfl) ja ?_)|refine K.seq (K.seq (K.drawn ((b27,cells [oV o (jbw g k).length, .int .i64 (g.first k:Nat), .int .i64 (g.page k:Nat), .int .i64 (g.pg:Nat)] 189)::[]) [(0,1),(1,1),(2,1),(3,1),(4,1),(5,0),(6,0),(7,0),(8,0),(9,0),(10,0),(11,0),(12,0),(13,0),(14,0),(15,0),(16,0),(17,0),(18,0),(19,0),(20,2),(21,2),(22,0),(23,0),(24,4)] (by kernel_rfl) (by kernel_rfl) (by kernel_rfl) (by kernel_rfl) (by kernel_rfl) (by kernel_rfl) ja ?_))|refine K.drawn ((b27,cells [oV o (jbw g k).length, .int .i64 (g.first k:Nat), .int .i64 (g.page k:Nat), .int .i64 (g.pg:Nat)] 189)::[]) [(0,1),(1,1),(2,1),(3,1),(4,1),(5,0),(6,0),(7,0),(8,0),(9,0),(10,0),(11,0),(12,0),(13,0),(14,0),(15,0),(16,0),(17,0),(18,0),(19,0),(20,2),(21,2),(22,0),(23,0),(24,4)] (by kernel_rfl) (by kernel_rfl) (by kernel_rfl) (by kernel_rfl) (by kernel_rfl) (by kernel_rfl) ja ?_)
  refine zH ?_;refine zH ?_;refine zdT ?_;refine zcU ?_;refine zeP ?_;refine zhe ?_;refine zS ?_;refine zeP ?_;refine zdU ?_;refine zS ?_;refine zhe ?_;refine zeJ ?_
  (first|refine KD.v0 rfl rfl (Val.quoN rfl rfl (by simp only[qH];omega)) ?_|refine KD.v0 rfl rfl (Val.quo rfl rfl (by omega)) ?_)
  refine zhJ ?_;refine zh3 ?_;intro b70;refine zbQ ?_
  -- STOP at region 10 op 21: {"h": "Op.call", "a": [{"callee": {"h": "Callee.builtin", "a": ["Builtin.append"]}, "args": [{"h": "Operand.tmp", "a": [54]}, {"h": "Operand.tmp", "a": [70]}], "argTypes": [187, 187]}]}
  refine KD.e rfl rfl (Eff.appZ (E:=jdQ) (xs:=jbw g k) (o:=o) (ys:=[g.pt k]) (zs:=jbw g (k+1)) rfl rfl rfl rfl rfl rfl jn (by assumption) (by first|exact Sli.blk jF rfl (by first|decide|simp) (by first|decide|(unfold maxLen;omega)) rfl|exact Sli.old (by assumption)|exact Sli.own jn (by assumption) j6|assumption|exact Sli.part (by assumption) ja) (pts_succ g k) (by first|assumption|omega|(simp<;>fail)|(simp;omega)) rfl) ?_;rintro _ _ ⟨o',ok',rfl,rfl⟩;refine⟨ja,?_⟩;refine zbd ?_;refine zfa ?_;refine zjg ?_;refine zeS ?_;refine zK ?_;refine zF ?_;refine zbZ ?_;refine zaQ ?_;refine zhF ?_;refine zO ?_;refine za0 ?_;refine zK ?_;refine zI ?_;refine zbZ ?_;refine zaQ ?_;refine zbn ?_;refine zO ?_;refine zN ?_;refine zcS ?_;rw[e1,e2];exact KE.again ⟨k+1,o'⟩ jj ja ⟨hlt,ok'⟩ (by show g.m-(k+1)<g.m-k;omega)
 ·have hke:k=g.m:=by omega
  subst hke;refine zeR ?_;refine zbl ?_;exact KE.fin (H':=planH ⟨b27,g,o⟩++F) je rfl jd (by rw[jO];exact ja) ⟨⟨b27,g,o⟩,⟨ok,hok⟩,rfl,rfl,rfl⟩
set_option maxRecDepth 10000
theorem jl6 {A:List Bool} {f m:Nat}:jbr A f m=match nextB A f false with
  |some i=>if i<f+m then some i else none
  |none=>none:=by
 grind[nextB,hi,free_no,h1,h2,h3,jx,jcV,free_is]
theorem Take_K {w0:World} {F:jb} {a:ArM} {p:jQ} {k:Int} (hG:js w0) (ok:jah a p):
  Call Tryz.prog w0 183 [.pointer (some ⟨a.b,0,none⟩), .int .i64 k] (jW a p++(planH p++F)) (fun r H'=>r= .tuple [.int .i64 (takeP p.g a.r.bs k).1, .int .i64 (takeP p.g a.r.bs k).2.1].toArray∧ ∃ a':ArM,jah a' p∧a'.b=a.b∧a'.r.b=a.r.b∧a'.r.bs=(takeP p.g a.r.bs k).2.2∧H'=jW a' p++(planH p++F)):=by
 have okr:=ok.r
 have okp:=ok.pl
 by_cases hk:0≤k∧k<(p.g.m:Nat)
 ·obtain⟨k,rfl⟩: ∃ q:Nat,k=q:=⟨k.toNat,by omega⟩
  have hkm:k<p.g.m:=by omega
  have hfi:=okp.g.first (Nat.le_of_lt hkm)
  have hni:=okp.g.n hkm
  have htk:takeP p.g a.r.bs (k:Nat)=match jbr a.r.bs (p.g.first k) (p.g.n k) with|some i=>((i:Nat),0,a.r.bs.set i true)|none=>(0,6,a.r.bs):=by
   grind[takeP]
  have hsum:((p.g.first k:Nat):Int)+((p.g.n k:Nat):Int)=((p.g.first k+p.g.n k:Nat):Int):=by omega
  refine Call.enter2 (n:=49) (by rfl) Tryz.func183 rfl rfl rfl ?_;refine zcj ?_;intro b2;refine zV ?_;refine ji (jea (a:=a) (p:=p)) ja ?_;rw[arenaH_app];refine zz ?_;refine zec ?_;refine zo ?_;refine ji (Of0_K okp hkm) ja ?_;refine za9 ?_;refine zdB ?_;refine zz ?_;refine zb2 ?_;refine zF ?_;refine zx fun T hT=>?_;refine(CallV.part (CallV.fn (jgu (k:=p.g.first k) (v:=false) okr hG (by omega))) ja).mono ?_;rintro _ _ ⟨rfl,rfl⟩;rw[jl6] at htk
  cases hnx:nextB a.r.bs (p.g.first k) false with
  |none=>
   rw[hnx] at htk;dsimp only at htk;unfold nxI;dsimp only[Option.isSome,Option.getD];refine zd ?_;clear hT T;rw[htk];refine zaM ?_;refine zU ?_;refine zdc ?_;refine zfZ ?_;refine zgh ?_;exact zkx
  |some i=>
   rw[hnx] at htk;dsimp only at htk;unfold nxI;dsimp only[Option.isSome,Option.getD]
   obtain⟨n1,n2,n3,n4⟩:=jcV hnx
   by_cases hin:i<p.g.first k+p.g.n k
   ·rw[if_pos hin] at htk;dsimp only at htk
    have hnge: ¬((i:Nat):Int)≥((p.g.first k:Nat):Int)+((p.g.n k:Nat):Int):=by omega
    obtain⟨x,hx⟩:=jY (g:=p.g) (i:=i) (by rw[←ok.n];exact n1)
    have hus:=jdn (v:=true) hx n1
    have hi:a.r.bs[i]?=some false:=by
     rw[List.getElem?_eq_getElem n1] at n3⊢
     simp at n3;rw [n3]
    rw[hi] at hus;simp only[Option.some.injEq,Bool.false_eq_true,if_false,if_true] at hus
    have hub:=jfE ok (a.r.bs.set i true)
    have hua:=jfE ok a.r.bs
    refine zd ?_;clear hT T;rw[htk];refine zaM ?_;refine zE ?_;refine zA ?_;refine zA ?_;refine zbT ?_;refine zdj ?_;refine zz ?_;refine zdz ?_;refine zaJ fun T hT=>?_;refine(CallV.part (CallV.fn (turn_K (F:=(b2,cells [.pointer (some ⟨a.b,0,none⟩)] 60)::F) (v:=true) (g:=237) (cap:=[.pointer (some ⟨b2,0,none⟩)]) ok hx rfl ?_)) (by first|exact ja|(simp only[Jg,jO,arenaH_app];exact ja))).mono ?_
    ·intro H' hp;refine zkl ?_
     have s1:jI w0 H' ⟨b2,0,none⟩ (.pointer (some ⟨a.b,0,none⟩)):=(jI.cell (H:=(a.b,cells [.pointer (some ⟨p.b,0,none⟩), .pointer (some ⟨a.r.b,0,none⟩), .int .i64 (usedL p.g.L a.r.bs:Nat)] 115)::(b2,cells [.pointer (some ⟨a.b,0,none⟩)] 60)::F) jF rfl).more hp
     have s2:jI w0 H' ⟨a.b,2,none⟩ (.int .i64 (usedL p.g.L a.r.bs:Nat)):=(jI.cell (H:=(a.b,cells [.pointer (some ⟨p.b,0,none⟩), .pointer (some ⟨a.r.b,0,none⟩), .int .i64 (usedL p.g.L a.r.bs:Nat)] 115)::(b2,cells [.pointer (some ⟨a.b,0,none⟩)] 60)::F) jF rfl).more hp
     have hue:((usedL p.g.L (a.r.bs.set i true):Nat):Int)=((usedL p.g.L a.r.bs:Nat):Int)+((x.size:Nat):Int):=by omega
     rw[hue];refine Call.enter2 (n:=10) (by kernel_rfl) Tryz.func237 rfl rfl rfl ?_;refine z7 ?_;refine z8 ?_;refine zaQ ?_;refine zbn ?_;refine z8 ?_;refine zbZ ?_;exact zt
    ·rintro _ _ ⟨rfl,rfl⟩;refine zd ?_;clear hT T;refine zW ?_;refine zbl ?_;exact KE.fin je rfl jd ja ⟨rfl,setA a i true,setA_ok ok i true,rfl,rfl,rfl,rfl⟩
   ·rw[if_neg hin] at htk;dsimp only at htk
    have hge:((i:Nat):Int)≥((p.g.first k:Nat):Int)+((p.g.n k:Nat):Int):=by omega
    refine zd ?_;clear hT T;rw[htk];refine zaM ?_;refine zE ?_;refine zA ?_;refine zA ?_;refine zbT ?_;refine zgo ?_;refine zgh ?_;exact zkx
 ·have htk:takeP p.g a.r.bs k=(0,2,a.r.bs):=by unfold takeP;rw [if_neg hk]
  rw[htk];refine Call.enter2 (n:=49) (by kernel_rfl) Tryz.func183 rfl rfl rfl ?_;refine zcj ?_;intro b2;refine zV ?_;refine ji (jea (a:=a) (p:=p)) ja ?_;rw[arenaH_app];refine zz ?_;refine zec ?_;refine zo ?_;refine ji (Of0_E okp hk) ja ?_;refine za9 ?_;refine z6 ?_;refine zdy ?_;refine zas ?_;exact zkx
theorem agive_K {w0:World} {F:jb} {a:ArM} {p:jQ} {i:Nat} (ok:jah a p) (hi:a.r.bs[i]?=some true):
  Call Tryz.prog w0 317 [.pointer (some ⟨a.b,0,none⟩), .int .i64 (i:Nat)] (jW a p++(planH p++F)) (fun r H'=>r= .tuple #[]∧H'=jW (setA a i false) p++(planH p++F)):=by
 have n1:=jx hi
 obtain⟨x,hx⟩:=jY (g:=p.g) (i:=i) (by rw[←ok.n];omega)
 have hus:=jdn (v:=false) hx n1
 rw[hi] at hus;simp only[Bool.false_eq_true,if_false,if_true] at hus
 have hua:=jfE ok a.r.bs
 refine Call.enter2 (n:=8) (by rfl) Tryz.func317 rfl rfl rfl ?_;refine zdV ?_;intro b2;refine za0 ?_;refine zdz ?_;refine zaJ fun T hT=>?_;refine(CallV.part (CallV.fn (turn_K (F:=(b2,cells [.pointer (some ⟨a.b,0,none⟩)] 60)::F) (v:=false) (g:=319) (cap:=[.pointer (some ⟨b2,0,none⟩)]) ok hx rfl ?_)) ja).mono ?_
 ·intro H' hp;refine zkl ?_
  have s1:jI w0 H' ⟨b2,0,none⟩ (.pointer (some ⟨a.b,0,none⟩)):=(jI.cell (H:=(a.b,cells [.pointer (some ⟨p.b,0,none⟩), .pointer (some ⟨a.r.b,0,none⟩), .int .i64 (usedL p.g.L a.r.bs:Nat)] 115)::(b2,cells [.pointer (some ⟨a.b,0,none⟩)] 60)::F) jF rfl).more hp
  have s2:jI w0 H' ⟨a.b,2,none⟩ (.int .i64 (usedL p.g.L a.r.bs:Nat)):=(jI.cell (H:=(a.b,cells [.pointer (some ⟨p.b,0,none⟩), .pointer (some ⟨a.r.b,0,none⟩), .int .i64 (usedL p.g.L a.r.bs:Nat)] 115)::(b2,cells [.pointer (some ⟨a.b,0,none⟩)] 60)::F) jF rfl).more hp
  have hue:((usedL p.g.L (a.r.bs.set i false):Nat):Int)=((usedL p.g.L a.r.bs:Nat):Int)-((x.size:Nat):Int):=by omega
  rw[hue];refine Call.enter2 (n:=10) (by rfl) Tryz.func319 rfl rfl rfl ?_;refine z7 ?_;refine z8 ?_;refine zaQ ?_;refine zbn ?_;refine z8 ?_;refine ze ?_;refine zdM ?_;exact zt
 ·rintro _ _ ⟨rfl,rfl⟩;refine zd ?_;clear hT T;refine zN ?_;exact zi4
open Go.RowKit
set_option maxRecDepth 10000
def arK (a:ArM) (D:List Bool) (k:Nat):ArM:=⟨a.b,⟨a.r.b,jcn a.r.bs D k,a.r.o⟩⟩
theorem jkP (a:ArM) (D:List Bool):arK a D 0=a:=by unfold arK;rw [jma]
theorem arK_next {a:ArM} {D:List Bool} {k i:Nat} (hl:D.length=a.r.bs.length) (h:nextB D k true=some i):setA (arK a D k) i false=arK a D (i+1):=by
 grind[setA,arK,Jx,jmb]
def GaJ (l D:Nat) (rc:Rec) (b2 b4:Nat) (a:ArM) (p:jQ) (bs:List Bool) (k:Nat) (A:jb):Prop:=
 A=(l, .loop (rc .ready none))::(D, .deferred (some []))::(b2,cells [.pointer (some ⟨a.b,0,none⟩)] 60)::(b4,cells [.int .i64 0] 40)::jW a p∧ ∀ j:Nat,j<k→bs[j]?=some true→a.r.bs[j]?=some true
def GaE (l D:Nat) (rc:Rec) (b2 b4:Nat) (a:ArM) (p:jQ) (bs:List Bool) (A:jb):Prop:=
 A=(l, .loop (rc .done (some .ret)))::(D, .deferred (some []))::(b2,cells [.pointer (some ⟨a.b,0,none⟩)] 60)::(b4,cells [.int .i64 9] 40)::jW a p∧ ∃ i:Nat,a.r.bs[i]?=some false∧bs[i]?=some true
def GbJ (l D:Nat) (rc:Rec) (b2 b4:Nat) (a:ArM) (p:jQ) (bs:List Bool) (k:Nat) (A:jb):Prop:=
 A=(l, .loop (rc .ready none))::(D, .deferred (some []))::(b2,cells [.pointer (some ⟨a.b,0,none⟩)] 60)::(b4,cells [.int .i64 0] 40)::jW (arK a bs k) p∧jah (arK a bs k) p
theorem bit_of {l:List Bool} {i:Nat} (h:i<l.length) {v:Bool} (e:(l[i]?).getD false=v):l[i]?=some v:=by
 grind
set_option maxHeartbeats 2000000 in
theorem GiveAll_K {w0:World} {F:jb} {a:ArM} {p:jQ} {r:jan} (hG:js w0) (ok:jah a p) (okr:RowOk r) (hl:r.bs.length=a.r.bs.length):
  Call Tryz.prog w0 310 [.pointer (some ⟨a.b,0,none⟩), .pointer (some ⟨r.b,0,none⟩)] (jH r++(jW a p++(planH p++F))) (fun v H'=>v= .int .i64 (jaZ a.r.bs r.bs).1∧ ∃ a':ArM,jah a' p∧a'.b=a.b∧a'.r.b=a.r.b∧a'.r.bs=(jaZ a.r.bs r.bs).2∧H'=jH r++(jW a' p++(planH p++F))):=by
 have okar:=ok.r
 have hgp:jaZ a.r.bs r.bs=if jcC a.r.bs r.bs then(0,jcm a.r.bs r.bs) else(9,a.r.bs):=by unfold jaZ;rw [if_pos hl]
 have hne: ¬((r.bs.length:Nat):Int)≠((a.r.bs.length:Nat):Int):=by omega
 refine Call.enter2 (n:=40) (by kernel_rfl) Tryz.func310 rfl rfl rfl ?_;refine zdX ?_;intro b2 b4;refine zdI ?_;refine zV ?_;refine ji (jea (a:=a) (p:=p)) ja ?_;refine zk ?_;refine zg3 ?_;refine K.drawn _ [(0,0),(1,2),(2,0),(3,0),(4,0),(6,1),(7,1),(8,1),(9,1),(5,2),(10,2),(11,0),(12,0),(13,0)] (by kernel_rfl) (by kernel_rfl) (by kernel_rfl) (by kernel_rfl) (by kernel_rfl) (by kernel_rfl) Part.all ?_;refine zc1 fun T hT=>?_;refine(CallV.part (CallV.fn (jia okr)) ja).mono ?_;rintro _ _ ⟨r',kr',hbs,rfl,rfl⟩;refine zg ?_;clear hT T;refine KD.v0 rfl rfl (Val.eqlPN rfl rfl rfl) ?_;refine zf8 ?_;refine zhc ?_;refine KD.y1 rfl rfl rfl rfl (Val.nilCheck rfl) ?_;refine KD.y1 rfl rfl rfl rfl (Val.fieldAddr0 (k:=1) rfl rfl) ?_;refine zhc ?_;refine zcb fun T hT=>?_;refine(CallV.part (CallV.fn (jgl (r:=r))) ja).mono ?_;rintro _ _ ⟨rfl,rfl⟩;refine zg ?_;clear hT T;simp only[arenaH_app];refine zcb fun T hT=>?_;refine(CallV.part (CallV.fn (jgl (r:=a.r))) ja).mono ?_;rintro _ _ ⟨rfl,rfl⟩;refine zg ?_;clear hT T;refine zh5 ?_;refine zbV ?_;refine zb0 ?_;refine zbH ?_;refine zbD ?_;refine zev ?_;refine zx fun T hT=>?_;refine(CallV.part (CallV.fn (aeach_K (b:=r.b) (H:=(b2,cells [.pointer (some ⟨a.b,0,none⟩)] 60)::(b4,cells [.int .i64 0] 40)::(jW a p++(jH r++(planH p++F)))))) (by simp only[arenaH_app];exact ja)).mono ?_;rintro _ _ ⟨bl,rfl,rfl⟩;refine zd ?_;clear hT T;refine zb9 ?_;refine K.rangeFunc (lb:=[.pointer (some ⟨bl,0,none⟩)]) rfl
  (fun D G=>G=(bl,cells [.pointer (some ⟨r.b,0,none⟩)] 113)::(D, .deferred (some []))::(b2,cells [.pointer (some ⟨a.b,0,none⟩)] 60)::(b4,cells [.int .i64 0] 40)::(jW a p++(jH r++(planH p++F)))∧ ∀ j:Nat,r.bs[j]?=some true→a.r.bs[j]?=some true)
  (fun D c G=>c= .ret∧G=(bl,cells [.pointer (some ⟨r.b,0,none⟩)] 113)::(D, .deferred (some []))::(b2,cells [.pointer (some ⟨a.b,0,none⟩)] 60)::(b4,cells [.int .i64 9] 40)::(jW a p++(jH r++(planH p++F)))∧ ∃ i:Nat,a.r.bs[i]?=some false∧r.bs[i]?=some true) ?_ ?_ ?_
 ·intro l D rc hyl
  refine(Call.part (each1_K (F:=planH p++F) (r:=r) (bl:=bl) hG okr (GaJ l D rc b2 b4 a p r.bs) (GaE l D rc b2 b4 a p r.bs)
   (A0:=(l, .loop (rc .ready none))::(D, .deferred (some []))::(b2,cells [.pointer (some ⟨a.b,0,none⟩)] 60)::(b4,cells [.int .i64 0] 40)::jW a p) ?_ ⟨rfl,fun j h=>by omega⟩) (by simp only[List.cons_append];exact ja)).mono ?_
  ·rintro k i A ⟨rfl,hno⟩ hnx
   obtain⟨n1,n2,n3,n4⟩:=jcV hnx
   have hdi:=bit_of n1 n3
   have hno': ∀ j:Nat,j<i→r.bs[j]?=some true→a.r.bs[j]?=some true:=fun j h1 h2=>by
    by_cases hj:j<k
    ·exact hno j hj h2
    ·exact absurd (by rw[h2];rfl) (n4 j (by omega) h1)
   have hgb:getB a.r.bs (i:Nat)=(a.r.bs[i]?).getD false:=jdC
   obtain⟨v,hv⟩:=jA (l:=a.r.bs) (k:=i) (by omega)
   rw[hv] at hgb;dsimp only[Option.getD] at hgb;simp only[List.cons_append];refine zje ?_;refine zge ?_;refine K.block ?_;simp only[arenaH_app];refine zy ?_;refine zb2 ?_;refine zF ?_;refine zx fun T hT=>?_;refine(CallV.part (CallV.fn (Get_K (i:=(i:Nat)) okar)) ja).mono ?_;rintro _ _ ⟨rfl,rfl⟩;rw[hgb]
   cases v with
   |true=>
    refine zd ?_;clear hT T;refine zE ?_;refine zis ?_;refine KE.part ((l, .loop (rc .busy none))::((D, .deferred (some []))::(b2,cells [.pointer (some ⟨a.b,0,none⟩)] 60)::(b4,cells [.int .i64 0] 40)::jW a p)++((bl,cells [.pointer (some ⟨r.b,0,none⟩)] 113)::(jH r++(planH p++F)))) (by simp only[List.cons_append,arenaH_app];exact ja) ?_
    exact KE.roundN j3.head (.inl ⟨rfl,_,⟨rfl,fun j h1 h2=>by
     by_cases hji:j=i
     ·rw[hji];exact hv
     ·exact hno' j (by omega) h2⟩,rfl⟩)
   |false=>
    refine zd ?_;clear hT T;refine zeQ ?_;refine zcl ?_;refine zbS ?_;refine KE.part ((l, .loop (rc .busy none))::((D, .deferred (some []))::(b2,cells [.pointer (some ⟨a.b,0,none⟩)] 60)::(b4,cells [.int .i64 9] 40)::jW a p)++((bl,cells [.pointer (some ⟨r.b,0,none⟩)] 113)::(jH r++(planH p++F)))) (by simp only[List.cons_append,arenaH_app];exact ja) ?_;exact KE.roundR j3.head (.inr ⟨rfl,_,⟨rfl,i,hv,hdi⟩,rfl⟩)
  ·rintro u H' ⟨A',rfl,(⟨k,hk,rfl,hno⟩|⟨rfl,i,hi1,hi2⟩)⟩
   ·refine .inl ⟨_,?_,rfl,fun j hj=>?_⟩
    ·simp only[List.cons_append];exact ja
    ·by_cases hjk:j<k
     ·exact hno j hjk hj
     ·unfold nextB at hk;rw[List.find?_eq_none] at hk
      have:=hk j (List.mem_range.2 (jx hj))
      rw[hj] at this
      simp at this;omega
   ·refine .inr ⟨.ret,_,?_,rfl,rfl,i,hi1,hi2⟩;simp only[List.cons_append];exact ja
 ·rintro D G ⟨rfl,hall⟩
  have hoa:jcC a.r.bs r.bs=true:=ok_all hall
  rw[hoa] at hgp;simp only[if_true] at hgp;rw[hgp];refine zbD ?_;refine zev ?_;refine zo ?_;refine j4 (aeach_K (b:=r.b) (H:=(D, .deferred (some []))::(b2,cells [.pointer (some ⟨a.b,0,none⟩)] 60)::(b4,cells [.int .i64 0] 40)::(jW a p++(jH r++(planH p++F))))) ja ?_;rintro _ _ ⟨bm,rfl,rfl⟩;refine zb9 ?_;refine K.rangeFunc (lb:=[.pointer (some ⟨bm,0,none⟩)]) rfl
   (fun D2 G=> ∃ k,nextB r.bs k true=none∧jah (arK a r.bs k) p∧G=(bm,cells [.pointer (some ⟨r.b,0,none⟩)] 113)::(D2, .deferred (some []))::(b2,cells [.pointer (some ⟨a.b,0,none⟩)] 60)::(b4,cells [.int .i64 0] 40)::(jW (arK a r.bs k) p++(jH r++(planH p++((D, .deferred (some []))::F)))))
   (fun D c G=>False) ?_ ?_ ?_
  ·intro l D2 rc hyl
   refine(Call.part (each1_K (F:=planH p++((D, .deferred (some []))::F)) (r:=r) (bl:=bm) hG okr (GbJ l D2 rc b2 b4 a p r.bs) (fun _=>False)
    (A0:=(l, .loop (rc .ready none))::(D2, .deferred (some []))::(b2,cells [.pointer (some ⟨a.b,0,none⟩)] 60)::(b4,cells [.int .i64 0] 40)::jW (arK a r.bs 0) p) ?_ ⟨rfl,by rw[jkP];exact ok⟩) (by rw[jkP];simp only[List.cons_append];exact ja)).mono ?_
   ·rintro k i A ⟨rfl,hok⟩ hnx
    obtain⟨n1,n2,n3,n4⟩:=jcV hnx
    have hdi:=bit_of n1 n3
    have hai:=hall i hdi
    have hki:(arK a r.bs k).r.bs[i]?=some true:=by
     show(jcn a.r.bs r.bs k)[i]?=_
     rw[jeE (jx hai),hai];simp;omega
    have hnk:=arK_next hl hnx
    have hok':=setA_ok hok i false
    rw[hnk] at hok';simp only[List.cons_append];refine zje ?_;refine zge ?_;refine K.block (K.region ?_);refine zb6 fun T hT=>?_;refine(CallV.part (CallV.fn (agive_K hok hki)) ja).mono ?_;rintro _ _ ⟨rfl,rfl⟩;rw[hnk];refine zd ?_;clear hT T;refine zdm ?_;refine KE.part ((l, .loop (rc .busy none))::((D2, .deferred (some []))::(b2,cells [.pointer (some ⟨a.b,0,none⟩)] 60)::(b4,cells [.int .i64 0] 40)::jW (arK a r.bs (i+1)) p)++((bm,cells [.pointer (some ⟨r.b,0,none⟩)] 113)::(jH r++(planH p++((D, .deferred (some []))::F))))) (by simp only[List.cons_append];exact ja) ?_;exact KE.roundN j3.head (.inl ⟨rfl,_,⟨rfl,hok'⟩,rfl⟩)
   ·rintro u H' ⟨A',rfl,(⟨k,hk,rfl,hok⟩|hf)⟩
    ·refine .inl ⟨_,?_,k,hk,hok,rfl⟩;simp only[List.cons_append];exact ja
    ·exact hf.elim
  ·rintro D2 G ⟨k,hk,hok,rfl⟩
   have hlk:(arK a r.bs k).r.bs=jcm a.r.bs r.bs:=jmc hl hk
   refine zeU ?_;refine zcl ?_;exact KE.fin je rfl jd ja ⟨rfl,arK a r.bs k,hok,rfl,rfl,hlk,rfl⟩
  ·rintro D2 c G hf;exact hf.elim
 ·rintro D c G ⟨rfl,rfl,i,hi1,hi2⟩
  have hoa:jcC a.r.bs r.bs=false:=ok_bad hi1 hi2
  rw[hoa] at hgp;simp only[Bool.false_eq_true,if_false] at hgp;rw[hgp];refine zdr ?_;exact KE.fin je rfl jd ja ⟨rfl,a,ok,rfl,rfl,rfl,rfl⟩
set_option maxRecDepth 10000
theorem spStop_K {w0:World} {F:jb} {s:SpM} {a:ArM} {p:jQ} (hG:js w0) (ok:SpOk s p.g.slots) (oka:jah a p) (h:jbW s=true) (e1:s.ab=a.b):Call Tryz.prog w0 293 [.pointer (some ⟨s.b,0,none⟩)] (J9 s++(jW a p++(planH p++F)))
  (fun r H'=>r= .tuple [.int .i64 (s.d.bs.count true:Nat), .int .i64 0].toArray∧ ∃ (a':ArM) (s':SpM),jah a' p∧a'.b=a.b∧a'.r.b=a.r.b∧a'.r.bs=(jaZ a.r.bs s.d.bs).2∧SpOk s' p.g.slots∧s'.b=s.b∧s'.ab=s.ab∧s'.bb=s.bb∧s'.mb=s.mb∧s'.at_=0∧s'.act=false∧s'.d.bs=List.replicate p.g.slots false∧H'=J9 s'++(jW a' p++(planH p++F))):=by
 have okd:=ok.d
 have hl:s.d.bs.length=a.r.bs.length:=by rw[ok.dn,oka.n]
 have hdn:=ok.dn
 obtain⟨sb,sd,sat,sact,sab,sbb,smb⟩:=s
 dsimp only at e1 okd hl hdn⊢;subst e1;refine Call.enter1 (n:=37) (by rfl) Tryz.func293 rfl rfl rfl ?_;refine zeY ?_;refine zaP ?_;refine ji (jhn (s:=⟨sb,sd,sat,sact,a.b,sbb,smb⟩)) ja ?_;refine zau ?_;refine zx fun T hT=>?_;refine(CallV.part (CallV.fn (jho (s:=⟨sb,sd,sat,sact,a.b,sbb,smb⟩))) ja).mono ?_;rintro _ _ ⟨rfl,rfl⟩;rw[h];refine zd ?_;clear hT T;simp only[sweepH_app];refine zE ?_;refine zay ?_;refine zK ?_;refine zct ?_;refine zV ?_;refine ji (Count_K okd) ja ?_;refine zk ?_;refine zcK ?_;refine K.drawn [] [(0,0),(1,0),(2,0),(3,0),(4,0),(5,0),(6,0),(7,0),(8,2)] (by rfl) (by rfl) (by kernel_rfl) (by rfl) (by rfl) (by rfl) Part.nil ?_;refine zb4 ?_;refine zdD ?_;refine zl fun T hT=>?_;refine(CallV.part (CallV.fn (GiveAll_K hG oka okd hl)) ja).mono ?_;rintro _ _ ⟨rfl,a',ka,ab,arb,abs,rfl⟩;refine zg ?_;clear hT T;refine zeS ?_;refine zK ?_;refine zct ?_;refine zV ?_;refine j4 (jix okd) ja ?_;rintro _ _ ⟨rfl,r',kr,rb,rbs,rfl⟩;refine zW ?_;refine zcy ?_;refine zca ?_;refine zfK ?_;refine zah ?_;refine zaw ?_;refine zbl ?_;rw[hdn] at rbs;rw[←rb];exact KE.fin (H':=J9 ⟨sb,r',0,false,a.b,sbb,smb⟩++(jW a' p++(planH p++F))) je rfl jd (by simp only[sweepH_app];exact ja) ⟨rfl,a',⟨sb,r',0,false,a.b,sbb,smb⟩,ka,ab,arb,abs,⟨kr,by grind,Nat.zero_le _⟩,rfl,rfl,rfl,rfl,rfl,rfl,rbs,by rfl⟩
theorem spNew_K {w0:World} {F:jb} {a:ArM} {B:BoM} {k:MkM} {x:List Int} (hG:js w0) (oka:jah a B.p) (okB:jag B x) (okk:MkOk k B.p):
  Call Tryz.prog w0 104 [.pointer (some ⟨B.p.b,0,none⟩), .pointer (some ⟨a.b,0,none⟩), .pointer (some ⟨B.b,0,none⟩), .pointer (some ⟨k.b,0,none⟩)] (jW a B.p++(jR B++(jv B.m++(planH B.p++(jp k B.p++F)))))
   (fun r H'=> ∃ s:SpM,SpOk s B.p.g.slots∧s.ab=a.b∧s.bb=B.b∧s.mb=k.b∧s.at_=0∧s.act=false∧s.d.bs=List.replicate B.p.g.slots false∧r= .tuple [.pointer (some ⟨s.b,0,none⟩), .int .i64 0].toArray∧H'=J9 s++(jW a B.p++(jR B++(jv B.m++(planH B.p++(jp k B.p++F)))))):=by
 have okp:=okB.p
 have hs:=okp.g.slots
 obtain⟨y,hy⟩:=jY (g:=B.p.g) (i:=0) (by omega)
 have hne: ¬((B.p.g.slots:Nat):Int)=0:=by omega
 obtain⟨cc,hcc⟩:=jeb okk (s:=0) (by omega)
 have hhead:=fun A=>jdO (w0:=w0) (F:=A) (s:=0) hG okB hy
 have hhv: ∃ c r w e,headV (headP x y)= .tuple [.agg [.int .i64 c, .int .i64 r, .int .i64 w].toArray, .int .i64 e].toArray∧e≠1:=by
  unfold headV
  cases headP x y with
  |none=>exact⟨0,0,0,5,rfl,by decide⟩
  |some h=>exact⟨h.c,h.r,h.w,0,rfl,by decide⟩
 obtain⟨c,r,w,e,hev,hen⟩:=hhv
 simp only[hev] at hhead
 have hen': ¬e=1:=hen
 refine Call.enter4 (n:=55) (by kernel_rfl) Tryz.func104 rfl rfl rfl ?_;refine za6 ?_;refine zo ?_;refine ji (hhead _) ja ?_;refine zaX ?_;intro b10;refine zu ?_;refine zo ?_;refine ji (jc5 okk hcc) ja ?_;refine zez ?_;refine zgJ ?_;refine zer ?_;refine zG ?_;refine zeT ?_;refine j4 (aCopy_K oka) ja ?_;rintro _ _ ⟨a',_,_,rfl,rfl⟩;refine zi ?_;refine zef ?_;refine zA ?_;refine zbz ?_;refine zA ?_;refine zbz ?_;refine zz ?_;refine zo ?_;refine zer ?_;refine zn ?_;refine jat (je5 (n:=B.p.g.slots) (by omega)) ?_;rintro _ _ ⟨rr,kr,hbs,rfl,rfl⟩;refine zQ ?_;refine zm ?_;refine zm ?_;refine zei ?_;intro b53;refine zbl ?_;exact KE.fin (H':=J9 ⟨b53,rr,0,false,a.b,B.b,k.b⟩++(jW a B.p++(jR B++(jv B.m++(planH B.p++(jp k B.p++F)))))) je rfl jd (by simp only[sweepH_app];exact ja) ⟨⟨b53,rr,0,false,a.b,B.b,k.b⟩,⟨kr,by simp[hbs],Nat.zero_le _⟩,rfl,rfl,rfl,rfl,rfl,hbs,rfl,rfl⟩
open Go.RowKit
set_option maxRecDepth 10000
section
variable {g : PlG} {long nw : Nat} {s s' z : CyP} {S0 : Nat → Prop} {A0 : List Bool} {n : Nat}
structure ja4 (g:PlG) (S0:Nat→Prop) (A0:List Bool) (s s':CyP):Prop where
 A:s'.A=s.A
 w: ∀ t,NwP S0 A0 s.A t→jJ g s.W.x s'.W.x t
 o: ∀ a,(∀ (t:Nat) (y:jg),g.L[t]?=some y→ ¬(y.addr≤a∧a<y.addr+y.size))→wAt s'.W.x a=wAt s.W.x a
 T:s'.W.T=s.W.T
 N:s'.W.N=s.W.N
 l:s'.W.x.length=s.W.x.length
 d:(∀ t:Nat,s'.D[t]?≠some true)→s'.W.x=s.W.x∧ ∀ t:Nat,s.D[t]?≠some true
theorem ja4.refl:ja4 g S0 A0 s s:=⟨rfl,fun _ _=>jJ.refl,fun _ _=>rfl,rfl,rfl,rfl,fun h=>⟨rfl,h⟩⟩
theorem ja4.trans {s'':CyP} (h:ja4 g S0 A0 s s') (h':ja4 g S0 A0 s' s''):ja4 g S0 A0 s s'':=
 ⟨h'.A.trans h.A,fun t ht=>(h.w t ht).trans (h'.w t (by rw[h.A];omega)),fun a ha=>(h'.o a ha).trans (h.o a ha),h'.T.trans h.T,h'.N.trans h.N,h'.l.trans h.l,fun hd=>⟨(h'.d hd).1.trans (h.d (h'.d hd).2).1,(h.d (h'.d hd).2).2⟩⟩
theorem goes_W:ja4 g S0 A0 s (Jb g s):=by
 obtain⟨a,b,c,d,e⟩:=jcO (g:=g) (s:=s)
 exact⟨c,fun t _=>by grind[jJ.refl],fun t _=>by rw[a],by rw[a],by rw[a],by rw[a],fun h=>⟨by rw[a],fun t=>by grind⟩⟩
theorem jgn:ja4 g S0 A0 s (madeC g s):=by
 have h:=goes_W (g:=g) (S0:=S0) (A0:=A0) (s:={s with st:=s.st+1})
 exact⟨h.A,h.w,h.o,h.T,h.N,h.l,h.d⟩
theorem m_W {m':MaP}:ja4 g S0 A0 s {s with m:=m'}:=⟨rfl,fun _ _=>jJ.refl,fun _ _=>rfl,rfl,rfl,rfl,fun h=>⟨rfl,h⟩⟩
theorem jk7 (ok:jc g) (h:jr g long s) (hI:CyI g S0 A0 s) (h2:s.ph=2) (hs:sweepC g s=some s'):ja4 g S0 A0 s s':=by
 have hlt:=h.lt h2
 obtain⟨a,b,_⟩:=h.p2 h2
 have hd:=hI.doom h h2 hlt
 obtain⟨y,hy⟩:=jY hlt
 have hyA:=jC hy
 have hfit:=ok.fits hy
 unfold sweepC at hs;rw[if_pos ⟨b,hlt⟩] at hs
 split at hs
 ·rename_i hg
  cases hs
  rw[hyA]
  obtain⟨d1,d2⟩:=hd.1 hg
  refine⟨rfl,fun t ht=>jfk ok h.w.x hy fun e=>?_,fun a ha=>?_,rfl,rfl,jcR (by rw[h.w.x];omega),fun hD=>?_⟩
  ·subst e
   rcases ht with e|⟨_,e⟩
   ·grind
   grind
  ·rw[ja8 (by rw[h.w.x];omega),if_neg (ha _ _ hy)]
  ·exact absurd (List.getElem?_set_self (by rw[h.D];omega)) (hD s.at_)
 ·cases hs
  exact⟨rfl,fun _ _=>jJ.refl,fun _ _=>rfl,rfl,rfl,rfl,fun h=>⟨rfl,h⟩⟩
theorem jgh (ok:jc g) (h:jr g long s) (hI:CyI g S0 A0 s) {k u:Int} (hs:stepC g long nw s k u=some s'):ja4 g S0 A0 s s':=by
 unfold stepC at hs
 split at hs
 ·cases hm:j1 g long s.W s.m k u with
  |none=>grind
  |some m'=>rw [hm] at hs;cases hs;exact m_W.trans jgn
 ·split at hs
  ·rename_i h2
   cases hm:sweepC g s with
   |none=>grind
   |some q=>rw [hm] at hs;cases hs;exact(jk7 ok h hI h2.1 hm).trans jgn
  grind
theorem je9 (ok:jc g) (h:jr g long s) (hI:CyI g S0 A0 s) (hs:jZ g long s=some s'):ja4 g S0 A0 s s':=by
 unfold jZ at hs
 split at hs
 ·cases hm:jae g long s.W s.m with
  |none=>grind
  |some m'=>rw [hm] at hs;cases hs;exact m_W.trans jgn
 ·split at hs
  ·rename_i h2
   cases hm:sweepC g s with
   |none=>grind
   |some q=>rw [hm] at hs;cases hs;exact(jk7 ok h hI h2 hm).trans jgn
  grind
theorem helps_W (ok:jc g) (h0:jr g long s) (hI:CyI g S0 A0 s) (h:jaK g long s n s'):ja4 g S0 A0 s s':=by
 induction h with
 |refl=>exact .refl
 |snoc h1 h2 ih=>
  have ho:=h1.ok ok h0
  exact ih.trans (je9 ok ho.ok (ho.I hI) h2)
theorem fin_W (ok:jc g) (h0:jr g long s) (hI:CyI g S0 A0 s):ja4 g S0 A0 s (finC g long s).2:=helps_W ok h0 hI jds
def jgg (g:PlG) (long:Nat) (gn:Int) (s:CyP):CyP:=publishC g gn (finC g long (beginC g s)).2
theorem whole_ok (ok:jc g) (hl:1≤long) (h:jr g long s) (h0:s.ph=0) (hT:CyT g s) (gn:Int):jr g long (jgg g long gn s)∧CyT g (jgg g long gn s)∧(∀ t:Nat,(jgg g long gn s).A[t]?=some true↔RchM g s.W t)∧ja4 g (RchM g s.W) s.A (beginC g s) (finC g long (beginC g s)).2:=by
 have hb:=jhP ok hl h h0
 have hI:=CyI.begin h h0 hT
 have hr:=jds.ok ok hb
 have h3:=jeY ok hb (show(1:Nat)≠0 from by decide)
 obtain⟨p1,p2⟩:=(hr.I hI).publish hr.ok h3 gn
 refine⟨jfi hr.ok h3 gn,p2,fun t=>?_,fin_W ok hb hI⟩;rw[show(jgg g long gn s).A[t]?=some true↔_ from p1 t]
 constructor
 ·rintro(e|⟨e1,e2⟩)
  ·omega
  ·rw[hr.A] at e1;rw[show s.A[t]?=some true from e1] at e2;grind
 ·exact .inl
theorem jh7 {W W':MwP} (hT:W'.T=W.T) (hN:W'.N=W.N) {r:Nat}:jP g W' r=jP g W r:=by
 grind[jP]
theorem rch_next (ok:jc g) {W W':MwP} {gn:Int} (hT:W'.T=Ji gn W.T) (hN:W'.N=W.N) (hx: ∀ t,RchM g W t→jJ g W.x W'.x t) {t:Nat} (h:RchM g W t):RchM g W' t:=by
 induction h with
 |root a b=>
  refine .root (by rw[hT];unfold Ji;rw [List.length_map];exact a) ?_;rw[jh7 (W:={W with T:=Ji gn W.T}) hT hN,jjl];omega
 |edge a b ih=>exact .edge ih (by rw[jbA ok (hx _ a)];exact b)
end
open Go.RowKit
set_option maxRecDepth 10000
theorem used_nil (l:List jg):usedL l []=0:=by cases l<;>rfl
theorem jjc: ∀ (f:Nat) (l:List jg) (A:List Bool),usedL (l.drop f) (A.drop f)≤usedL l A
 |0,l,A=>Nat.le_refl _
 |f+1,[],A=>by simp[usedL]
 |f+1,p::l,[]=>by grind[used_nil]
 |f+1,p::l,a::A=>by
  have:=jjc f l A
  grind[usedL]
theorem jjW {z:Nat}: ∀ (n:Nat) (l:List jg) (A:List Bool),(∀ d,d<n→A[d]?=some true∧ ∃ p,l[d]?=some p∧p.size=z)→n*z≤usedL l A
 |0,l,A,_=>by simp
 |n+1,[],A,h=>by obtain⟨_,p,hp,_⟩:=h 0 (by omega);grind
 |n+1,p::l,[],h=>by obtain⟨h1,_⟩:=h 0 (by omega);grind
 |n+1,p::l,a::A,h=>by
  obtain⟨h1,q,h2,h3⟩:=h 0 (by omega)
  have ih:=jjW n l A fun d hd=>by simpa using h (d+1) (by omega)
  grind[usedL]
theorem jmJ {g:PlG} {A:List Bool} (ok:jc g) (hA:A.length=g.slots) {k:Nat} (hk:k<g.m) (hf:usedL g.L A+g.y k≤g.q):(takeP g A (k:Nat)).2.1=0:=by
 unfold takeP;rw[if_pos ⟨by omega,by omega⟩,Int.toNat_natCast]
 cases hp:jbr A (g.first k) (g.n k) with
 |some i=>rfl
 |none=>
  exfalso
  have hno:=jjH hp
  have h1:=jjc (g.first k) g.L A
  have h2:=jjW (z:=g.y k) (g.n k) (g.L.drop (g.first k)) (A.drop (g.first k)) fun d hd=>by
   have hL:=L_get hk hd
   have hl:=jx hL
   rw[jbX,←hA] at hl;refine⟨?_,g.sl k d,by rw[List.getElem?_drop];exact hL,rfl⟩;rw[List.getElem?_drop]
   rcases bit_some hl with e|e
   ·exact e
   ·exact absurd e (hno _ (by omega) (by omega))
  have hy:=(ok.y k hk).1
  have h3:g.n k=g.q/g.y k:=rfl
  have h4:=Nat.div_add_mod g.q (g.y k)
  have h5:=Nat.mod_lt g.q (show 0<g.y k by omega)
  rw[h3,Nat.mul_comm] at h2
  omega
theorem freeB_some {s:CyP} (h:j5 s=true):(Ju s.W.T).isSome=true:=by
 simp_all[j5,cntP,Ju]
section
variable {C : HpC} {wr : Bool} {h h' : HpP} {s s' : CyP} {n : Nat}
theorem fin_mvs {p:PaP} {wk:Nat} (a:jaK C.g C.long s n s'):j8 C wr ⟨s,p,wk⟩ ⟨s',p,wk⟩:=by
 induction a with
 |refl=>exact .refl
 |snoc _ b ih=>exact ih.tail (.help (h:=⟨_,p,wk⟩) b)
theorem jeh (hC:jk C) (hI:HeI C h) (h0:h.s.ph≠0):j8 C wr h (jas C h):=
 (fin_mvs (p:=h.p) (wk:=h.wk) jds).tail (.publish (h:=⟨(finC C.g C.long h.s).2,h.p,h.wk⟩) (jeY hC.g hI.ok h0))
theorem HeI.mvs (hC:jk C) (m:j8 C wr h h') (hI:HeI C h):HeI C h':=m.ind (fun _ _ m h=>h.mv hC m) hI
theorem jeC (hC:jk C) (hI:HeI C h) {is:CyP→Bool}:j8 C wr h (JC C is h):=by
 unfold JC
 split
 ·grind[h1,jeh]
 ·exact .refl
theorem jd5 {is:CyP→Bool} (h1: ¬is (JC C is h).s=true):(JC C is h).s.ph=0:=by
 unfold JC at h1⊢
 split
 ·rfl
 grind
theorem jcS (hC:jk C) (hI:HeI C h) {is:CyP→Bool}:j8 C wr h (Jz C is h):=by
 have m1:=jeC (wr:=wr) hC hI (is:=is)
 unfold Jz
 split
 ·omega
 ·rename_i h1
  have h0:=jd5 h1
  have m2:=m1.tail (.begin h0)
  exact m2.trans (jeh hC (hI.mvs hC m2) (show(1:Nat)≠0 by decide))
structure jaA (g:PlG) (s s':CyP):Prop where
 r: ∀ t,RchM g s.W t→RchM g s'.W t
 w: ∀ t,RchM g s.W t→jJ g s.W.x s'.W.x t
 t: ∀ k,slotT s'.W.T k=slotT s.W.T k
 nm: ∀ i n,namedT s'.W.T i n=namedT s.W.T i n
 N:s'.W.N=s.W.N
theorem jaA.refl {g:PlG}:jaA g s s:=⟨fun _ h=>h,fun _ _=>jJ.refl,fun _=>rfl,fun _ _=>rfl,rfl⟩
theorem jaA.trans {g:PlG} {s'':CyP} (a:jaA g s s') (b:jaA g s' s''):jaA g s s'':=
 ⟨fun t h=>b.r t (a.r t h),fun t h=>(a.w t h).trans (b.w t (a.r t h)),fun k=>(b.t k).trans (a.t k),fun i n=>(b.nm i n).trans (a.nm i n),b.N.trans a.N⟩
theorem jlZ {T:List jh} {gn k:Int}:slotT (Ji gn T) k=slotT T k:=by
 grind[slotT,Ji,jaz]
theorem jl0 {T:List jh} {gn i n:Int}:namedT (Ji gn T) i n=namedT T i n:=by
 grind[namedT,Ji,jaz]
theorem end_W (hC:jk C) (hI:HeI C h) (h0:h.s.ph≠0):jaA C.g h.s (jas C h).s:=by
 obtain⟨S0,A0,hi⟩:=hI.i1 h0
 have hw:=fin_W hC.g hI.ok hi
 have hs: ∀ t,RchM C.g h.s.W t→jJ C.g h.s.W.x (jas C h).s.W.x t:=fun t ht=>hw.w t (hi.cl.rch ht)
 have hT:(jas C h).s.W.T=Ji C.gn h.s.W.T:=by show Ji C.gn (finC C.g C.long h.s).2.W.T=_;rw [hw.T]
 exact⟨fun t ht=>rch_next hC.g hT hw.N hs ht,hs,fun k=>by grind[jlZ],fun i n=>by grind[jl0],hw.N⟩
theorem jir:jaA C.g h.s (jaE C h).s:=⟨fun _ h=>h,fun _ _=>jJ.refl,fun _=>rfl,fun _ _=>rfl,rfl⟩
theorem jh8 (hC:jk C) (hI:HeI C h) {is:CyP→Bool}:jaA C.g h.s (JC C is h).s:=by
 unfold JC
 split
 ·grind[h1,end_W]
 ·exact .refl
theorem jdH (hC:jk C) (hI:HeI C h) {is:CyP→Bool}:jaA C.g h.s (Jz C is h).s:=by
 have m1:=jeC (wr:=true) hC hI (is:=is)
 unfold Jz
 split
 ·exact jh8 hC hI
 ·rename_i h1
  have h0:=jd5 h1
  exact((jh8 hC hI).trans jir).trans (end_W hC (hI.mvs hC (m1.tail (.begin h0))) (show(1:Nat)≠0 by decide))
theorem jeL: ∀ (d:Nat) (h:HpP),d≤h.p.debt→j8 C wr h (jaa C d h)
 |0,h,_=> .refl
 |d+1,h,hd=>by
  unfold jaa
  cases hh:jZ C.g C.long h.s with
  |none=>exact .refl
  |some s'=>
   have m1:j8 C wr h ⟨s',{h.p with debt:=d},h.wk+1⟩:=(HpMv.one (.help hh)).tail (.free (h:={h with s:=s'}) rfl fun hb=>⟨hb.s,hb.t,by have:=hb.d;grind,hb.c⟩)
   exact m1.trans (jeL d _ (Nat.le_refl _))
theorem jd7: ∀ (d:Nat) (h:HpP),(jaa C d h).p.act=h.p.act
 |0,h=>rfl
 |d+1,h=>by
  unfold jaa
  cases hh:jZ C.g C.long h.s with
  |none=>rfl
  |some s'=>exact(jd7 d _).trans rfl
theorem due_mvs (hC:jk C) (hI:HeI C h) {due:Nat} (h1:due=1→h.p.act=false) (h2:due=2→h.p.act=true):j8 C wr h (jcE C due h):=by
 have hp:=hI.pa
 unfold jcE
 split
 ·rename_i e
  rw[h1 e] at hp;exact HpMv.one (.begin (Classical.byContradiction fun e=>by grind))
 ·split
  ·grind[h2,jeh]
  ·exact .refl
theorem jdE {tr ast n:Nat} {p:PaP}:((Ja tr ast n p).1=1→p.act=false)∧((Ja tr ast n p).1=2→p.act=true):=by
 grind[Ja]
theorem jg5 (hC:jk C) (hI:HeI C h):j8 C wr h (jaS C n h):=by
 have m1:j8 C wr h {h with p:=(Ja C.tr C.ast n h.p).2}:=HpMv.one (.free rfl fun hb=>hb.ask _ _ _)
 have m2:=m1.trans (jeL (Ja C.tr C.ast n h.p).2.debt {h with p:=(Ja C.tr C.ast n h.p).2} (Nat.le_refl _))
 have ha:(jaa C (Ja C.tr C.ast n h.p).2.debt {h with p:=(Ja C.tr C.ast n h.p).2}).p.act=h.p.act:=(jd7 _ _).trans rfl
 exact m2.trans (due_mvs hC (hI.mvs hC m2) (fun e=>ha.trans (jdE.1 e)) fun e=>ha.trans (jdE.2 e))
theorem jd2 {g:PlG} {need:Int} (h: ¬classI g need=g.cl.length):classI g need<g.m:=by
 have:classI g need≤g.cl.length:=List.findIdx_le_length
 show _<g.cl.length
 omega
theorem jfx (hC:jk C) (hI:HeI C h) {k:Nat} (hk:k<C.g.m) (hf:fitsB C.g (C.g.y k) h.s=true):(takeP C.g h.s.A (k:Nat)).2.1=0:=jmJ hC.g hI.ok.A hk (of_decide_eq_true hf)
theorem not_false' {b:Bool} (h: ¬b=false):b=true:=by grind
theorem jjI (hC:jk C) (hI:HeI C h) {k:Nat} (hk:k<C.g.m) (hf:fitsB C.g (C.g.y k) h.s=true):usedL C.g.L (takeP C.g h.s.A (k:Nat)).2.2≤C.g.q:=by
 have hu:usedL C.g.L h.s.A+C.g.y k≤C.g.q:=of_decide_eq_true hf
 obtain⟨k',j,ek,hk',hfr,ht,hjl⟩:=jdh (jfx hC hI hk hf)
 obtain⟨g1,g2,g3,_⟩:=jcP hfr
 have ek':k'=k:=by omega
 subst ek'
 have hL:C.g.L[j]?=some (C.g.sl k' (j-C.g.first k')):=by
  have:=L_get (g:=C.g) (k:=k') (d:=j-C.g.first k') hk (by omega)
  grind
 have h1:=jdn (A:=h.s.A) true hL hjl
 rw[if_neg (by grind),if_pos rfl] at h1;rw[ht];dsimp only
 have h2:(C.g.sl k' (j-C.g.first k')).size=C.g.y k':=rfl
 omega
theorem ji7 {g:PlG} {need:Int} (h: ¬classI g need=g.cl.length):need≤(g.y (classI g need):Nat):=by
 grind[classI,PlG.y]
theorem jcy (hC:jk C) (hI:HeI C h) {a b:Int} (hm:Jd ⟨0,a,b⟩=true) (hk: ¬classI C.g (a+b+1)=C.g.cl.length) (h2:fitsB C.g (C.g.y (classI C.g (a+b+1))) h.s=true):
  ∃ (j:Nat) (y:jg),takeP C.g h.s.A (classI C.g (a+b+1):Nat)=(((j:Nat):Int),0,h.s.A.set j true)∧h.s.A[j]?=some false∧C.g.L[j]?=some y∧y.cls=classI C.g (a+b+1)∧y.size=C.g.y (classI C.g (a+b+1))∧Jd ⟨(classI C.g (a+b+1):Nat),a,b⟩=true∧jad y ⟨(classI C.g (a+b+1):Nat),a,b⟩=true:=by
 have ok:=hC.g
 have hkm:=jd2 hk
 obtain⟨k',j,ek,hk',hf,ht,_⟩:=jdh (jfx hC hI hkm h2)
 obtain⟨g1,g2,g3,_⟩:=jcP hf
 have ek':k'=classI C.g (a+b+1):=by omega
 subst ek'
 have hy:C.g.L[j]?=some (C.g.sl (classI C.g (a+b+1)) (j-C.g.first (classI C.g (a+b+1)))):=by
  have:=L_get (g:=C.g) (k:=classI C.g (a+b+1)) (d:=j-C.g.first (classI C.g (a+b+1))) hkm (by omega)
  rwa[show C.g.first (classI C.g (a+b+1))+(j-C.g.first (classI C.g (a+b+1)))=j by omega] at this
 have hmay:=jbm hm
 dsimp only at hmay
 have hmay2:Jd ⟨(classI C.g (a+b+1):Nat),a,b⟩=true:=by
  unfold Jd;refine decide_eq_true ⟨by dsimp only;omega,by have:=ok.m.2;dsimp only;omega,hmay.2.2.1,hmay.2.2.2.1,hmay.2.2.2.2.1,hmay.2.2.2.2.2⟩
 refine⟨j,_,ht,g3,hy,rfl,rfl,hmay2,?_⟩
 have:=ji7 hk
 unfold jad;rw[hmay2];simp only[Bool.true_and,Bool.and_eq_true,decide_eq_true_eq];exact⟨rfl,by show a+b+1≤((C.g.y (classI C.g (a+b+1)):Nat):Int);omega⟩
theorem jbV (hC:jk C) (hI:HeI C h) {a b:Int} (hm:Jd ⟨0,a,b⟩=true) (hk: ¬classI C.g (a+b+1)=C.g.cl.length) (h2:fitsB C.g (C.g.y (classI C.g (a+b+1))) h.s=true) (h3:j5 h.s=true):HpMv C wr h {h with s:=mkC C.g h.s (classI C.g (a+b+1):Nat) ⟨(classI C.g (a+b+1):Nat),a,b⟩}:=by
 obtain⟨j,y,ht,_,hy,_,_,_,hl⟩:=jcy hC hI hm hk h2
 exact .make (jfx hC hI (jd2 hk) h2) (freeB_some h3) (jjI hC hI (jd2 hk) h2) (by grind[jC])
theorem jb3 (hC:jk C) (hI:HeI C h) {k:Nat}:j8 C wr h (allocR C h k):=jcS hC hI
theorem jfT (hC:jk C) (hI:HeI C h) {k:Nat}:jaA C.g h.s (allocR C h k).s:=jdH hC hI
theorem jhi (hC:jk C) (hI:HeI C h) {a b:Int}:j8 C wr h (jE C h a b).2:=by
 unfold jE
 split
 ·exact .refl
 ·rename_i hm
  split
  ·exact .refl
  ·rename_i hk
   have m1:=jb3 (wr:=wr) hC hI (k:=classI C.g (a+b+1))
   have hI1:=hI.mvs hC m1
   split
   ·omega
   ·split
    ·omega
    ·rename_i h1 h2
     have m2:=jbV (wr:=wr) hC hI1 (not_false' hm) hk (not_false' h1) (not_false' h2)
     exact(m1.tail m2).trans (jg5 hC (hI1.mv hC m2))
theorem jcJ {x:List Int} {y:jg} {i:Int} (h:(JR x y i).2=0):fldP x y (JR x y i).1 i=0∧ ∃ q,headP x y=some q:=by
 grind[JR,fldP,headP,jaO]
theorem je4 {g:PlG} {x:List Int} {y:jg} (hrf:ja6 g x) (hy:g.L[n]?=some y) {i:Int} (h:fldP x y true i=0):(refP x g.slots y i).2=0:=by
 have:=hrf n y hy i h
 grind[refP]
theorem jai {tn:Nat} {T:List jh} {w:Nat} {sl:Int} (h:hpSlot tn T w=some sl):slotT T (capI w:Nat)=some sl:=by
 grind[hpSlot,namedT,slotT,capI]
theorem read_mvs (hC:jk C) (hI:HeI C h) {sl a k:Int} (hs:slotT h.s.W.T k=some sl):j8 C wr h (JF C h sl a).2:=by
 obtain⟨j,rfl,hj⟩:=jaT (J8 hI.ok.w hs)
 obtain⟨y,hy⟩:=jY hj
 unfold JF;rw[jC hy]
 split
 ·exact .refl
 ·split
  ·exact .refl
  ·split
   ·exact .refl
   ·rename_i h1 h2 h3
    have m1:=jcS (wr:=wr) hC hI (is:=j5)
    split
    ·exact m1
    ·rename_i h4
     have hW:=jdH hC hI (is:=j5)
     have hf:=(jcJ (x:=h.s.W.x) (y:=y) (i:=a) (Classical.byContradiction h1)).1
     rw[not_false' h2] at hf
     obtain⟨t,ht⟩: ∃ t:Nat,(refP h.s.W.x C.g.slots y a).1=(t:Nat):=⟨((refP h.s.W.x C.g.slots y a).1).toNat,by omega⟩
     have hr:refO C.g h.s.W.x ((j:Nat):Int) a=some ((t:Nat):Int):=by
      unfold refO;rw [jC hy,if_pos ⟨je4 hI.ok.rf hy hf,by omega⟩,ht]
     have hrj:RchM C.g h.s.W j:=jax.slot hs
     rw[ht];exact m1.tail (.read (n:=j) (k:=k) (i:=a) ((hW.t k).trans hs) (by rw[jbA hC.g (hW.w j hrj)];exact hr) (freeB_some (not_false' h4)))
theorem jg0 {g:PlG} {long:Nat} {k sl:Int} (hs:slotT s.W.T k=some sl):doesC g long s ⟨4,k,0,0⟩={s with W:={s.W with N:=JA s.W.N sl.toNat}}:=by
 show(if 4%6<2 then _ else if 4%6=2 then _ else _)=_
 grind
theorem jgA {g:PlG} {long:Nat} {k sl:Int} (hs:slotT s.W.T k=some sl):doesC g long s ⟨5,k,0,0⟩={shdC g long s sl with W:={(shdC g long s sl).W with N:=J0 (shdC g long s sl).W.N sl.toNat}}:=by
 show(if 5%6<2 then _ else if 5%6=2 then _ else _)=_
 grind
theorem jhd {g:PlG} {long:Nat} {k sl:Int} (hs:slotT s.W.T k=some sl):doesC g long s ⟨3,k,0,0⟩={shdC g long s sl with W:={(shdC g long s sl).W with T:=Jm (shdC g long s sl).W.T k}}:=by
 show(if 3%6<2 then _ else if 3%6=2 then _ else _)=_
 grind
theorem jgD {g:PlG} {long tn:Nat} {k a:Int} {j v:Nat} {y:jg} (hs:slotT s.W.T k=some ((j:Nat):Int)) (hy:g.L[j]?=some y) (hr0:(refP s.W.x g.slots y a).2=0) (h3: ¬(v≠0∧(hpSlot tn s.W.T v).isNone=true)):
  doesC g long s ⟨2,k,a,if v=0 then-1 else(capI v:Nat)⟩=jbZ g (jM g long (jM g long s (refP s.W.x g.slots y a).1) (if v=0 then-1 else(hpSlot tn s.W.T v).getD (-1))) (j:Nat) a (if v=0 then-1 else(hpSlot tn s.W.T v).getD (-1)):=by
 show(if 2%6<2 then _ else if 2%6=2 then jaU _ _ _ _ else _)=_
 rw[if_neg (by decide),if_pos (by decide)];unfold jaU;rw[hs];dsimp only;rw[jC hy]
 by_cases h0:v=0
 ·rw[if_pos h0,if_pos h0,if_neg (fun q=>by omega),if_neg (fun q=>q hr0)]
  rfl
 ·obtain⟨to,hto⟩: ∃ to,hpSlot tn s.W.T v=some to:=by
   cases hq:hpSlot tn s.W.T v with
   |none=>grind
   |some to=>grind
  grind[toC,jai]
theorem jmA (hC:jk C) (hI:HeI C h) {sl a:Int} {v k:Nat} (hs:slotT h.s.W.T (k:Nat)=some sl) (hv:v<18446744073709551616) (hw:wr=true):j8 C wr h (JZ C h sl a v).2:=by
 obtain⟨j,rfl,hj⟩:=jaT (J8 hI.ok.w hs)
 obtain⟨y,hy⟩:=jY hj
 unfold JZ
 split
 ·exact .refl
 ·split
  ·exact HpMv.one (.word hw hs ⟨by omega,by omega⟩)
  ·split
   ·exact .refl
   ·rename_i h1 h2 h3
    rw[jC hy] at h1 h2⊢
    have hf:=(jcJ (x:=h.s.W.x) (y:=y) (i:=a) (Classical.byContradiction h1)).1
    rw[not_false' h2] at hf
    have hr0:=je4 hI.ok.rf hy hf
    have m:HpMv C wr h {h with s:=doesC C.g C.long h.s ⟨2,(k:Nat),a,if v=0 then-1 else(capI v:Nat)⟩}:= .acts (show 2≤2%6 by decide) fun e=>by grind
    rw[jgD hs hy hr0 h3] at m;exact HpMv.one m
theorem op_mvs (hC:jk C) (hI:HeI C h) {op:OpP} {sl:Int} (hs:slotT h.s.W.T (capI op.h:Nat)=some sl) (hv:op.v<18446744073709551616) (hw:op.c=3∨op.c=5→wr=true):j8 C wr h (hpOp C h op sl).2:=by
 unfold hpOp
 split
 ·grind[read_mvs]
 ·split
  ·grind[jmA]
  ·split
   ·have m:HpMv C wr h {h with s:=doesC C.g C.long h.s ⟨4,(capI op.h:Nat),0,0⟩}:= .acts (show 2≤4%6 by decide) fun _=> .inr (show 4%6=4 by decide)
    rw[jg0 hs] at m;exact HpMv.one m
   ·split
    ·rename_i e5
     unfold jbj
     split
     ·exact .refl
     ·have m:HpMv C wr h {h with s:=doesC C.g C.long h.s ⟨5,(capI op.h:Nat),0,0⟩}:= .acts (show 2≤5%6 by decide) fun e=>by grind
      grind[jgA,HpMv.one]
    ·split
     ·have m:HpMv C wr h {h with s:=doesC C.g C.long h.s ⟨3,(capI op.h:Nat),0,0⟩}:= .acts (show 2≤3%6 by decide) fun _=> .inl (show 3%6=3 by decide)
      rw[jhd hs] at m;exact HpMv.one m
     ·exact .refl
theorem does_mvs (hC:jk C) (hI:HeI C h) {op:OpP} (hv:op.v<18446744073709551616) (hw:op.c=3∨op.c=5→wr=true):j8 C wr h (jt C h op).2:=by
 unfold jt
 split
 ·exact .refl
 ·split
  ·grind[jhi]
  ·split
   ·exact .refl
   grind[op_mvs,jai]
theorem jdN (hC:jk C) (hI:HeI C h) {op:OpP} (hv:op.v<18446744073709551616) (hw:op.c=3∨op.c=5→wr=true):j8 C wr h (hpDo C h op).2:=by
 have m:j8 C wr h {h with wk:=0}:=HpMv.one (.free rfl fun h=>h)
 exact m.trans (does_mvs hC (hI.mvs hC m) hv hw)
theorem jfW {k u:Int}:j8 C wr h (jay C h k u).2:=by
 unfold jay
 split
 ·cases hs:stepC C.g C.long C.nw h.s k u with
  |none=>exact .refl
  |some s'=>exact HpMv.one (.step hs)
 ·exact .refl
end
end Go.Proofs.YtpcgafhgfjlkmaaGreatDoor.Sw
