/-The walker and the contracts that the law needs,part 21. -/
import Derived.Test.YtldomapkmopomaaGreatDoorD1
import Derived.ArgAppend
import Derived.ChangeMaps5
import Derived.Deep.Fields
import Derived.Deep.LoopGhost
import Derived.Deep.OwnRows
import Derived.Deep.Quiet
import Derived.Deep.Slices
import Derived.IntWalk
import Derived.Laws.Cells
import Derived.Laws.CopyOwn
import Derived.Laws.Externs
import Derived.Laws.FloatArith
import Derived.Laws.IdiomStrings
import Derived.Laws.NewFold
import Derived.Laws.StructEq
import Derived.Lib.BitFns
import Derived.Lib.Hide
import Derived.Lib.SmallJoins
import Derived.Lib.TrailingZeros
import Derived.Maps.RangeRun
import Derived.OrdersIn
import Derived.ProofKit
import Derived.RangeFuncBound
import Derived.RangeFuncCalls
import Derived.RangeFuncLeaves
import Derived.RangeFuncNested
import Derived.RecoverIn
import Derived.Shelf.Bits.Mul64
import Derived.Shelf.Slices.Turned
import Derived.Shelf.Spec.TrailingZeros
import Derived.Shelf.Strconv.Itoa0
import Derived.SizedLaws
import Derived.Sort.BigQuietIn
import Derived.StillTailTactics
import Derived.Test.YtldomapkmopomaaGreatDoorProg
import Derived.WalkKit
import Derived.Test.YtldomapkmopomaaGreatDoorJ19
import Derived.Test.YtldomapkmopomaaGreatDoorJ20
set_option linter.unusedVariables false set_option linter.unusedSimpArgs false namespace Go.Proofs.YtldomapkmopomaaGreatDoor.Sw
set_option maxHeartbeats 8000000
open Go.Proofs.YtldomapkmopomaaGreatDoor renaming lo → qL, hi → qH
open Go.RowKit
set_option linter.unusedVariables false
set_option linter.unusedSimpArgs false
set_option maxRecDepth 10000
def pwP (c:Cfg) (t:Int) (k:Nat):Int:=(pagesP c t (k:Nat)).1*c.page
def wordsP (c:Cfg) (t:Int):Int:=sumN (pwP c t) c.cl.length
def regionP (c:Cfg) (t:Int):Int × Int:=if thereP c t 0 then(wordsP c t,0) else(0,2)
def jaU (c:Cfg) (t:Int):Int × Int:=if thereP c t 0 then(sumN (fun i=>wordsP c (i:Nat)) t.toNat,0) else(0,2)
def totalP (c:Cfg):Int × Int:=if jT c then(sumN (fun i=>wordsP c (i:Nat)) c.tn.length,0) else(0,2)
theorem jaS {c:Cfg} {i j:Nat} (hc:jT c=true) (hi:i<c.tn.length) (hj:j<c.cl.length):thereP c (i:Nat) (j:Nat)=true:=by
 simp only[thereP,hc,JX,Bool.and_eq_true,decide_eq_true_eq]
 refine⟨trivial,?_,?_,?_,?_,trivial⟩<;>omega
theorem jfA {c:Cfg} {t k:Int} (h:thereP c t k=true):1≤(pagesP c t k).1∧(pagesP c t k).1≤2048∧(pagesP c t k).2=0:=by
 have h':=h
 obtain⟨i,j,x,y,rfl,rfl,hx,hy,ok⟩:=ja9 h
 have hb:=(ok.ten x (List.mem_of_getElem? hx)).1
 have hb2:=ok.el y (List.mem_of_getElem? hy)
 have hpg:=ok.page
 have he:pagesP c (i:Nat) (j:Nat)=(jb9 c.page x.quota y,0):=by simp[pagesP,h',cfgQ,cfgC,hx,hy]
 have hsl:=jfs (q:=x.quota) (y:=y) (by omega) (by omega) hb.2
 have hper:1≤c.page/y∧c.page/y≤64:=⟨(Int.le_ediv_iff_mul_le (by omega)).2 (by omega),Int.le_trans (Int.ediv_le_self _ (by omega)) hpg.2⟩
 rw[he];unfold jb9;unfold jaK at hsl
 obtain⟨n,hn⟩: ∃ n,n=x.quota/y:=⟨_,rfl⟩
 obtain⟨p,hp⟩: ∃ p,p=c.page/y:=⟨_,rfl⟩
 rw[←hn] at hsl⊢;rw[←hp] at hper⊢;refine⟨(Int.le_ediv_iff_mul_le (by omega)).2 (by omega),?_,rfl⟩
 have h1:(n+p-1)/p<n+1:=(Int.ediv_lt_iff_lt_mul (by omega)).2 (by
  have e:(n+1)*p=n*p+p:=by rw[Int.add_mul,Int.one_mul]
  have:n*1≤n*p:=Int.mul_le_mul_of_nonneg_left hper.1 (by omega)
  omega)
 show(n+p-1)/p≤2048
 omega
theorem pw_le {c:Cfg} {t:Int} {k:Nat} (h:thereP c t (k:Nat)=true):0≤pwP c t k∧pwP c t k≤131072:=by
 obtain⟨h1,h2,_⟩:=jfA h
 obtain⟨i,j,x,y,_,_,hx,hy,ok⟩:=ja9 h
 have hb2:=ok.el y (List.mem_of_getElem? hy)
 have hpg:=ok.page
 unfold pwP;refine⟨Int.mul_nonneg (by omega) (by omega),?_⟩
 have h3:(pagesP c t (k:Nat)).1*c.page≤2048*c.page:=Int.mul_le_mul_of_nonneg_right h2 (by omega)
 omega
theorem jcJ {c:Cfg} {i:Nat} (hc:jT c=true) (hi:i<c.tn.length):0≤wordsP c (i:Nat)∧wordsP c (i:Nat)≤1048576:=by
 have ok:=jar hc
 have h:=jbW (f:=pwP c (i:Nat)) (B:=131072) (n:=c.cl.length) (fun k hk=>pw_le (jaS hc hi hk))
 have:=ok.cl.2
 unfold wordsP
 omega
set_option maxHeartbeats 2000000 in
theorem words1_K {w0:World} {F:jb} {c:Cfg} {vc vt:Value} {b1 b2 i k:Nat} (hR:j1 w0 F c vc vt) (hc:jT c=true) (hi:i<c.tn.length) (hk:k<c.cl.length):
  Call Tryz.prog w0 198 [.int .i64 (k:Nat), .pointer (some ⟨b1,0,none⟩), .pointer (some ⟨b2,0,none⟩)] ((b1,cells (jJ c vc vt) 25)::(b2,cells [.int .i64 (i:Nat)] 3)::F)
   (fun r H'=>r= .int .i64 (pwP c (i:Nat) k)∧H'=(b1,cells (jJ c vc vt) 25)::(b2,cells [.int .i64 (i:Nat)] 3)::F):=by
 have hth:=jaS hc hi hk
 have hc0:=fun A (hp:Part A F)=>Pages_K (t:=(i:Nat)) (k:=(k:Nat)) (hR.part hp)
 have hpl:=jfA hth
 have hpw:=pw_le hth
 have hok:=jar hc
 have e1:pwP c (i:Nat) k=(pagesP c (i:Nat) (k:Nat)).1*c.page:=rfl
 rw[e1] at hpw⊢
 obtain⟨p,hp⟩: ∃ p,p=(pagesP c (i:Nat) (k:Nat)):=⟨_,rfl⟩
 rw[←hp] at hc0 hpl hpw⊢
 obtain⟨p1,p2⟩:=p
 obtain⟨hS,hT',o1,o2,l1,l2⟩:=hR
 obtain⟨cl,page,tn,workers,grey,gens⟩:=c
 dsimp only at hS hT' l1 l2 hpl hpw hc0⊢
 obtain⟨_,_,rfl⟩:=hpl
 simp only[jt,jJ,prV] at hc0⊢;refine Call.enter3 (n:=18) (by kernel_rfl) Tryz.func198 rfl rfl rfl ?_;refine yq10 fun T hT=>?_;refine zD ?_;rintro _ _ ⟨rfl,rfl⟩;refine za ?_;clear hT T;refine yr17 ?_;exact zd
open Go.RowKit
set_option maxRecDepth 10000
theorem jfP {w0:World} {H:jb} {c:Cfg} {vc vt:Value} {i:Nat} (hR:j1 w0 H c vc vt) (hc:jT c=true) (hi:i<c.tn.length):
  Call Tryz.prog w0 117 [jt c vc vt, .int .i64 (i:Nat)] H (fun r H'=>r= .int .i64 (wordsP c (i:Nat))∧H'=H):=by
 have hc1:=fun k b1 b2 (hk:k<c.cl.length)=>words1_K (b1:=b1) (b2:=b2) hR hc hi hk
 have hok:=jar hc
 have hB:=fun k (hk:k<c.cl.length)=>pw_le (jaS hc hi hk)
 obtain⟨hS,hT',o1,o2,l1,l2⟩:=hR
 have e1:wordsP c (i:Nat)=sumN (pwP c (i:Nat)) c.cl.length:=rfl
 rw[e1]
 obtain⟨f,hf⟩: ∃ f,f=pwP c (i:Nat):=⟨_,rfl⟩
 rw[←hf] at hB hc1⊢
 obtain⟨cl,page,tn,workers,grey,gens⟩:=c
 have hcl:=hok.cl
 dsimp only at hS hT' l1 l2 hcl hc1 hB⊢;simp only[jt,jJ] at hc1⊢;refine Call.enter2 (n:=9) (by kernel_rfl) Tryz.func117 rfl rfl rfl ?_;refine yr2 ?_;refine zH ?_;intro b2 b3;refine yq8 fun T hT=>?_;refine(CallV.part (CallV.fn (sumI_K (H:=(b2,cells [vc, .int .i64 page,vt, .int .i64 workers, .int .i64 grey, .int .i64 gens] 25)::(b3,cells [.int .i64 (i:Nat)] 3)::H) (l:=cl) (f:=f) (hS.part ja) hcl.2 ?_ ?_)) ja).mono ?_
 ·intro k hk
  have:=hB k hk
  omega
 ·intro k hk;exact CallV.clo (cap:=[_,_]) (hc1 k _ _ hk)
 ·refine zc ?_;clear hT T;refine yr4 ?_;exact zd
set_option maxRecDepth 10000
theorem tot1_K {w0:World} {F:jb} {c:Cfg} {vc vt:Value} {b1 i:Nat} (hR:j1 w0 F c vc vt) (hc:jT c=true) (hi:i<c.tn.length):
  Call Tryz.prog w0 176 [.int .i64 (i:Nat), .pointer (some ⟨b1,0,none⟩)] ((b1,cells (jJ c vc vt) 25)::F)
   (fun r H'=>r= .int .i64 (wordsP c (i:Nat))∧H'=(b1,cells (jJ c vc vt) 25)::F):=by
 have hc0:=fun A (hp:Part A F)=>jfP (hR.part hp) hc hi
 obtain⟨hS,hT',o1,o2,l1,l2⟩:=hR
 obtain⟨p,hp⟩: ∃ p,p=wordsP c (i:Nat):=⟨_,rfl⟩
 rw[←hp] at hc0⊢
 obtain⟨cl,page,tn,workers,grey,gens⟩:=c
 dsimp only at hS hT' l1 l2 hc0⊢;simp only[jt,jJ] at hc0⊢;refine Call.enter2 (n:=7) (by kernel_rfl) Tryz.func176 rfl rfl rfl ?_;refine yq9 fun T hT=>?_;refine zD ?_;rintro _ _ ⟨rfl,rfl⟩;refine za ?_;clear hT T;refine yr4 ?_;exact zd
theorem base1_K {w0:World} {F:jb} {c:Cfg} {vc vt:Value} {b1 i:Nat} (hR:j1 w0 F c vc vt) (hc:jT c=true) (hi:i<c.tn.length):
  Call Tryz.prog w0 177 [.int .i64 (i:Nat), .pointer (some ⟨b1,0,none⟩)] ((b1,cells (jJ c vc vt) 25)::F)
   (fun r H'=>r= .int .i64 (wordsP c (i:Nat))∧H'=(b1,cells (jJ c vc vt) 25)::F):=by
 have hc0:=fun A (hp:Part A F)=>jfP (hR.part hp) hc hi
 obtain⟨hS,hT',o1,o2,l1,l2⟩:=hR
 obtain⟨p,hp⟩: ∃ p,p=wordsP c (i:Nat):=⟨_,rfl⟩
 rw[←hp] at hc0⊢
 obtain⟨cl,page,tn,workers,grey,gens⟩:=c
 dsimp only at hS hT' l1 l2 hc0⊢;simp only[jt,jJ] at hc0⊢;refine Call.enter2 (n:=7) (by kernel_rfl) Tryz.func177 rfl rfl rfl ?_;refine yq9 fun T hT=>?_;refine zD ?_;rintro _ _ ⟨rfl,rfl⟩;refine za ?_;clear hT T;refine yr4 ?_;exact zd
theorem jes {w0:World} {H:jb} {c:Cfg} {vc vt:Value} {t:Int} (hR:j1 w0 H c vc vt):
  Call Tryz.prog w0 55 [jt c vc vt, .int .i64 t] H (fun r H'=>r=prV (regionP c t)∧H'=H):=by
 have hc0:=fun A (hp:Part A H)=>jfS (t:=t) (k:=0) (hR.part hp)
 have hw:=fun A (hp:Part A H) (i:Nat) (hc:jT c=true) (hi:i<c.tn.length)=>jfP (hR.part hp) hc hi
 obtain⟨hS,hT',o1,o2,l1,l2⟩:=hR
 cases ht:thereP c t 0 with
 |false=>
  have he:regionP c t=(0,2):=by simp[regionP,ht]
  rw[ht] at hc0;rw[he];clear hw
  obtain⟨cl,page,tn,workers,grey,gens⟩:=c
  dsimp only at hS hT' l1 l2 he;simp only[jt,jJ] at hc0⊢;refine Call.enter2 (n:=13) (by kernel_rfl) Tryz.func55 rfl rfl rfl ?_;refine yr2 ?_;refine ze ?_;intro b2;refine yq9 fun T hT=>?_;refine zD ?_;rintro _ _ ⟨rfl,rfl⟩;refine za ?_;clear hT T;refine yr12 ?_;exact zd
 |true=>
  obtain⟨i,j,x,y,rfl,_,hx,hy,ok⟩:=ja9 ht
  have hil:=jl hx
  have hcp:jT c=true:=by simp only[thereP,Bool.and_eq_true] at ht;exact ht.1
  have he:regionP c (i:Nat)=(wordsP c (i:Nat),0):=by simp[regionP,ht]
  have hw':=fun A hp=>hw A hp i hcp hil
  clear hw;rw[ht] at hc0;rw[he]
  obtain⟨p,hp⟩: ∃ p,p=wordsP c (i:Nat):=⟨_,rfl⟩
  rw[←hp] at hw'⊢
  obtain⟨cl,page,tn,workers,grey,gens⟩:=c
  dsimp only at hS hT' l1 l2 he hx hy hil;simp only[jt,jJ] at hc0 hw'⊢;refine Call.enter2 (n:=13) (by kernel_rfl) Tryz.func55 rfl rfl rfl ?_;refine yr2 ?_;refine ze ?_;intro b2;refine yq9 fun T hT=>?_;refine zD ?_;rintro _ _ ⟨rfl,rfl⟩;refine za ?_;clear hT T;refine yq10 fun T hT=>?_;refine(CallV.fn (hw' _ ja)).mono ?_;rintro _ _ ⟨rfl,rfl⟩;refine za ?_;clear hT T;refine yr5 ?_;exact zd
theorem Total_K {w0:World} {H:jb} {c:Cfg} {vc vt:Value} (hR:j1 w0 H c vc vt):
  Call Tryz.prog w0 98 [jt c vc vt] H (fun r H'=>r=prV (totalP c)∧H'=H):=by
 have hc0:=fun A (hp:Part A H)=>jgo (hR.part hp)
 cases hc:jT c with
 |false=>
  have he:totalP c=(0,2):=by simp[totalP,hc]
  rw[hc] at hc0;rw[he];simp only[errB,Bool.false_eq_true,if_false] at hc0
  obtain⟨hS,hT',o1,o2,l1,l2⟩:=hR
  obtain⟨cl,page,tn,workers,grey,gens⟩:=c
  dsimp only at hS hT' l1 l2 he;simp only[jt,jJ] at hc0⊢;refine Call.enter1 (n:=14) (by kernel_rfl) Tryz.func98 rfl rfl rfl ?_;refine yr2 ?_;refine ze ?_;intro b1;refine yq8 fun T hT=>?_;refine zD ?_;rintro _ _ ⟨rfl,rfl⟩;refine za ?_;clear hT T;refine yr19 ?_;exact zd
 |true=>
  have hok:=(jar hc).tn
  have he:totalP c=(sumN (fun i=>wordsP c (i:Nat)) c.tn.length,0):=by simp[totalP,hc]
  have hc1:=fun k b1 (hk:k<c.tn.length)=>tot1_K (b1:=b1) hR hc hk
  have hB:=fun k (hk:k<c.tn.length)=>jcJ hc hk
  rw[hc] at hc0;rw[he];simp only[errB,if_true] at hc0
  obtain⟨f,hf⟩: ∃ f:Nat→Int,f=fun i=>wordsP c (i:Nat):=⟨_,rfl⟩
  have hfi: ∀ i,wordsP c (i:Nat)=f i:=fun i=>by rw[hf]
  rw[←hf];simp only[hfi] at hB hc1
  obtain⟨hS,hT',o1,o2,l1,l2⟩:=hR
  obtain⟨cl,page,tn,workers,grey,gens⟩:=c
  dsimp only at hS hT' l1 l2 he hok hB hc1⊢;simp only[jt,jJ] at hc0 hc1⊢;refine Call.enter1 (n:=14) (by kernel_rfl) Tryz.func98 rfl rfl rfl ?_;refine yr2 ?_;refine ze ?_;intro b1;refine yq8 fun T hT=>?_;refine zD ?_;rintro _ _ ⟨rfl,rfl⟩;refine za ?_;clear hT T;refine yq17 fun T hT=>?_;refine(CallV.part (CallV.fn (sumT_K (H:=(b1,cells [vc, .int .i64 page,vt, .int .i64 workers, .int .i64 grey, .int .i64 gens] 25)::H) (l:=tn) (f:=f) (hT'.part ja) hok.2 (fun k hk=>hB k hk) ?_)) ja).mono ?_
  ·intro k hk;exact CallV.clo (cap:=[_]) (hc1 k _ hk)
  ·refine zc ?_;clear hT T;refine yr5 ?_;exact zd
set_option maxRecDepth 10000
def gOf (c:Cfg) (t:Int):PlG:=⟨c.cl.map Int.toNat,c.page.toNat,(cfgQ c t).toNat⟩
section
variable {c : Cfg} {t : Int}
theorem gOf_m:(gOf c t).m=c.cl.length:=by simp[PlG.m,gOf]
theorem gOf_y {k:Nat} {y:Int} (h:c.cl[k]?=some y):(gOf c t).y k=y.toNat:=by
 simp[PlG.y,gOf,List.getD,h]
structure GAt (c:Cfg) (t:Int) (g:PlG):Prop where
 ok:je g
 m:g.m=c.cl.length
 page:c.page=(g.pg:Nat)
 y: ∀ (k:Nat) (y:Int),c.cl[k]?=some y→y=(g.y k:Nat)
 slots: ∀ k:Nat,k<g.m→J9 c t (k:Nat)=(((g.n k:Nat):Int),0)
 pages: ∀ k:Nat,k<g.m→pagesP c t (k:Nat)=(((g.pgs k:Nat):Int),0)
 region:regionP c t=(((g.words:Nat):Int),0)
theorem sum_cum {f:Nat→Int} {n:Nat→Nat} {p:Nat}: ∀ {m:Nat},(∀ k,k<m→f k=((n k*p:Nat):Int))→sumN f m=((jy n m*p:Nat):Int)
 |0,_=>by simp[sumN,jy]
 |m+1,h=>by
  have h1:=sum_cum (m:=m) (fun k hk=>h k (by omega))
  have h2:=h m (by omega)
  simp only[sumN,jy,h1,h2,Nat.add_mul];omega
theorem g_at (h:thereP c t 0=true):GAt c t (gOf c t):=by
 obtain⟨i,j,x,y0,rfl,_,hx,_,ok⟩:=ja9 h
 have hil:=jl hx
 have hcp:jT c=true:=by simp only[thereP,Bool.and_eq_true] at h;exact h.1
 have hq:cfgQ c (i:Nat)=x.quota:=by simp[cfgQ,hx]
 obtain⟨⟨q1,q2⟩,_⟩:=ok.ten x (List.mem_of_getElem? hx)
 have hpg:=ok.page
 have key: ∀ k,k<c.cl.length→ ∃ y:Nat,c.cl[k]?=some (y:Int)∧2≤y∧(y:Int)≤topP c.cl∧(gOf c (i:Nat)).y k=y:=by
  intro k hk
  obtain⟨y,hy⟩:=jn hk
  have h1:=ok.el y (List.mem_of_getElem? hy)
  refine⟨y.toNat,by rw[hy];congr 1;omega,by omega,by omega,gOf_y hy⟩
 obtain⟨q,hqn⟩: ∃ q:Nat,x.quota=q:=⟨x.quota.toNat,by obtain⟨y,_,h2,h3,_⟩:=key 0 (by have:=ok.cl;omega);omega⟩
 obtain⟨p,hpn⟩: ∃ p:Nat,c.page=p:=⟨c.page.toNat,by obtain⟨y,_,h2,h3,_⟩:=key 0 (by have:=ok.cl;omega);omega⟩
 have hgq:(gOf c (i:Nat)).q=q:=by simp[gOf,hq,hqn]
 have hgp:(gOf c (i:Nat)).pg=p:=by simp[gOf,hpn]
 have hgm:(gOf c (i:Nat)).m=c.cl.length:=gOf_m
 have hth: ∀ k,k<c.cl.length→thereP c (i:Nat) (k:Nat)=true:=fun k hk=>jaS hcp hil hk
 have hok:je (gOf c (i:Nat)):=by
  refine⟨by rw[hgm];exact ok.cl,fun k hk=>?_,by rw[hgp];omega,by rw[hgq];omega⟩;rw[hgm] at hk
  obtain⟨y,_,h2,h3,h4⟩:=key k hk
  rw[h4,hgp,hgq];omega
 have hsl: ∀ k:Nat,k<(gOf c (i:Nat)).m→J9 c (i:Nat) (k:Nat)=((((gOf c (i:Nat)).n k:Nat):Int),0):=by
  intro k hk;rw[hgm] at hk
  obtain⟨y,h1,h2,h3,h4⟩:=key k hk
  simp only[J9,hth k hk,if_true,jaK,hq,cfgC,Int.toNat_natCast,h1,Option.getD_some,PlG.n,h4,hgq,hqn]
  rfl
 have hpp: ∀ k:Nat,k<(gOf c (i:Nat)).m→pagesP c (i:Nat) (k:Nat)=((((gOf c (i:Nat)).pgs k:Nat):Int),0):=by
  intro k hk
  have b1:=hok.n hk
  have b2:=hok.per hk
  rw[hgm] at hk
  obtain⟨y,h1,h2,h3,h4⟩:=key k hk
  have e1:((gOf c (i:Nat)).n k:Int)=(q:Int)/(y:Int):=by simp only[PlG.n,h4,hgq];rfl
  have e2:((gOf c (i:Nat)).per k:Int)=(p:Int)/(y:Int):=by simp only[PlG.per,h4,hgp];rfl
  simp only[pagesP,hth k hk,if_true,jb9,hq,cfgC,Int.toNat_natCast,h1,Option.getD_some,hqn,hpn,←e1,←e2]
  congr 1
  unfold PlG.pgs
  have e3:(((gOf c (i:Nat)).n k:Nat):Int)+((gOf c (i:Nat)).per k:Nat)-1=(((gOf c (i:Nat)).n k+(gOf c (i:Nat)).per k-1:Nat):Int):=by omega
  rw[e3];rfl
 refine⟨hok,hgm,by rw[hgp,hpn],?_,hsl,hpp,?_⟩
 ·intro k y hy
  obtain⟨y',h1,h2,h3,h4⟩:=key k (jl hy)
  rw[h4,hy] at*
  cases h1;rfl
 ·simp only[regionP,h,if_true,wordsP]
  congr 1
  rw[←hgm]
  refine sum_cum fun k hk=>?_
  simp only[pwP,hpp k hk,hpn,hgp]
  rfl
end
open Go.RowKit
set_option maxRecDepth 10000
theorem Of0_K {w0:World} {F:jb} {p:jO} {k:Nat} (ok:J2 p) (hk:k<p.g.m):
  Call Tryz.prog w0 104 [.pointer (some ⟨p.b,0,none⟩), .int .i64 (k:Nat)] (planH p++F) (fun r H'=>r= .tuple [.int .i64 (p.g.first k:Nat), .int .i64 (p.g.n k:Nat), .int .i64 0].toArray∧H'=planH p++F):=by
 have ho:=ok.o
 have hpl:p.g.parts.length=p.g.m:=jbP
 have hkl:k<p.g.parts.length:=by omega
 have hge: ¬((k:Nat):Int)≥((p.g.parts.length:Nat):Int):=by omega
 have hx:p.g.parts[k]?=some (p.g.pt k):=jch hk
 refine Call.enter2 (n:=38) (by kernel_rfl) Tryz.func104 rfl rfl rfl ?_;refine yq12 fun T hT=>?_;refine zbD ?_;rintro _ _ ⟨rfl,rfl⟩;refine za ?_;clear hT T;simp only[jB,jV,jN];refine yr32 ?_;refine K.drawn [] [(0,0),(1,0),(2,0),(3,0),(4,0),(5,0),(6,0),(7,0),(8,0),(9,0),(10,0),(11,0),(12,0),(13,0),(14,0),(15,0),(16,0),(17,0),(18,0)] (by kernel_rfl) (by kernel_rfl) (by kernel_rfl) (by kernel_rfl) (by kernel_rfl) (by kernel_rfl) Part.nil ?_;refine zbd ?_;refine zN ?_;refine zb6 ?_;refine zbj ?_;refine zbd ?_;refine zN ?_;refine zcC ?_;refine zbj ?_;refine zbC ?_;refine zab ?_;refine yr2 ?_;exact zaB
theorem Of0_E {w0:World} {F:jb} {p:jO} {k:Int} (ok:J2 p) (hk: ¬(0≤k∧k<(p.g.m:Nat))):
  Call Tryz.prog w0 104 [.pointer (some ⟨p.b,0,none⟩), .int .i64 k] (planH p++F) (fun r H'=>r= .tuple [.int .i64 0, .int .i64 0, .int .i64 2].toArray∧H'=planH p++F):=by
 have ho:=ok.o
 have hpl:p.g.parts.length=p.g.m:=jbP
 refine Call.enter2 (n:=38) (by kernel_rfl) Tryz.func104 rfl rfl rfl ?_
 by_cases h0:k<0
 ·refine yq12 fun T hT=>?_;refine zbD ?_;rintro _ _ ⟨rfl,rfl⟩;refine za ?_;clear hT T;simp only[jB,jV,jN];refine yr31 ?_;exact zaB
 ·have hge:k≥((p.g.parts.length:Nat):Int):=by omega
  refine yq12 fun T hT=>?_;refine zbD ?_;rintro _ _ ⟨rfl,rfl⟩;refine za ?_;clear hT T;simp only[jB,jV,jN];refine yr38 ?_;exact zaB
def ptsP (g:PlG) (k:Nat):List PartP:=(List.range k).map g.pt
theorem pts_succ (g:PlG) (k:Nat):ptsP g k++ [g.pt k]=ptsP g (k+1):=by simp[ptsP,List.range_succ]
theorem pts_len (g:PlG) (k:Nat):(ptsP g k).length=k:=by simp[ptsP]
structure NwS where
 k:Nat
 o:Own
theorem pNew_K {w0:World} {F:jb} {c:Cfg} {vc vt:Value} {t:Int} (hR:j1 w0 F c vc vt) (ht:thereP c t 0=true):
  Call Tryz.prog w0 56 [jt c vc vt, .int .i64 t] F (fun r H'=> ∃ p:jO,J2 p∧p.g=gOf c t∧r= .tuple [.pointer (some ⟨p.b,0,none⟩), .int .i64 0].toArray∧H'=planH p++F):=by
 have ga:=g_at ht
 obtain⟨g,hg⟩: ∃ g,g=gOf c t:=⟨_,rfl⟩
 rw[←hg] at ga⊢
 have hreg:=fun A (hp:Part A F)=>jes (t:=t) (hR.part hp)
 have hsl:=fun A (k:Nat) (hp:Part A F)=>Slots_K (t:=t) (k:=(k:Nat)) (hR.part hp)
 have hpg:=fun A (k:Nat) (hp:Part A F)=>Pages_K (t:=t) (k:=(k:Nat)) (hR.part hp)
 rw[ga.region] at hreg
 have ok:=ga.ok
 have hm:=ok.m
 have hgm:=ga.m
 have hgy:=ga.y
 have hgs:=ga.slots
 have hgp:=ga.pages
 have hgpg:=ga.page
 have hpgl:=ok.pg
 obtain⟨hS,hT',o1,o2,l1,l2⟩:=hR
 obtain⟨cl,page,tn,workers,grey,gens⟩:=c
 dsimp only at hS hT' l1 l2 hgm hgy hgpg;simp only[jt,jJ] at hreg hsl hpg⊢;subst hgpg;simp only[prV] at hreg hsl hpg;clear ga hg ht
 have f0:g.first 0=0:=rfl
 have q0:g.page 0=0:=rfl
 refine Call.enter2 (n:=92) (by kernel_rfl) Tryz.func56 rfl rfl rfl ?_;refine yr2 ?_;refine ze ?_;intro b2;refine yq9 fun T hT=>?_;refine(CallV.fn (hreg _ ja)).mono ?_;rintro _ _ ⟨rfl,rfl⟩;refine za ?_;clear hT T;refine yr21 ?_;refine ze ?_;intro b27;refine yr13 ?_;refine K.loopT (σ:=NwS) [(1,_),(2,_),(8,_),(29,_),(30,_)] (fun s kp_=>(31, .int .i64 (s.k:Nat))::kp_) (fun s=>(b27,cells [oV s.o (ptsP g s.k).length, .int .i64 (g.first s.k:Nat), .int .i64 (g.page s.k:Nat), .int .i64 (g.pg:Nat)] 221)::(oH jcw 224 (ptsP g s.k) s.o++((b2,cells [vc, .int .i64 (g.pg:Nat),vt, .int .i64 workers, .int .i64 grey, .int .i64 gens] 25)::F))) (fun s=>s.k≤g.m∧oOk jcw (ptsP g s.k) s.o) (fun s=>g.m-s.k) (⟨0,none⟩) jg ja (⟨Nat.zero_le _,rfl⟩) ?_;rintro⟨k,o⟩ ⟨hk,hok⟩;dsimp only at hk hok⊢
 by_cases hlt:k<g.m
 ·obtain⟨y,hy⟩:=jn (l:=cl) (k:=k) (by omega)
  have hyk:=hgy k y hy
  subst hyk
  have hkl:k<cl.length:=by omega
  have hsl1:=fun A hp=>hsl A k hp
  have hpg1:=fun A hp=>hpg A k hp
  rw[hgs k hlt] at hsl1;rw[hgp k hlt] at hpg1
  have y1:=ok.y k hlt
  have hper:((g.pg:Nat):Int)/((g.y k:Nat):Int)=((g.per k:Nat):Int):=rfl
  have b1:=ok.first (show k≤g.m by omega)
  have b2':=ok.page (show k≤g.m by omega)
  have b3:=ok.n hlt
  have b4:=ok.pgs hlt
  have e1:((g.first k:Nat):Int)+((g.n k:Nat):Int)=((g.first (k+1):Nat):Int):=rfl
  have e2:((g.page k:Nat):Int)+((g.pgs k:Nat):Int)=((g.page (k+1):Nat):Int):=rfl
  have hptl:=pts_len g k
  have hptb:(ptsP g (k+1)).length≤4294967296:=by rw[pts_len];omega
  dsimp only at hsl1 hpg1;clear hsl hpg hgs hgp hgy;refine yq25 fun T hT=>?_;refine(CallV.fn (hsl1 _ ja)).mono ?_;rintro _ _ ⟨rfl,rfl⟩;refine za ?_;clear hT T;refine yq12 fun T hT=>?_;refine(CallV.fn (hpg1 _ ja)).mono ?_;rintro _ _ ⟨rfl,rfl⟩;refine za ?_;clear hT T;refine yr7 ?_;refine zw ?_
  (first|refine K.seq (K.drawn ((b27,cells [oV o (ptsP g k).length, .int .i64 (g.first k:Nat), .int .i64 (g.page k:Nat), .int .i64 (g.pg:Nat)] 221)::[]) [(0,1),(1,1),(2,1),(3,1),(4,1),(5,0),(6,0),(7,0),(8,0),(9,0),(10,0),(11,0),(12,0),(13,0),(14,0),(15,0),(16,0),(17,0),(18,0),(19,0),(20,2),(21,2),(22,0),(23,0),(24,4)] (by kernel_rfl) (by kernel_rfl) (by kernel_rfl) (by kernel_rfl) (by kernel_rfl) (by kernel_rfl) ja ?_)|refine K.seq (K.seq (K.drawn ((b27,cells [oV o (ptsP g k).length, .int .i64 (g.first k:Nat), .int .i64 (g.page k:Nat), .int .i64 (g.pg:Nat)] 221)::[]) [(0,1),(1,1),(2,1),(3,1),(4,1),(5,0),(6,0),(7,0),(8,0),(9,0),(10,0),(11,0),(12,0),(13,0),(14,0),(15,0),(16,0),(17,0),(18,0),(19,0),(20,2),(21,2),(22,0),(23,0),(24,4)] (by kernel_rfl) (by kernel_rfl) (by kernel_rfl) (by kernel_rfl) (by kernel_rfl) (by kernel_rfl) ja ?_))|refine K.drawn ((b27,cells [oV o (ptsP g k).length, .int .i64 (g.first k:Nat), .int .i64 (g.page k:Nat), .int .i64 (g.pg:Nat)] 221)::[]) [(0,1),(1,1),(2,1),(3,1),(4,1),(5,0),(6,0),(7,0),(8,0),(9,0),(10,0),(11,0),(12,0),(13,0),(14,0),(15,0),(16,0),(17,0),(18,0),(19,0),(20,2),(21,2),(22,0),(23,0),(24,4)] (by kernel_rfl) (by kernel_rfl) (by kernel_rfl) (by kernel_rfl) (by kernel_rfl) (by kernel_rfl) ja ?_)
  refine zm ?_;refine zm ?_;refine zbK ?_;refine zX ?_;refine zF ?_;refine zg ?_;refine zg ?_;refine zel ?_;refine zem ?_;refine zaG ?_;refine zg ?_;refine zel ?_;refine zdg ?_;refine zaL ?_;refine zem ?_;refine zaG ?_
  (first|refine KD.v0 rfl rfl (Val.quoN rfl rfl (by simp only[qL,qH];omega)) ?_|refine KD.v0 rfl rfl (Val.quo rfl rfl (by omega)) ?_)
  refine zay ?_;refine zdh ?_;intro b70;refine zW ?_
  -- STOP at region 10 op 21: {"h": "Op.call", "a": [{"callee": {"h": "Callee.builtin", "a": ["Builtin.append"]}, "args": [{"h": "Operand.tmp", "a": [54]}, {"h": "Operand.tmp", "a": [70]}], "argTypes": [219, 219]}]}
  refine KD.e rfl rfl (Eff.appZ (E:=jcw) (xs:=ptsP g k) (o:=o) (ys:=[g.pt k]) (zs:=ptsP g (k+1)) rfl rfl rfl rfl rfl rfl jh (by assumption) (by first|exact Sli.blk jq rfl (by first|decide|simp) (by first|decide|(unfold maxLen;omega)) rfl|exact Sli.old (by assumption)|exact Sli.own jh (by assumption) jG|assumption|exact Sli.part (by assumption) ja) (pts_succ g k) (by first|assumption|omega|(simp<;>fail)|(simp;omega)) rfl) ?_;rintro _ _ ⟨o',ok',rfl,rfl⟩;refine⟨ja,?_⟩;refine zel ?_;refine za2 ?_;refine zfj ?_;refine zp ?_;refine yr31 ?_;rw[e1,e2];exact KE.again ⟨k+1,o'⟩ jg ja ⟨hlt,ok'⟩ (by show g.m-(k+1)<g.m-k;omega)
 ·have hke:k=g.m:=by omega
  subst hke;refine yr20 ?_;exact KE.fin (H':=planH ⟨b27,g,o⟩++F) jd rfl jc (by rw[jN];exact ja) ⟨⟨b27,g,o⟩,⟨ok,hok⟩,rfl,rfl,rfl⟩
set_option maxRecDepth 10000
set_option maxRecDepth 10000
structure SpM where
 b:Nat
 d:J7
 at_:Nat
 act:Bool
 ab:Nat
 bb:Nat
 mb:Nat
def j8 (s:SpM):jb:=(s.b,cells [.pointer (some ⟨s.ab,0,none⟩), .pointer (some ⟨s.bb,0,none⟩), .pointer (some ⟨s.mb,0,none⟩), .pointer (some ⟨s.d.b,0,none⟩), .int .i64 (s.at_:Nat), .bool s.act] 240)::jz s.d
theorem sweepH_app {s:SpM} {F:jb}:j8 s++F=(s.b,cells [.pointer (some ⟨s.ab,0,none⟩), .pointer (some ⟨s.bb,0,none⟩), .pointer (some ⟨s.mb,0,none⟩), .pointer (some ⟨s.d.b,0,none⟩), .int .i64 (s.at_:Nat), .bool s.act] 240)::(jz s.d++F):=rfl
structure SpOk (s:SpM) (n:Nat):Prop where
 d:RowOk s.d
 dn:s.d.bs.length=n
 at_:s.at_≤n
section
variable {w0 : World} {F : jb} {s : SpM}
theorem jeg:Call Tryz.prog w0 145 [.pointer (some ⟨s.b,0,none⟩)] (j8 s++F) (fun r H'=>r= .bool false∧H'=j8 s++F):=by
 refine Call.enter1 (n:=12) (by kernel_rfl) Tryz.func145 rfl rfl rfl ?_;simp only[sweepH_app];refine yr25 ?_;exact zcD
theorem jeP:Call Tryz.prog w0 209 [.pointer (some ⟨s.b,0,none⟩)] (j8 s++F) (fun r H'=>r= .bool s.act∧H'=j8 s++F):=by
 refine Call.enter1 (n:=12) (by kernel_rfl) Tryz.func209 rfl rfl rfl ?_;refine yq8 fun T hT=>?_;refine(CallV.fn (jeg (s:=s))).mono ?_;rintro _ _ ⟨rfl,rfl⟩;refine za ?_;clear hT T;simp only[sweepH_app];refine yr15 ?_;exact zcD
def ja6 (s:SpM):Bool:=s.act&&decide (s.at_=s.d.bs.length)
theorem jfr:Call Tryz.prog w0 146 [.pointer (some ⟨s.b,0,none⟩)] (j8 s++F) (fun r H'=>r= .bool (ja6 s)∧H'=j8 s++F):=by
 have hd:ja6 s=(s.act&&decide (((s.at_:Nat):Int)=(s.d.bs.length:Nat))):=by
  unfold ja6;congr 1;exact decide_eq_decide.2 (by omega)
 rw[hd]
 cases ha:s.act with
 |true=>
  refine Call.enter1 (n:=17) (by kernel_rfl) Tryz.func146 rfl rfl rfl ?_;refine yr6 ?_;refine zfk ?_;refine zV fun T hT=>?_;refine(CallV.fn (jeP (s:=s))).mono ?_;rintro _ _ ⟨rfl,rfl⟩;rw[ha];refine zh ?_;clear hT T;simp only[sweepH_app];refine zg ?_;refine zcE ?_;refine KD.y1 rfl rfl rfl rfl (Val.nilCheck rfl) ?_;refine KD.y1 rfl rfl rfl rfl (Val.fieldAddr0 (k:=4) rfl rfl) ?_;refine za3 ?_;refine zC ?_;refine zaN ?_;refine KD.y0 rfl rfl rfl rfl (Val.fieldAddr0 (k:=3) rfl rfl) ?_;refine zah ?_;refine zv fun T hT=>?_;refine(CallV.part (CallV.fn (rLen_K (r:=s.d))) ja).mono ?_;refine zl ?_;clear hT T;refine KD.y0 rfl rfl rfl rfl (Val.eql rfl rfl) ?_;refine zaA ?_;refine zy ?_;refine yr2 ?_;exact zcD
 |false=>
  refine Call.enter1 (n:=17) (by kernel_rfl) Tryz.func146 rfl rfl rfl ?_;refine yr6 ?_;refine zfk ?_;refine zV fun T hT=>?_;refine(CallV.fn (jeP (s:=s))).mono ?_;rintro _ _ ⟨rfl,rfl⟩;rw[ha];refine zh ?_;clear hT T;refine zaR ?_;refine zZ ?_;refine zbc ?_;refine zaU ?_;refine yr2 ?_;exact zcD
theorem spStart_K (ha:s.act=false):Call Tryz.prog w0 205 [.pointer (some ⟨s.b,0,none⟩)] (j8 s++F) (fun r H'=>r= .int .i64 0∧H'=j8 {s with act:=true}++F):=by
 refine Call.enter1 (n:=14) (by kernel_rfl) Tryz.func205 rfl rfl rfl ?_;refine yq10 fun T hT=>?_;refine(CallV.fn (jeg (s:=s))).mono ?_;rintro _ _ ⟨rfl,rfl⟩;refine za ?_;clear hT T;simp only[sweepH_app,ha];refine yr31 ?_;exact zcD
def idxP (bs:List Bool):List Int:=((List.range bs.length).filter fun i=>(bs[i]?).getD false).map fun i=>((i:Nat):Int)
def idxTo (bs:List Bool) (k:Nat):List Int:=((List.range k).filter fun i=>(bs[i]?).getD false).map fun i=>((i:Nat):Int)
theorem jdU {α:Type} {q:Nat→Bool}: ∀ {i k:Nat},k≤i→(∀ j,k≤j→j<i→q j=false)→(List.range i).filter q=(List.range k).filter q
  | 0, k, h, _ => by have : k = 0 := by omega
                     subst this;rfl
  |i+1,k,h,hq=>by
    by_cases e:k=i+1
    ·rw[e]
    · rw [List.range_succ, List.filter_append, jdU (α := α) (i := i) (by omega) (fun j h1 h2 => hq j h1 (by omega))]
      simp[hq i (by omega) (by omega)]
theorem idxTo_next {bs:List Bool} {k i:Nat} (h:nextB bs k true=some i):idxTo bs k++ [((i:Nat):Int)]=idxTo bs (i+1):=by
 obtain⟨n1,n2,n3,n4⟩:=jaZ h
 unfold idxTo;rw[List.range_succ,List.filter_append,jdU (α:=Nat) n2 (fun j h1 h2=>by have:=n4 j h1 h2;simpa using this)]
 simp[n3]
theorem idxTo_done {bs:List Bool} {k:Nat} (h:nextB bs k true=none):idxTo bs k=idxP bs∨bs.length≤k:=by
 by_cases hk:bs.length≤k
 ·exact .inr hk
 ·left
  unfold idxTo idxP;rw[jdU (α:=Nat) (i:=bs.length) (k:=k) (by omega)];intro j h1 h2;unfold nextB at h;rw[List.find?_eq_none] at h
  have:=h j (List.mem_range.2 h2)
  simpa [h1] using this
theorem jeU {bs:List Bool} {k:Nat} (hk:bs.length≤k):idxTo bs k=idxP bs:=by
 unfold idxTo idxP;rw[jdU (α:=Nat) (i:=k) (k:=bs.length) hk];intro j h1 h2;rw[List.getElem?_eq_none h1];rfl
theorem idxTo_end {bs:List Bool} {k:Nat} (h:nextB bs k true=none):idxTo bs k=idxP bs:=by
 rcases idxTo_done h with h|h
 ·exact h
 ·exact jeU h
theorem jdh (bs:List Bool) (k:Nat):(idxTo bs k).length≤k:=by
 unfold idxTo;rw[List.length_map];exact Nat.le_trans (List.length_filter_le _ _) (by simp)
theorem idxP_len (bs:List Bool):(idxP bs).length≤bs.length:=by
 rw[←jeU (Nat.le_refl _)];exact jdh _ _
end
open Go.RowKit
set_option maxRecDepth 10000
section
variable {g : PlG} {long : Nat} {W W' : MwP} {m m' : MaP} {a : jbL} {x x' : List Int}
theorem jd5 {t:Nat} {i s:Int} (h:refO g x (t:Nat) i=some s):t<g.slots∧fldP x (jC g (t:Nat)) true i=0:=by
 unfold refO at h
 split at h
 ·rename_i hc
  have hf:fldP x (jC g (t:Nat)) true i=0:=by
   have:=hc.1
   unfold refP at this
   split at this
   ·assumption
   ·exact this
  refine⟨?_,hf⟩
  rcases Nat.lt_or_ge t g.slots with h1|h1
  ·exact h1
  ·exfalso
   have e:jC g (t:Nat)=⟨0,0,0,0⟩:=by
    unfold jC;rw[Int.toNat_natCast,List.getElem?_eq_none (by rw[jah];omega)];rfl
   rw[e] at hf
   have:=jae hf
   dsimp only at this;omega
 ·cases h
theorem jeQ {t:Nat} {i:Int} (h1:wAt x' (jC g (t:Nat)).addr=wAt x (jC g (t:Nat)).addr) (h2:wAt x' (fAt (jC g (t:Nat)) i)=wAt x (fAt (jC g (t:Nat)) i)):refO g x' (t:Nat) i=refO g x (t:Nat) i:=by
 have:refP x' g.slots (jC g (t:Nat)) i=refP x g.slots (jC g (t:Nat)) i:=by unfold refP;rw [jcF h1,h2]
 unfold refO;rw [this]
theorem set_refO (ok:je g) {s0:Nat} {y:ju} (hy:g.L[s0]?=some y) {i0 v:Int} {t:Nat} {i s:Int} (h:refO g x (t:Nat) i=some s):
  (t=s0∧i=i0)∨refO g (j7 x g.slots y i0 v).2 (t:Nat) i=some s:=by
 obtain⟨ht,hf⟩:=jd5 h
 obtain⟨z,hz⟩:=Jg ht
 have hin:=jae hf
 have e:=JF hz
 have f1:=ok.fits hy
 have f2:=ok.fits hz
 by_cases hti:t=s0∧i=i0
 ·exact .inl hti
 ·right
  rw[←h];unfold j7
  split
  ·rfl
  ·split
   ·rename_i hv hf0
    have hin0:=jae hf0
    rw[e] at hin
    have ha:fAt y i0≠z.addr∧fAt y i0≠fAt z i:=by
     by_cases et:s0=t
     ·subst et;rw[hy] at hz;cases hz
      have:i≠i0:=fun h=>hti ⟨rfl,h⟩
      unfold fAt at*
      omega
     ·have:=ok.apart hy hz et
      omega
    refine jeQ ?_ ?_
    ·rw[e];exact jax ha.1
    ·rw[e];exact jax ha.2
   ·rfl
theorem jbO (ok:je g) (hm:jv g long W m) (hi:jac m) (ha:m.act=true) (s:Int):
  jac (jU g long m s)∧Jy g W' W' m (jU g long m s)∧(∀ n:Nat,s=n→n<g.slots→NW (jU g long m s) n):=by
 rw[shdS_act hm ha]
 obtain⟨h1,h2,h3,_⟩:=shade_keep (W':=W') ok hm hi s
 exact⟨h1,h2,h3⟩
theorem root_T {W W':MwP} (hl:W'.T.length=W.T.length) (hN:W'.N=W.N) {r s:Nat} (h:jF g W r=some (s:Nat)) (hT:r<W.T.length→W'.T[r]?=W.T[r]?):jF g W' r=some (s:Nat):=by
 unfold jF at h⊢
 rcases Nat.lt_or_ge r W.T.length with h1|h1
 ·rw[hT h1,hN,hl];exact h
 ·rw[List.getElem?_eq_none h1] at h;rw[List.getElem?_eq_none (by omega),hN,hl];exact h
theorem act_keep (ok:je g) (hm:jv g long W m) (hW:Jb g W) (hi:jac m) (ha:m.act=true) (h2: ¬a.w%10<2):jac (jab g long W m a)∧Jy g W (JD g W a) m (jab g long W m a):=by
 have hsame: ∀ {m':MaP},Mic g W m m'→jac m'∧Jy g W W m m':=fun h=>⟨h.i,h.k⟩
 unfold jab JD;simp only[if_neg h2]
 by_cases h4:a.w%10<4
 ·simp only[if_pos h4]
  by_cases hc:inS g a.s∧(oldS g W a).2=0
  ·simp only[if_pos hc]
   obtain⟨s0,y,hs0,hy,hsl⟩:=jcS hc.1
   obtain⟨i1,k1,n1⟩:=jbO (W':=W) ok hm hi ha (oldS g W a).1
   have hm1:=jev ok hm (oldS g W a).1
   have ha1:(jU g long m (oldS g W a).1).act=true:=(jdA _).2.2.1.trans ha
   obtain⟨i2,k2,n2⟩:=jbO (W':=W) ok hm1 i1 ha1 a.t
   refine⟨i2,(k1.trans k2).trans (jcf rfl (fun r s h=> .inr h) fun t s i h=>?_)⟩;dsimp only;rw[hsl]
   rcases set_refO (i0:=a.i) (v:=a.t) ok hy h with⟨rfl,rfl⟩|h'
   ·left
    have hin:=jbj h hW.w
    refine k2.nw s (n1 s ?_ (by omega));unfold refO at h
    split at h
    ·have h':=Option.some.inj h
     unfold oldS;rw [hs0];exact h'
    ·cases h
   ·exact .inr h'
  ·simp only[if_neg hc];exact⟨hi,Jy.refl⟩
 ·simp only[if_neg h4]
  by_cases e4:a.w%10=4
  ·have e5: ¬a.w%10=5:=by omega
   have e8:a.w%10<8:=by omega
   simp only[if_pos e4,if_neg e5,if_pos e8]
   by_cases hc:inS g a.s
   ·simp only[if_pos hc]
    obtain⟨i1,k1,n1⟩:=jbO (W':={W with T:=jZ W.T a.s}) ok hm hi ha a.s
    refine⟨i1,(jcf (W':={W with T:=jZ W.T a.s}) jaX (fun r s h=> .inr ?_) fun t s i h=> .inr h).trans k1⟩
    refine root_T (W:=W) (W':={W with T:=jZ W.T a.s}) jaX rfl h fun hr=>?_
    dsimp only;unfold jZ
    split
    ·rename_i j hj
     obtain⟨⟨e,g1,g2⟩,_⟩:=jc9 hj
     by_cases hjr:j=r
     ·subst hjr
      exfalso
      unfold jF at h;rw[g1] at h;dsimp only at h;rw[if_neg (by omega)] at h;cases h
     ·rw[List.getElem?_set_ne hjr]
    ·rfl
   ·simp only[if_neg hc]
    have:jU g long m a.s=m:=by unfold jU;rw [if_neg hc]
    rw[this];exact⟨hi,Jy.refl⟩
  ·simp only[if_neg e4]
   by_cases e5:a.w%10=5
   ·simp only[if_pos e5]
    have hno:slotT W.T a.i=none→Jt W.T a.i=W.T→jac (match slotT W.T a.i with|some s=>jU g long m s|none=>m)∧Jy g W {W with T:=Jt W.T a.i} m (match slotT W.T a.i with|some s=>jU g long m s|none=>m):=fun h1 h2=>by
     rw[h1,h2];exact⟨hi,Jy.refl⟩
    by_cases h0:0≤a.i
    ·cases hT:W.T[a.i.toNat]? with
     |none=>exact hno (by unfold slotT;rw [if_pos h0,hT]) (by unfold Jt;rw [if_pos h0,hT])
     |some e=>
      by_cases h1:e.st=1
      ·have e1:slotT W.T a.i=some e.slot:=by unfold slotT;rw [if_pos h0,hT];dsimp only;rw [if_pos h1]
       have e2:Jt W.T a.i=W.T.set a.i.toNat {e with st:=2}:=by unfold Jt;rw [if_pos h0,hT];dsimp only;rw [if_pos h1]
       rw[e1,e2];dsimp only
       obtain⟨i1,k1,n1⟩:=jbO (W':=W) ok hm hi ha e.slot
       refine⟨i1,k1.trans (jcf (W':={W with T:=W.T.set a.i.toNat {e with st:=2}}) (by simp) (fun r s h=>?_) fun t s i h=> .inr h)⟩
       by_cases hr:r=a.i.toNat
       ·left
        subst hr;unfold jF at h;rw[hT] at h;dsimp only at h;rw[if_pos h1] at h
        have h':=Option.some.inj h
        have hin:=hW.t e (List.mem_of_getElem? hT) h1
        exact n1 s h' (by omega)
       ·right
        refine root_T (W:=W) (W':={W with T:=W.T.set a.i.toNat {e with st:=2}}) (by simp) rfl h fun _=>?_
        dsimp only;rw[List.getElem?_set_ne (by omega)]
      ·exact hno (by unfold slotT;rw [if_pos h0,hT];dsimp only;rw [if_neg h1]) (by unfold Jt;rw [if_pos h0,hT];dsimp only;rw [if_neg h1])
    ·exact hno (by unfold slotT;rw [if_neg h0]) (by unfold Jt;rw [if_neg h0])
   ·simp only[if_neg e5]
    have hpl: ∀ {N':List Int},N'.length=W.N.length→(∀ k:Nat,0<(W.N[k]?).getD 0→NW (jU g long m a.s) k∨0<(N'[k]?).getD 0)→ ∀ r s:Nat,jF g W r=some (s:Nat)→NW (jU g long m a.s) s∨jF g {W with N:=N'} r=some (s:Nat):=fun{N'} hl hk r s h=>by
     unfold jF at h⊢;dsimp only
     cases hT:W.T[r]? with
     |some e=>rw [hT] at h;exact .inr h
     |none=>
      rw[hT] at h;dsimp only at h⊢
      split at h
      ·rename_i hpos
       cases h
       rcases hk (r-W.T.length) hpos with h1|h1
       ·exact .inl h1
       ·right;rw [if_pos h1];rfl
      ·cases h
    by_cases e6:a.w%10=6
    ·have e8:a.w%10<8:=by omega
     simp only[if_pos e6,if_pos e8]
     by_cases hc:inS g a.s
     ·simp only[if_pos hc]
      obtain⟨i1,k1,n1⟩:=jbO (W':=W) ok hm hi ha a.s
      exact⟨i1,k1.trans (jcf rfl (hpl pinP_len fun k hk=> .inr (pinP_pos hk)) fun t s i h=> .inr h)⟩
     ·simp only[if_neg hc]
      have:jU g long m a.s=m:=by unfold jU;rw [if_neg hc]
      rw[this];exact⟨hi,Jy.refl⟩
    ·simp only[if_neg e6]
     by_cases e7:a.w%10=7
     ·have e8:a.w%10<8:=by omega
      simp only[if_pos e7,if_pos e8]
      by_cases hc:inS g a.s
      ·simp only[if_pos hc]
       obtain⟨i1,k1,n1⟩:=jbO (W':=W) ok hm hi ha a.s
       refine⟨i1,k1.trans (jcf rfl (hpl jgt fun k hk=>?_) fun t s i h=> .inr h)⟩;unfold inS at hc
       by_cases e:k=a.s.toNat
       ·left;exact n1 k (by omega) (by omega)
       ·right;rw [jgS e];exact hk
      ·simp only[if_neg hc]
       have:jU g long m a.s=m:=by unfold jU;rw [if_neg hc]
       rw[this];exact⟨hi,Jy.refl⟩
     ·have e8: ¬a.w%10<8:=by omega
      simp only[if_neg e7,if_neg e8]
      by_cases e9:a.w%10=8
      ·simp only[if_pos e9]
       cases h:stepM g long W m a.i (a.u:Nat) with
       |none=>exact⟨hi,Jy.refl⟩
       |some m'=>exact hsame (jef ok hm hW hi h)
      ·simp only[if_neg e9]
       cases h:Jq g long W m with
       |none=>exact⟨hi,Jy.refl⟩
       |some m'=>
        obtain⟨k,u,hk⟩:=jbv h
        exact hsame (jef ok hm hW hi hk)
end
structure MsP where
 W:MwP
 m:MaP
 k:MaP
def actS2 (g:PlG) (long:Nat) (S:MsP) (a:jbL):MsP:=⟨JD g S.W a,jab g long S.W S.m a,jab g long S.W S.k a⟩
structure MsOk (g:PlG) (long:Nat) (S:MsP):Prop where
 W:Jb g S.W
 rf:jap g S.W.x
 m:jv g long S.W S.m
 k:jv g long S.W S.k
theorem MsOk.act {g:PlG} {long:Nat} {S:MsP} (ok:je g) (h:MsOk g long S) (a:jbL):MsOk g long (actS2 g long S a):=
 ⟨actW_ok ok h.W,actW_rf ok h.W h.rf,actK_ok ok h.W h.m,actK_ok ok h.W h.k⟩
end Go.Proofs.YtldomapkmopomaaGreatDoor.Sw
namespace Go.Proofs.YtldomapkmopomaaGreatDoor
open Go.RowKit
section
variable {P : Program} {w0 : World} {ro : Option Nat} {n : Nat} {Q : Exit → Act → World → Prop} {ds : List Deferred} {m : jo} {H : jb}
theorem K.cutE {σ:Type} {x y:Code} (keep:jo) (hk:jb6 m keep) (M:σ→jo→jo) (Hs:σ→jb) (I:σ→Prop) (h1:K P w0 ro n x (Exit.then (MeetsK w0 n ds (fun s=>M s keep) Hs I) Q) ds m H) (h2: ∀ s,I s→K P w0 ro n y Q ds (M s keep) (Hs s)):K P w0 ro n x (Exit.then (Code.wpIn (fen ro) 0 P y Q) Q) ds m H:=
 .mk fun a w ha hw=>wpIn_mono (h1.out a w ha hw) fun e a w q=>by
  cases e with
  |normal=>obtain⟨s,hf,hh,hi⟩:=q;exact(h2 s hi).out a w hf hh
  |_=>exact q
end
section
variable {P : Program} {w0 : World} {m : jo} {H : jb} {ty : TypeId}
theorem Val.indexV {t e:TypeId} {x y:Operand} {cs ds:List Value} {len z off:Nat} {i:Int} {k:IntKind} (hx:evO m x=some (.agg cs.toArray)) (hy:evO m y=some (.int k i)) (ht:jc1 P t=some (len,e)) (hz:Jj P e=some z) (h1:aggB P e=true) (hj:0≤i∧i<len) (ho:i.toNat*z=off) (hd:Seg cs off z ds):Val P w0 H m ty (.index t x y) (.agg ds.toArray):=
 ⟨by simp[jE,cov,hx,hy],fun w d pos af g _=>by
  have hu:P.underlying t=some (.array len e):=by unfold jc1 at ht;split at ht<;>simp_all
  have hp:=run_partN (P:=P) w (cs:=cs.toArray) (off:=off) h1 hz
  have hd:=hd.eq.1
  subst hd
  have hr:(Instr.index t (.agg cs.toArray) (.int k i)).run P w= .ok (.agg ((cs.drop off).take z).toArray) w:=by
   simp[Instr.index,asIntOf,JK w hu,hj.1,hj.2,jaw w hz,ho,hp,List.take_drop]
  simp[execOp,evS,hx,hy,hr]⟩
end
end Go.Proofs.YtldomapkmopomaaGreatDoor
namespace Go.Proofs.YtldomapkmopomaaGreatDoor.Sw
open Go.Proofs.YtldomapkmopomaaGreatDoor renaming lo → qL, hi → qH
set_option maxRecDepth 10000
structure CyP where
 W:MwP
 m:MaP
 A:List Bool
 sa:Bool
 at_:Nat
 D:List Bool
 ph:Nat
 st:Nat
def goesC (g:PlG) (s:CyP):CyP:=
 if s.ph=1∧Jl g s.W s.m=true then{s with sa:=true,ph:=if s.at_=g.slots then 3 else 2}
 else if s.ph=2∧s.at_=g.slots then{s with ph:=3} else s
def madeC (g:PlG) (s:CyP):CyP:=goesC g {s with st:=s.st+1}
def sweepC (g:PlG) (s:CyP):Option CyP:=
 if s.sa=true∧s.at_<g.slots then
  some (if s.A[s.at_]?=some true∧s.m.C[s.at_]?=some 0 then{s with W:={s.W with x:=Jo s.W.x (jC g (s.at_:Nat))},D:=s.D.set s.at_ true,at_:=s.at_+1} else{s with at_:=s.at_+1})
 else none
def stepC (g:PlG) (long nw:Nat) (s:CyP) (hd u:Int):Option CyP:=
 if s.ph=1 then(stepM g long s.W s.m hd u).map fun m'=>madeC g {s with m:=m'}
 else if s.ph=2∧u=5∧0≤hd∧hd≤((nw:Nat):Int) then(sweepC g s).map (madeC g)
 else none
def helpC (g:PlG) (long:Nat) (s:CyP):Option CyP:=
 if s.ph=1 then(Jq g long s.W s.m).map fun m'=>madeC g {s with m:=m'}
 else if s.ph=2 then(sweepC g s).map (madeC g) else none
def beginC (g:PlG) (s:CyP):CyP:={s with m:=jb1 g s.m,ph:=1,st:=0}
def JV (gens:Int) (e:jj):jj:=if e.st=2 then(if e.gen≥gens then⟨3,0,e.gen⟩ else⟨0,0,e.gen+1⟩) else e
def j9 (gens:Int) (T:List jj):List jj:=T.map (JV gens)
def recyN (gens:Int) (T:List jj):Nat:=T.countP fun e=>decide (e.st=2∧ ¬e.gen≥gens)
def publishC (g:PlG) (gens:Int) (s:CyP):CyP:=
 {s with A:=(J0 s.A s.D).2,sa:=false,at_:=0,D:=List.replicate g.slots false,W:={s.W with T:=j9 gens s.W.T},m:={s.m with act:=false},ph:=0}
def shdC (g:PlG) (long:Nat) (s:CyP) (sl:Int):CyP:=if s.ph=1 then{s with m:=jU g long s.m sl} else s
def j2 (m:MaP) (s:Nat):MaP:=if m.act=true then{m with C:=m.C.set s 2} else m
structure Jw where
 w:Nat
 n:Int
 i:Int
 t:Int
def makesC (g:PlG) (s:CyP) (a:Jw):CyP:=
  if (takeP g s.A a.n).2.1=0∧(jao s.W.T).isSome=true then
    {s with A:=(takeP g s.A a.n).2.2,m:=j2 s.m (takeP g s.A a.n).1.toNat,
             W:={s.W with T:=jZ s.W.T (takeP g s.A a.n).1,x:=(jW s.W.x (jC g (takeP g s.A a.n).1) (hdM (jC g (takeP g s.A a.n).1) a.i)).2}}
  else s
def shdO (g:PlG) (long:Nat) (s:CyP) (t:Int):CyP:=if t≥0 then shdC g long s t else s
def toC (T:List jj) (t:Int):Int:=if t<0 then-1 else(slotT T t).getD (-1)
def putC (g:PlG) (s:CyP) (sl i to:Int):CyP:={s with W:={s.W with x:=(j7 s.W.x g.slots (jC g sl) i to).2}}
def setsC (g:PlG) (long:Nat) (s:CyP) (a:Jw):CyP:=
 match slotT s.W.T a.n with
 |none=>s
 |some sl=>
  if a.t≥0∧(slotT s.W.T a.t).isNone=true then s
  else if (refP s.W.x g.slots (jC g sl) a.i).2≠0 then s
  else
   putC g (shdO g long (shdO g long s (refP s.W.x g.slots (jC g sl) a.i).1) (toC s.W.T a.t)) sl a.i (toC s.W.T a.t)
def doesC (g:PlG) (long:Nat) (s:CyP) (a:Jw):CyP:=
 if a.w%6<2 then makesC g s a
 else if a.w%6=2 then setsC g long s a
 else match slotT s.W.T a.n with
  |none=>s
  |some sl=>
   if a.w%6=3 then(let s1:=shdC g long s sl;{s1 with W:={s1.W with T:=Jt s1.W.T a.n}})
   else if a.w%6=4 then{s with W:={s.W with N:=JJ s.W.N sl.toNat}}
   else(let s1:=shdC g long s sl;{s1 with W:={s1.W with N:=JO s1.W.N sl.toNat}})
structure CyPre (g:PlG) (long:Nat) (s:CyP):Prop where
 w:Jb g s.W
 rf:jap g s.W.x
 m:jv g long s.W s.m
 i:jac s.m
 A:s.A.length=g.slots
 D:s.D.length=g.slots
 p0:s.ph=0→s.m.act=false∧s.sa=false∧s.at_=0∧s.D=List.replicate g.slots false
 p1:s.ph=1→s.m.act=true∧s.sa=false∧s.at_=0∧s.D=List.replicate g.slots false
 p2:s.ph=2→s.m.act=true∧s.sa=true∧s.at_≤g.slots
 p3:s.ph=3→s.m.act=true∧s.sa=true∧s.at_=g.slots
 ph:s.ph≤3
 dn:2≤s.ph→ ∀ t,¬Lst s.m t
structure jp (g:PlG) (long:Nat) (s:CyP):Prop extends CyPre g long s where
 lt:s.ph=2→s.at_<g.slots
 go:s.ph=1→Jl g s.W s.m=false
def jY (g:PlG) (s:CyP):Nat:=if s.ph=1 then jI g s.W s.m+g.slots+1 else if s.ph=2 then g.slots-s.at_ else 0
section
variable {g : PlG} {long : Nat} {s s' : CyP}
theorem goes_mes (hs:1≤g.slots):jY g (goesC g s)≤jY g s:=by
 unfold goesC
 split
 ·rename_i h
  unfold jY;rw[if_pos h.1];dsimp only
  split
  ·rw[if_neg (by decide),if_neg (by decide)];omega
  ·rw[if_neg (by decide),if_pos rfl];omega
 ·split
  ·rename_i h
   unfold jY;dsimp only;rw[if_neg (by decide),if_neg (by decide)]
   omega
  ·exact zO
theorem jcM (ok:je g) (h:jp g long s) (hh:helpC g long s=some s'):jY g s'<jY g s:=by
 have hsl:=ok.slots
 unfold helpC at hh
 split at hh
 ·rename_i h1
  cases hm:Jq g long s.W s.m with
  |none=>rw [hm] at hh;cases hh
  |some m'=>
   rw[hm] at hh
   cases hh
   obtain⟨k,u,hk⟩:=jbv hm
   obtain⟨_,h2,_,_,_⟩:=jcR ok h.m hk
   refine zdj ?_;unfold jY;dsimp only;rw[if_pos h1,if_pos h1]
   omega
 ·split at hh
  ·rename_i h1 h2
   unfold sweepC at hh
   split at hh
   ·rename_i h3
    cases hh
    refine zdj ?_;unfold jY;rw[if_neg h1,if_pos h2]
    split
    ·dsimp only;first|omega|(rw [if_neg h1,if_pos h2];omega)
    ·dsimp only;first|omega|(rw [if_neg h1,if_pos h2];omega)
   ·cases hh
  ·cases hh
theorem jff (ok:je g) (h:jp g long s) (h0:s.ph≠0) (hh:helpC g long s=none):s.ph=3:=by
 have h3:=h.ph
 unfold helpC at hh
 split at hh
 ·rename_i h1
  cases hm:Jq g long s.W s.m with
  |none=>have:=help_done ok h.m (h.p1 h1).1 hm;rw [h.go h1] at this;cases this
  |some m'=>rw [hm] at hh;cases hh
 ·split at hh
  ·rename_i h1 h2
   obtain⟨_,a,_⟩:=h.p2 h2
   have b:=h.lt h2
   unfold sweepC at hh;rw[if_pos ⟨a,b⟩] at hh
   cases hh
  ·omega
end
open Go.RowKit
set_option maxRecDepth 10000
section
variable {g : PlG} {long nw : Nat} {s s' : CyP}
theorem goes_cy (ok:je g) (h:CyPre g long s):jp g long (goesC g s):=by
 have hsl:=ok.slots
 unfold goesC
 split
 ·rename_i h1
  obtain⟨a,b,c,d⟩:=h.p1 h1.1
  rw[if_neg (by omega)];exact⟨⟨h.w,h.rf,h.m,h.i,h.A,h.D,fun e=>(by cases e),fun e=>(by cases e),fun _=>⟨a,rfl,by show s.at_≤_;omega⟩,fun e=>(by cases e),by show 2≤3;decide,fun _ t=>done_lst h1.2 t⟩,fun _=>by show s.at_<_;omega,fun e=>(by cases e)⟩
 ·rename_i h1
  split
  ·rename_i h2
   obtain⟨a,b,c⟩:=h.p2 h2.1
   exact⟨⟨h.w,h.rf,h.m,h.i,h.A,h.D,fun e=>(by cases e),fun e=>(by cases e),fun e=>(by cases e),fun _=>⟨a,b,h2.2⟩,by show 3≤3;decide,fun _=>h.dn (by rw[h2.1];decide)⟩,fun e=>(by cases e),fun e=>(by cases e)⟩
  ·rename_i h2
   refine⟨h,fun e=>?_,fun e=>?_⟩
   ·have:=(h.p2 e).2.2
    have: ¬s.at_=g.slots:=fun e2=>h2 ⟨e,e2⟩
    omega
   ·cases hd:Jl g s.W s.m with
    |false=>rfl
    |true=>exact absurd ⟨e,hd⟩ h1
theorem jcV (ok:je g) (h:CyPre g long s):jp g long (madeC g s):=
 goes_cy ok ⟨h.w,h.rf,h.m,h.i,h.A,h.D,h.p0,h.p1,h.p2,h.p3,h.ph,h.dn⟩
theorem wipe_rf (ok:je g) {x:List Int} (hx:x.length=g.words) (h:jap g x) {t:Nat} {y:ju} (hy:g.L[t]?=some y):jap g (Jo x y):=fun q z hz j h1 h2=>by
 have hf:=ok.fits hy
 rw[jaY (by omega)]
 split
 ·omega
 ·exact h q z hz j h1 h2
theorem CyPre.wipe (ok:je g) (h:CyPre g long s) (h2:s.ph=2) {t:Nat} (ht:t<g.slots):Jb g {s.W with x:=Jo s.W.x (jC g (t:Nat))}∧jap g (Jo s.W.x (jC g (t:Nat)))∧jv g long {s.W with x:=Jo s.W.x (jC g (t:Nat))} s.m:=by
 obtain⟨y,hy⟩:=Jg ht
 rw[JF hy]
 have hf:=ok.fits hy
 have hx:=h.w.x
 refine⟨⟨(jby (by omega)).trans hx,Jx.cleared h.w.w,h.w.N,h.w.n,h.w.t⟩,wipe_rf ok hx h.rf hy,⟨h.m.C,h.m.c,h.m.G,h.m.hs,fun k q hk=>?_,h.m.root⟩⟩
 rcases h.m.h k q hk with⟨e1,e2,e3,_⟩|e
 ·exact absurd (.inr (.inr ⟨k,q,hk,e1,by omega⟩)) (h.dn (by rw[h2];decide) q.slot.toNat)
 ·exact .inr e
theorem jba (ok:je g) (h:jp g long s) (h2:s.ph=2) (hs:sweepC g s=some s'):CyPre g long s'∧s'.ph=2∧s'.at_=s.at_+1∧s'.m=s.m∧s'.A=s.A∧s'.W.T=s.W.T∧s'.W.N=s.W.N∧s'.st=s.st:=by
 have hlt:=h.lt h2
 obtain⟨a,b,_⟩:=h.p2 h2
 unfold sweepC at hs;rw[if_pos ⟨b,hlt⟩] at hs
 have hdn:=h.dn (by rw[h2];decide)
 split at hs
 ·cases hs
  obtain⟨w1,w2,w3⟩:=h.toCyPre.wipe ok h2 hlt
  exact⟨⟨w1,w2,w3,h.i,h.A,by show(s.D.set _ _).length=_;rw [List.length_set];exact h.D,fun e=>(by rw[h2] at e;cases e),fun e=>(by rw[h2] at e;cases e),fun _=>⟨a,b,hlt⟩,fun e=>(by rw[h2] at e;cases e),by show s.ph≤3;omega,fun _=>hdn⟩,h2,rfl,rfl,rfl,rfl,rfl,rfl⟩
 ·cases hs
  exact⟨⟨h.w,h.rf,h.m,h.i,h.A,h.D,fun e=>(by rw[h2] at e;cases e),fun e=>(by rw[h2] at e;cases e),fun _=>⟨a,b,hlt⟩,fun e=>(by rw[h2] at e;cases e),by show s.ph≤3;omega,fun _=>hdn⟩,h2,rfl,rfl,rfl,rfl,rfl,rfl⟩
theorem jbC (ok:je g) (h:jp g long s) (h1:s.ph=1) {m':MaP} {k u:Int} (hm:stepM g long s.W s.m k u=some m'):CyPre g long {s with m:=m'}:=by
 obtain⟨a,b,c,d⟩:=h.p1 h1
 obtain⟨z1,_,_,z4,_⟩:=jcR ok h.m hm
 have z5:=jef ok h.m h.w h.i hm
 exact⟨h.w,h.rf,z1,z5.i,h.A,h.D,fun e=>(by rw[show s.ph=0 from e] at h1;cases h1),fun _=>⟨z4.trans a,b,c,d⟩,fun e=>(by rw[show s.ph=2 from e] at h1;cases h1),fun e=>(by rw[show s.ph=3 from e] at h1;cases h1),h.ph,fun e=>absurd (show 2≤s.ph from e) (by omega)⟩
theorem step_cy (ok:je g) (h:jp g long s) {k u:Int} (hs:stepC g long nw s k u=some s'):jp g long s':=by
 unfold stepC at hs
 split at hs
 ·rename_i h1
  cases hm:stepM g long s.W s.m k u with
  |none=>rw [hm] at hs;cases hs
  |some m'=>rw [hm] at hs;cases hs;exact jcV ok (jbC ok h h1 hm)
 ·split at hs
  ·rename_i h2
   cases hm:sweepC g s with
   |none=>rw [hm] at hs;cases hs
   |some q=>rw [hm] at hs;cases hs;exact jcV ok (jba ok h h2.1 hm).1
  ·cases hs
theorem jf7 (ok:je g) (h:jp g long s) (hs:helpC g long s=some s'):jp g long s':=by
 unfold helpC at hs
 split at hs
 ·rename_i h1
  cases hm:Jq g long s.W s.m with
  |none=>rw [hm] at hs;cases hs
  |some m'=>
   rw[hm] at hs;cases hs
   obtain⟨k,u,hk⟩:=jbv hm
   exact jcV ok (jbC ok h h1 hk)
 ·split at hs
  ·rename_i h2
   cases hm:sweepC g s with
   |none=>rw [hm] at hs;cases hs
   |some q=>rw [hm] at hs;cases hs;exact jcV ok (jba ok h h2 hm).1
  ·cases hs
theorem jcP (ok:je g) (hl:1≤long) (h:jp g long s) (h0:s.ph=0):jp g long (beginC g s):=by
 obtain⟨a,b,c,d⟩:=h.p0 h0
 have h9:=h.m.hs
 have hsl:=ok.slots
 refine⟨⟨h.w,h.rf,new_ok hl (by omega),new_in,h.A,h.D,fun e=>(by cases e),fun _=>⟨rfl,b,c,d⟩,fun e=>(by cases e),fun e=>(by cases e),by show 1≤3;decide,fun e=>absurd (show 2≤1 from e) (by decide)⟩,fun e=>(by cases e),fun _=>?_⟩
 show Jl g s.W (JM g _ true)=false
 unfold Jl;rw[show decide (s.W.T.length+g.slots≤(JM g (s.m.hs.length-1) true).root)=false from decide_eq_false (by show ¬_≤0;omega)]
 simp
end
end Go.Proofs.YtldomapkmopomaaGreatDoor.Sw
