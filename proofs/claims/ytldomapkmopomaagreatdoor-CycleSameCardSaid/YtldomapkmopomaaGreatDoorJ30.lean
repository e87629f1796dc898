/-The walker and the contracts that the law needs,part 30. -/
import Derived.Test.YtldomapkmopomaaGreatDoorD1
import Derived.ArgAppend
import Derived.ChangeMaps5
import Derived.Deep.Fields
import Derived.Deep.LoopGhost
import Derived.Deep.OwnRows
import Derived.Deep.Quiet
import Derived.Deep.Slices
import Derived.IntWalk
import Derived.Laws.Cells
import Derived.Laws.CopyOwn
import Derived.Laws.Externs
import Derived.Laws.FloatArith
import Derived.Laws.IdiomStrings
import Derived.Laws.NewFold
import Derived.Laws.StructEq
import Derived.Lib.BitFns
import Derived.Lib.Hide
import Derived.Lib.SmallJoins
import Derived.Lib.TrailingZeros
import Derived.Maps.RangeRun
import Derived.OrdersIn
import Derived.ProofKit
import Derived.RangeFuncBound
import Derived.RangeFuncCalls
import Derived.RangeFuncLeaves
import Derived.RangeFuncNested
import Derived.RecoverIn
import Derived.Shelf.Bits.Mul64
import Derived.Shelf.Slices.Turned
import Derived.Shelf.Spec.TrailingZeros
import Derived.Shelf.Strconv.Itoa0
import Derived.SizedLaws
import Derived.Sort.BigQuietIn
import Derived.StillTailTactics
import Derived.Test.YtldomapkmopomaaGreatDoorProg
import Derived.WalkKit
import Derived.Test.YtldomapkmopomaaGreatDoorJ24
import Derived.Test.YtldomapkmopomaaGreatDoorJ29
set_option linter.unusedVariables false set_option linter.unusedSimpArgs false namespace Go.Proofs.YtldomapkmopomaaGreatDoor.Sw
set_option maxHeartbeats 8000000
open Go.Proofs.YtldomapkmopomaaGreatDoor renaming lo → qL, hi → qH
open Go.RowKit
set_option linter.unusedVariables false
set_option linter.unusedSimpArgs false
set_option maxRecDepth 10000
structure RrS where
 k:Nat
theorem jcE {w0:World} {H:jb} {c:Cfg} {vc vt:Value} {t:Int} (hR:j1 w0 H c vc vt):
  Call Tryz.prog w0 13 [jt c vc vt, .int .i64 t] H (fun r H'=>r=prV (regionP c t)∧H'=H):=by
 have hc0:=fun A (hp:Part A H)=>jfx (t:=t) (k:=0) (hR.part hp)
 cases ht:thereP c t 0 with
 |false=>
  obtain⟨hS,hT',o1,o2,l1,l2⟩:=hR
  have he:regionP c t=(0,2):=by simp[regionP,ht]
  rw[ht] at hc0;rw[he]
  obtain⟨cl,page,tn,workers,grey,gens⟩:=c
  dsimp only at hS hT' l1 l2 he;simp only[jt,jJ] at hc0⊢;refine Call.enter2 (n:=35) (by kernel_rfl) Tryz.func13 rfl rfl rfl ?_;refine yr2 ?_;refine ze ?_;intro b2;refine yq9 fun T hT=>?_;refine zD ?_;rintro _ _ ⟨rfl,rfl⟩;refine za ?_;clear hT T;refine yr12 ?_;exact zd
 |true=>
  obtain⟨i,j,x,y,rfl,_,hx,hy,ok⟩:=ja9 ht
  have hil:=jl hx
  have hcp:jT c=true:=by simp only[thereP,Bool.and_eq_true] at ht;exact ht.1
  have hok:=ok.cl
  have he:regionP c (i:Nat)=(sumN (pwP c (i:Nat)) c.cl.length,0):=by simp[regionP,ht,wordsP]
  have hpg:=fun A (hp:Part A H) (k:Nat)=>rPages_K (t:=(i:Nat)) (k:=(k:Nat)) (hR.part hp)
  have hB:=fun k (hk:k<c.cl.length)=>pw_le (jaS hcp hil hk)
  have hz:=fun k (hk:k<c.cl.length)=>(jfA (jaS hcp hil hk)).2.2
  have hpwd: ∀ k,(pagesP c (i:Nat) ((k:Nat):Int)).1*c.page=pwP c (i:Nat) k:=fun k=>rfl
  obtain⟨hS,hT',o1,o2,l1,l2⟩:=hR
  rw[ht] at hc0;rw[he]
  obtain⟨f,hf⟩: ∃ f,f=pwP c (i:Nat):=⟨_,rfl⟩
  obtain⟨g,hg⟩: ∃ g:Nat→Int × Int,g=fun k=>pagesP c (i:Nat) ((k:Nat):Int):=⟨_,rfl⟩
  have hgk: ∀ k:Nat,pagesP c (i:Nat) ((k:Nat):Int)=g k:=fun k=>by rw[hg]
  rw[←hf] at hB hpwd⊢;simp only[hgk] at hpg hz hpwd;clear hg hgk hf he
  obtain⟨cl,page,tn,workers,grey,gens⟩:=c
  dsimp only at hS hT' l1 l2 hok hB hz hpwd hil⊢;simp only[jt,jJ,prV] at hc0 hpg⊢;refine Call.enter2 (n:=35) (by kernel_rfl) Tryz.func13 rfl rfl rfl ?_;refine yr2 ?_;refine ze ?_;intro b2;refine yq9 fun T hT=>?_;refine zD ?_;rintro _ _ ⟨rfl,rfl⟩;refine za ?_;clear hT T;refine yr18 ?_;refine K.loopT (σ:=RrS) [(1,_),(2,_)] (fun s kp_=>(7, .int .i64 (s.k:Nat))::(6, .int .i64 (sumN f s.k))::kp_) (fun s=>(b2,cells [vc, .int .i64 page,vt, .int .i64 workers, .int .i64 grey, .int .i64 gens] 25)::H) (fun s=>s.k≤cl.length) (fun s=>cl.length-s.k) (⟨0⟩) jg ja ((by simp)) ?_;rintro⟨k⟩ hk;dsimp only at hk⊢
  by_cases hlt:k<cl.length
  ·have b1':=jbW (f:=f) (n:=k) (fun i hi=>hB i (by omega))
   have b2':=hB k hlt
   have hzk:=hz k hlt
   have hpk:=hpwd k
   have hpgk:=fun A hp=>hpg A hp k
   obtain⟨⟨p1,p2⟩,hgp⟩: ∃ p,p=g k:=⟨_,rfl⟩
   rw[←hgp] at hzk hpk;simp only[←hgp] at hpgk;dsimp only at hzk hpk hpgk;subst hzk
   obtain⟨a,ha⟩: ∃ a,a=sumN f k:=⟨_,rfl⟩
   have hs:sumN f (k+1)=a+p1*page:=by rw[ha,hpk];rfl
   rw[←hpk] at b2';rw[←ha] at b1'⊢;refine yq20 fun T hT=>?_;refine(CallV.fn (hpgk _ ja)).mono ?_;rintro _ _ ⟨rfl,rfl⟩;refine za ?_;clear hT T;refine yr23 ?_;rw[←hs];exact KE.again ⟨k+1⟩ jg ja (by show k+1≤_;omega) (by show cl.length-(k+1)<cl.length-k;omega)
  ·have hke:k=cl.length:=by omega
   subst hke;refine yr24 ?_;exact zd
set_option maxRecDepth 10000
structure RbS where
 k:Nat
theorem jd3 {c:Cfg} {i:Nat} (hc:jT c=true) (hi:i<c.tn.length):regionP c ((i:Nat):Int)=(wordsP c (i:Nat),0):=by
 have h:=jaS (j:=0) hc hi (by have:=(jar hc).cl;omega)
 have h':thereP c ((i:Nat):Int) 0=true:=h
 simp[regionP,h']
theorem jgd {c:Cfg} {i:Nat} (hc:jT c=true) (hi:i<c.tn.length):jaU c ((i:Nat):Int)=(sumN (fun i=>wordsP c (i:Nat)) i,0):=by
 have h:=jaS (j:=0) hc hi (by have:=(jar hc).cl;omega)
 have h':thereP c ((i:Nat):Int) 0=true:=h
 simp[jaU,h']
theorem rBase_K {w0:World} {H:jb} {c:Cfg} {vc vt:Value} {t:Int} (hR:j1 w0 H c vc vt):
  Call Tryz.prog w0 95 [jt c vc vt, .int .i64 t] H (fun r H'=>r=prV (jaU c t)∧H'=H):=by
 have hc0:=fun A (hp:Part A H)=>jfx (t:=t) (k:=0) (hR.part hp)
 cases ht:thereP c t 0 with
 |false=>
  obtain⟨hS,hT',o1,o2,l1,l2⟩:=hR
  have he:jaU c t=(0,2):=by simp[jaU,ht]
  rw[ht] at hc0;rw[he]
  obtain⟨cl,page,tn,workers,grey,gens⟩:=c
  dsimp only at hS hT' l1 l2 he;simp only[jt,jJ] at hc0⊢;refine Call.enter2 (n:=29) (by kernel_rfl) Tryz.func95 rfl rfl rfl ?_;refine yr2 ?_;refine ze ?_;intro b2;refine yq9 fun T hT=>?_;refine zD ?_;rintro _ _ ⟨rfl,rfl⟩;refine za ?_;clear hT T;refine yr12 ?_;exact zd
 |true=>
  obtain⟨i,j,x,y,rfl,_,hx,hy,ok⟩:=ja9 ht
  have hil:=jl hx
  have hcp:jT c=true:=by simp only[thereP,Bool.and_eq_true] at ht;exact ht.1
  have hok:=ok.tn
  have he:=jgd hcp hil
  have hpg:=fun A (hp:Part A H) (k:Nat) (hk:k<c.tn.length)=>(jd3 hcp hk)▸jcE (t:=(k:Nat)) (hR.part hp)
  have hB:=fun k (hk:k<c.tn.length)=>jcJ hcp hk
  obtain⟨hS,hT',o1,o2,l1,l2⟩:=hR
  rw[ht] at hc0;rw[he]
  obtain⟨f,hf⟩: ∃ f:Nat→Int,f=fun i=>wordsP c (i:Nat):=⟨_,rfl⟩
  have hfi: ∀ i,wordsP c (i:Nat)=f i:=fun i=>by rw[hf]
  rw[←hf];simp only[hfi] at hB hpg;clear hf hfi he
  obtain⟨cl,page,tn,workers,grey,gens⟩:=c
  dsimp only at hS hT' l1 l2 hok hB hil hpg⊢;simp only[jt,jJ,prV] at hc0 hpg⊢;refine Call.enter2 (n:=29) (by kernel_rfl) Tryz.func95 rfl rfl rfl ?_;refine yr2 ?_;refine ze ?_;intro b2;refine yq9 fun T hT=>?_;refine zD ?_;rintro _ _ ⟨rfl,rfl⟩;refine za ?_;clear hT T;refine yr18 ?_;refine K.loopT (σ:=RbS) [(1,_),(2,_)] (fun s kp_=>(7, .int .i64 (s.k:Nat))::(6, .int .i64 (sumN f s.k))::kp_) (fun s=>(b2,cells [vc, .int .i64 page,vt, .int .i64 workers, .int .i64 grey, .int .i64 gens] 25)::H) (fun s=>s.k≤i) (fun s=>i-s.k) (⟨0⟩) jg ja ((by simp)) ?_;rintro⟨k⟩ hk;dsimp only at hk⊢
  by_cases hlt:k<i
  ·have b1':=jbW (f:=f) (n:=k) (fun i hi=>hB i (by omega))
   have b2':=hB k (by omega)
   have hpgk:=fun A hp=>hpg A hp k (by omega)
   obtain⟨a,ha⟩: ∃ a,a=sumN f k:=⟨_,rfl⟩
   obtain⟨b,hb⟩: ∃ b,b=f k:=⟨_,rfl⟩
   have hs:sumN f (k+1)=a+b:=by rw[ha,hb];rfl
   rw[←hb] at b2';simp only[←hb] at hpgk;rw[←ha] at b1'⊢;refine yq17 fun T hT=>?_;refine(CallV.fn (hpgk _ ja)).mono ?_;rintro _ _ ⟨rfl,rfl⟩;refine za ?_;clear hT T;refine yr20 ?_;rw[←hs];exact KE.again ⟨k+1⟩ jg ja (by show k+1≤_;omega) (by show i-(k+1)<i-k;omega)
  ·have hke:k=i:=by omega
   subst hke;refine yr22 ?_;exact zd
set_option maxRecDepth 10000
def arK (a:ArM) (D:List Bool) (k:Nat):ArM:=⟨a.b,⟨a.r.b,jaL a.r.bs D k,a.r.o⟩⟩
theorem arK_zero (a:ArM) (D:List Bool):arK a D 0=a:=by unfold arK;rw [jgE]
theorem arK_next {a:ArM} {D:List Bool} {k i:Nat} (hl:D.length=a.r.bs.length) (h:nextB D k true=some i):setA (arK a D k) i false=arK a D (i+1):=by
 unfold setA arK Jr;dsimp only;rw[lessK_next hl h]
def GaJ (l D:Nat) (rc:Rec) (b2 b4:Nat) (a:ArM) (p:jO) (bs:List Bool) (k:Nat) (A:jb):Prop:=
 A=(l, .loop (rc .ready none))::(D, .deferred (some []))::(b2,cells [.pointer (some ⟨a.b,0,none⟩)] 73)::(b4,cells [.int .i64 0] 61)::jR a p∧ ∀ j:Nat,j<k→bs[j]?=some true→a.r.bs[j]?=some true
def GaE (l D:Nat) (rc:Rec) (b2 b4:Nat) (a:ArM) (p:jO) (bs:List Bool) (A:jb):Prop:=
 A=(l, .loop (rc .done (some .ret)))::(D, .deferred (some []))::(b2,cells [.pointer (some ⟨a.b,0,none⟩)] 73)::(b4,cells [.int .i64 9] 61)::jR a p∧ ∃ i:Nat,a.r.bs[i]?=some false∧bs[i]?=some true
def GbJ (l D:Nat) (rc:Rec) (b2 b4:Nat) (a:ArM) (p:jO) (bs:List Bool) (k:Nat) (A:jb):Prop:=
 A=(l, .loop (rc .ready none))::(D, .deferred (some []))::(b2,cells [.pointer (some ⟨a.b,0,none⟩)] 73)::(b4,cells [.int .i64 0] 61)::jR (arK a bs k) p∧JW (arK a bs k) p
theorem bit_of {l:List Bool} {i:Nat} (h:i<l.length) {v:Bool} (e:(l[i]?).getD false=v):l[i]?=some v:=by
 rw[List.getElem?_eq_getElem h] at e⊢;simp at e;rw [e]
set_option maxHeartbeats 2000000 in
theorem GiveAll_K {w0:World} {F:jb} {a:ArM} {p:jO} {r:J7} (hG:jw w0) (ok:JW a p) (okr:RowOk r) (hl:r.bs.length=a.r.bs.length):
  Call Tryz.prog w0 148 [.pointer (some ⟨a.b,0,none⟩), .pointer (some ⟨r.b,0,none⟩)] (jz r++(jR a p++(planH p++F))) (fun v H'=>v= .int .i64 (J0 a.r.bs r.bs).1∧ ∃ a':ArM,JW a' p∧a'.b=a.b∧a'.r.b=a.r.b∧a'.r.bs=(J0 a.r.bs r.bs).2∧H'=jz r++(jR a' p++(planH p++F))):=by
 have okar:=ok.r
 have hgp:J0 a.r.bs r.bs=if ja4 a.r.bs r.bs then(0,jaC a.r.bs r.bs) else(9,a.r.bs):=by unfold J0;rw [if_pos hl]
 have hne: ¬((r.bs.length:Nat):Int)≠((a.r.bs.length:Nat):Int):=by omega
 refine Call.enter2 (n:=40) (by kernel_rfl) Tryz.func148 rfl rfl rfl ?_;refine yr2 ?_;refine zj ?_;intro b2 b4;refine yq7 fun T hT=>?_;refine zeE ?_;refine zc ?_;clear hT T;refine yr5 ?_;refine K.drawn _ [(0,0),(1,2),(2,0),(3,0),(4,0),(6,1),(7,1),(8,1),(9,1),(5,2),(10,2),(11,0),(12,0),(13,0)] (by kernel_rfl) (by kernel_rfl) (by kernel_rfl) (by kernel_rfl) (by kernel_rfl) (by kernel_rfl) Part.all ?_;refine zV fun T hT=>?_;refine(CallV.part (CallV.fn (jew okr)) ja).mono ?_;rintro _ _ ⟨r',kr',hbs,rfl,rfl⟩;refine zh ?_;clear hT T;refine KD.v0 rfl rfl (Val.eqlPN rfl rfl rfl) ?_;refine zA ?_;refine za3 ?_;refine KD.y1 rfl rfl rfl rfl (Val.nilCheck rfl) ?_;refine KD.y1 rfl rfl rfl rfl (Val.fieldAddr0 (k:=1) rfl rfl) ?_;refine za3 ?_;refine zv fun T hT=>?_;refine(CallV.part (CallV.fn (rLen_K (r:=r))) ja).mono ?_;refine zl ?_;clear hT T;simp only[arenaH_app];refine zv fun T hT=>?_;refine(CallV.part (CallV.fn (rLen_K (r:=a.r))) ja).mono ?_;refine zl ?_;clear hT T;refine zcf ?_;refine zaU ?_;refine yq9 fun T hT=>?_;refine(CallV.part (CallV.fn (aeach_K (b:=r.b) (H:=(b2,cells [.pointer (some ⟨a.b,0,none⟩)] 73)::(b4,cells [.int .i64 0] 61)::(jR a p++(jz r++(planH p++F)))))) (by simp only[arenaH_app];exact ja)).mono ?_;rintro _ _ ⟨bl,rfl,rfl⟩;refine za ?_;clear hT T;refine yr3 ?_;refine K.rangeFunc (lb:=[.pointer (some ⟨bl,0,none⟩)]) rfl
  (fun D G=>G=(bl,cells [.pointer (some ⟨r.b,0,none⟩)] 117)::(D, .deferred (some []))::(b2,cells [.pointer (some ⟨a.b,0,none⟩)] 73)::(b4,cells [.int .i64 0] 61)::(jR a p++(jz r++(planH p++F)))∧ ∀ j:Nat,r.bs[j]?=some true→a.r.bs[j]?=some true)
  (fun D c G=>c= .ret∧G=(bl,cells [.pointer (some ⟨r.b,0,none⟩)] 117)::(D, .deferred (some []))::(b2,cells [.pointer (some ⟨a.b,0,none⟩)] 73)::(b4,cells [.int .i64 9] 61)::(jR a p++(jz r++(planH p++F)))∧ ∃ i:Nat,a.r.bs[i]?=some false∧r.bs[i]?=some true) ?_ ?_ ?_
 ·intro l D rc hyl
  refine(Call.part (each1_K (F:=planH p++F) (r:=r) (bl:=bl) hG okr (GaJ l D rc b2 b4 a p r.bs) (GaE l D rc b2 b4 a p r.bs)
   (A0:=(l, .loop (rc .ready none))::(D, .deferred (some []))::(b2,cells [.pointer (some ⟨a.b,0,none⟩)] 73)::(b4,cells [.int .i64 0] 61)::jR a p) ?_ ⟨rfl,fun j h=>by omega⟩) (by simp only[List.cons_append];exact ja)).mono ?_
  ·rintro k i A ⟨rfl,hno⟩ hnx
   obtain⟨n1,n2,n3,n4⟩:=jaZ hnx
   have hdi:=bit_of n1 n3
   have hno': ∀ j:Nat,j<i→r.bs[j]?=some true→a.r.bs[j]?=some true:=fun j h1 h2=>by
    by_cases hj:j<k
    ·exact hno j hj h2
    ·exact absurd (by rw[h2];rfl) (n4 j (by omega) h1)
   have hgb:getB a.r.bs (i:Nat)=(a.r.bs[i]?).getD false:=jcX
   obtain⟨v,hv⟩:=jn (l:=a.r.bs) (k:=i) (by omega)
   rw[hv] at hgb;dsimp only[Option.getD] at hgb;simp only[List.cons_append];refine zcS ?_;refine zk ?_;refine yr4 ?_;simp only[arenaH_app];refine yq7 fun T hT=>?_;refine(CallV.part (CallV.fn (Get_K (i:=(i:Nat)) okar)) ja).mono ?_;refine zq ?_;rw[hgb]
   cases v with
   |true=>
    refine za ?_;clear hT T;refine yr6 ?_;refine KE.part ((l, .loop (rc .busy none))::((D, .deferred (some []))::(b2,cells [.pointer (some ⟨a.b,0,none⟩)] 73)::(b4,cells [.int .i64 0] 61)::jR a p)++((bl,cells [.pointer (some ⟨r.b,0,none⟩)] 117)::(jz r++(planH p++F)))) (by simp only[List.cons_append,arenaH_app];exact ja) ?_
    exact KE.roundN jH.head (.inl ⟨rfl,_,⟨rfl,fun j h1 h2=>by
     by_cases hji:j=i
     ·rw[hji];exact hv
     ·exact hno' j (by omega) h2⟩,rfl⟩)
   |false=>
    refine za ?_;clear hT T;refine yr11 ?_;refine KE.part ((l, .loop (rc .busy none))::((D, .deferred (some []))::(b2,cells [.pointer (some ⟨a.b,0,none⟩)] 73)::(b4,cells [.int .i64 9] 61)::jR a p)++((bl,cells [.pointer (some ⟨r.b,0,none⟩)] 117)::(jz r++(planH p++F)))) (by simp only[List.cons_append,arenaH_app];exact ja) ?_;exact KE.roundR jH.head (.inr ⟨rfl,_,⟨rfl,i,hv,hdi⟩,rfl⟩)
  ·rintro u H' ⟨A',rfl,(⟨k,hk,rfl,hno⟩|⟨rfl,i,hi1,hi2⟩)⟩
   ·refine .inl ⟨_,?_,rfl,fun j hj=>?_⟩
    ·simp only[List.cons_append];exact ja
    ·by_cases hjk:j<k
     ·exact hno j hjk hj
     ·unfold nextB at hk;rw[List.find?_eq_none] at hk
      have:=hk j (List.mem_range.2 (jl hj))
      rw[hj] at this
      simp at this;omega
   ·refine .inr ⟨.ret,_,?_,rfl,rfl,i,hi1,hi2⟩;simp only[List.cons_append];exact ja
 ·rintro D G ⟨rfl,hall⟩
  have hoa:ja4 a.r.bs r.bs=true:=ok_all hall
  rw[hoa] at hgp;simp only[if_true] at hgp;rw[hgp];refine yq6 fun T hT=>?_;refine(CallV.part (CallV.fn (aeach_K (b:=r.b) (H:=(D, .deferred (some []))::(b2,cells [.pointer (some ⟨a.b,0,none⟩)] 73)::(b4,cells [.int .i64 0] 61)::(jR a p++(jz r++(planH p++F)))))) ja).mono ?_;rintro _ _ ⟨bm,rfl,rfl⟩;refine za ?_;clear hT T;refine yr3 ?_;refine K.rangeFunc (lb:=[.pointer (some ⟨bm,0,none⟩)]) rfl
   (fun D2 G=> ∃ k,nextB r.bs k true=none∧JW (arK a r.bs k) p∧G=(bm,cells [.pointer (some ⟨r.b,0,none⟩)] 117)::(D2, .deferred (some []))::(b2,cells [.pointer (some ⟨a.b,0,none⟩)] 73)::(b4,cells [.int .i64 0] 61)::(jR (arK a r.bs k) p++(jz r++(planH p++((D, .deferred (some []))::F)))))
   (fun D c G=>False) ?_ ?_ ?_
  ·intro l D2 rc hyl
   refine(Call.part (each1_K (F:=planH p++((D, .deferred (some []))::F)) (r:=r) (bl:=bm) hG okr (GbJ l D2 rc b2 b4 a p r.bs) (fun _=>False)
    (A0:=(l, .loop (rc .ready none))::(D2, .deferred (some []))::(b2,cells [.pointer (some ⟨a.b,0,none⟩)] 73)::(b4,cells [.int .i64 0] 61)::jR (arK a r.bs 0) p) ?_ ⟨rfl,by rw[arK_zero];exact ok⟩) (by rw[arK_zero];simp only[List.cons_append];exact ja)).mono ?_
   ·rintro k i A ⟨rfl,hok⟩ hnx
    obtain⟨n1,n2,n3,n4⟩:=jaZ hnx
    have hdi:=bit_of n1 n3
    have hai:=hall i hdi
    have hki:(arK a r.bs k).r.bs[i]?=some true:=by
     show(jaL a.r.bs r.bs k)[i]?=_
     rw[jbu (jl hai),hai];simp;omega
    have hnk:=arK_next hl hnx
    have hok':=setA_ok hok i false
    rw[hnk] at hok';simp only[List.cons_append];refine zcS ?_;refine zk ?_;refine yq7 fun T hT=>?_;refine(CallV.part (CallV.fn (agive_K hok hki)) ja).mono ?_;refine zq ?_;rw[hnk];refine za ?_;clear hT T;refine yr2 ?_;refine KE.part ((l, .loop (rc .busy none))::((D2, .deferred (some []))::(b2,cells [.pointer (some ⟨a.b,0,none⟩)] 73)::(b4,cells [.int .i64 0] 61)::jR (arK a r.bs (i+1)) p)++((bm,cells [.pointer (some ⟨r.b,0,none⟩)] 117)::(jz r++(planH p++((D, .deferred (some []))::F))))) (by simp only[List.cons_append];exact ja) ?_;exact KE.roundN jH.head (.inl ⟨rfl,_,⟨rfl,hok'⟩,rfl⟩)
   ·rintro u H' ⟨A',rfl,(⟨k,hk,rfl,hok⟩|hf)⟩
    ·refine .inl ⟨_,?_,k,hk,hok,rfl⟩;simp only[List.cons_append];exact ja
    ·exact hf.elim
  ·rintro D2 G ⟨k,hk,hok,rfl⟩
   have hlk:(arK a r.bs k).r.bs=jaC a.r.bs r.bs:=lessK_done hl hk
   refine yr8 ?_;exact KE.fin jd rfl jc ja ⟨rfl,arK a r.bs k,hok,rfl,rfl,hlk,rfl⟩
  ·rintro D2 c G hf;exact hf.elim
 ·rintro D c G ⟨rfl,rfl,i,hi1,hi2⟩
  have hoa:ja4 a.r.bs r.bs=false:=ok_bad hi1 hi2
  rw[hoa] at hgp;simp only[Bool.false_eq_true,if_false] at hgp;rw[hgp];refine yr3 ?_;exact KE.fin jd rfl jc ja ⟨rfl,a,ok,rfl,rfl,rfl,rfl⟩
open Go.RowKit
set_option maxRecDepth 10000
structure SaS where
 k:Nat
 A:jb
theorem all1_K {w0:World} {F A0:jb} {s_:SpM} {bl n:Nat} {yv:Value} (hG:jw w0) (ok:SpOk s_ n) (J:Nat→jb→Prop)
  (hy: ∀ k i A,J k A→nextB s_.d.bs k true=some i→CallV Tryz.prog w0 yv [.int .i64 (i:Nat)] (A++((bl,cells [.pointer (some ⟨s_.b,0,none⟩)] 78)::(j8 s_++F)))
   (fun u H'=>u= .bool true∧ ∃ A',J (i+1) A'∧H'=A'++((bl,cells [.pointer (some ⟨s_.b,0,none⟩)] 78)::(j8 s_++F))))
  (h0:J 0 A0):
  Call Tryz.prog w0 221 [yv, .pointer (some ⟨bl,0,none⟩)] (A0++((bl,cells [.pointer (some ⟨s_.b,0,none⟩)] 78)::(j8 s_++F)))
   (fun _ H'=> ∃ A',H'=A'++((bl,cells [.pointer (some ⟨s_.b,0,none⟩)] 78)::(j8 s_++F))∧ ∃ k,nextB s_.d.bs k true=none∧J k A'):=by
 have okd:=ok.d
 have hn:=okd.n
 refine Call.enter2 (n:=31) (by kernel_rfl) Tryz.func221 rfl rfl rfl ?_;refine yq4 fun T hT=>?_;refine(CallV.part (CallV.fn (jeg (s:=s_))) ja).mono ?_;refine zc ?_;clear hT T;simp only[sweepH_app];refine yq11 fun T hT=>?_;refine(CallV.part (CallV.fn (jc6 (k:=0) (v:=true) okd hG (by omega))) ja).mono ?_;refine zc ?_;clear hT T;refine yr8 ?_;refine K.loopT (σ:=SaS) [(0,_),(1,_)] (fun s kp_=>(3, .int .i64 (nxI (nextB s_.d.bs s.k true)))::(4, .bool (nextB s_.d.bs s.k true).isSome)::kp_) (fun s=>s.A++((bl,cells [.pointer (some ⟨s_.b,0,none⟩)] 78)::(j8 s_++F))) (fun s=>J s.k s.A) (fun s=>s_.d.bs.length+1-s.k) (⟨0,A0⟩) jg (by simp only[sweepH_app];exact ja) (h0) ?_;rintro⟨k,A⟩ hJ;dsimp only at hJ⊢
 cases hnx:nextB s_.d.bs k true with
 |none=>
  unfold nxI;dsimp only[Option.isSome,Option.getD];refine yr16 ?_;exact KE.finN (H':=A++((bl,cells [.pointer (some ⟨s_.b,0,none⟩)] 78)::(j8 s_++F))) jd rfl jc ja ⟨A,by simp only[sweepH_app],k,hnx,hJ⟩
 |some i=>
  unfold nxI;dsimp only[Option.isSome,Option.getD]
  obtain⟨n1,n2,n3,n4⟩:=jaZ hnx
  have he:((i:Nat):Int)+1=((i+1:Nat):Int):=by omega
  refine yq10 fun T hT=>?_;refine(hy k i A hJ hnx).mono ?_;rintro _ _ ⟨rfl,A',hJ',rfl⟩;refine za ?_;clear hT T;simp only[sweepH_app];refine yq14 fun T hT=>?_;rw[he];refine(CallV.part (CallV.fn (jc6 (k:=i+1) (v:=true) okd hG (by omega))) ja).mono ?_;refine zc ?_;clear hT T;refine yr7 ?_;exact KE.again ⟨i+1,A'⟩ jg (by simp only[sweepH_app];exact ja) hJ' (by show s_.d.bs.length+1-(i+1)<s_.d.bs.length+1-k;omega)
theorem spall_K {w0:World} {H:jb} {b:Nat}:
  Call Tryz.prog w0 152 [.pointer (some ⟨b,0,none⟩)] H (fun u H'=> ∃ bl,u= .func (.func 221) #[] [.pointer (some ⟨bl,0,none⟩)].toArray∧H'=(bl,cells [.pointer (some ⟨b,0,none⟩)] 78)::H):=by
 refine Call.enter1 (n:=4) (by kernel_rfl) Tryz.func152 rfl rfl rfl ?_;refine yr2 ?_;refine ze ?_;intro b1;refine yr10 ?_;exact KE.fin jd rfl jc ja ⟨b1,rfl,rfl⟩
set_option maxRecDepth 10000
section
variable {g : PlG} {long nw : Nat} {s s' : CyP} {W W' : MwP} {m : MaP} {sl r i to : Int}
theorem actW_make (hin:inS g sl):JD g W ⟨0,sl,0,0,r,0⟩={W with x:=(jW W.x (jC g sl) (hdM (jC g sl) r)).2}:=by
 unfold JD;dsimp only;rw [if_pos (by decide),if_pos hin]
theorem actW_set (hin:inS g sl) (h0:(refP W.x g.slots (jC g sl) i).2=0):JD g W ⟨2,sl,i,to,0,0⟩={W with x:=(j7 W.x g.slots (jC g sl) i to).2}:=by
 unfold JD;dsimp only;rw [if_neg (by decide),if_pos (by decide),if_pos ⟨hin,h0⟩]
theorem jhp (hin:inS g sl):JD g W ⟨4,sl,0,0,0,0⟩={W with T:=jZ W.T sl}:=by
 unfold JD;dsimp only;rw [if_neg (by decide),if_neg (by decide),if_pos (by decide),if_pos hin]
theorem jdr:JD g W ⟨5,0,i,0,0,0⟩={W with T:=Jt W.T i}:=by
 unfold JD;dsimp only;rw [if_neg (by decide),if_neg (by decide),if_neg (by decide),if_pos (by decide)]
theorem actW_pin (hin:inS g sl):JD g W ⟨6,sl,0,0,0,0⟩={W with N:=JJ W.N sl.toNat}:=by
 unfold JD;dsimp only;rw [if_neg (by decide),if_neg (by decide),if_neg (by decide),if_neg (by decide),if_pos (by decide),if_pos hin]
theorem jdb (hin:inS g sl):JD g W ⟨7,sl,0,0,0,0⟩={W with N:=JO W.N sl.toNat}:=by
 unfold JD;dsimp only;rw [if_neg (by decide),if_neg (by decide),if_neg (by decide),if_neg (by decide),if_neg (by decide),if_pos (by decide),if_pos hin]
theorem jck (hW:Jb g W) {n:Int} (h:slotT W.T n=some sl):inS g sl:=by
 unfold slotT at h
 split at h
 ·split at h
  ·rename_i e he
   split at h
   ·rename_i h1
    cases h
    exact hW.t e (List.mem_of_getElem? he) h1
   ·cases h
  ·cases h
 ·cases h
theorem makes_cy (ok:je g) (h:jp g long s) {a:Jw}:jp g long (makesC g s a):=by
 unfold makesC
 split
 ·rename_i hc
  obtain⟨k,j,_,_,hf,ht,_⟩:=jdc hc.1
  obtain⟨_,_,h3,_⟩:=jci hf
  have hl:=jl h3
  rw[h.A] at hl;rw[ht];dsimp only
  have hin:inS g (j:Nat):=⟨by omega,by omega⟩
  have h1:=(h.world ok (a:=⟨4,(j:Nat),0,0,0,0⟩)).world ok (a:=⟨0,(j:Nat),0,0,a.i,0⟩)
  dsimp only at h1;rw[jhp hin,actW_make hin] at h1;exact(h1.black _).take (by show(s.A.set _ _).length=_;rw [List.length_set])
 ·exact h
theorem jan (t:Int):(shdC g long s t).W=s.W:=by unfold shdC;split<;>rfl
theorem jb2 (t:Int):(shdO g long s t).W=s.W:=by
 unfold shdO;split
 ·exact jan _
 ·rfl
theorem jfX (ok:je g) (h:jp g long s) (t:Int):jp g long (shdO g long s t):=by
 unfold shdO;split
 ·exact h.shd ok t
 ·exact h
theorem put_cy (ok:je g) (h:jp g long s) (hin:inS g sl) (h0:(refP s.W.x g.slots (jC g sl) i).2=0) (to:Int):jp g long (putC g s sl i to):=by
 have h1:=h.world ok (a:=⟨2,sl,i,to,0,0⟩)
 rw[actW_set hin h0] at h1;exact h1
theorem sets_cy (ok:je g) (h:jp g long s) {a:Jw}:jp g long (setsC g long s a):=by
 unfold setsC
 split
 ·exact h
 ·rename_i sl hs
  have hin:=jck h.w hs
  split
  ·exact h
  ·split
   ·exact h
   ·rename_i _ h0
    refine put_cy ok (jfX ok (jfX ok h _) _) hin ?_ _;rw[jb2,jb2];exact Classical.byContradiction h0
theorem jeE (ok:je g) (h:jp g long s) {a:Jw}:jp g long (doesC g long s a):=by
 unfold doesC
 split
 ·exact makes_cy ok h
 ·split
  ·exact sets_cy ok h
  ·split
   ·exact h
   ·rename_i sl hs
    have hin:=jck h.w hs
    split
    ·have h1:=(h.shd ok sl).world ok (a:=⟨5,0,a.n,0,0,0⟩)
     rwa[jdr] at h1
    ·split
     ·have h1:=h.world ok (a:=⟨6,sl,0,0,0,0⟩)
      rwa[actW_pin hin] at h1
     ·have h1:=(h.shd ok sl).world ok (a:=⟨7,sl,0,0,0,0⟩)
      rwa[jdb hin] at h1
theorem jg3 {gens:Int} {e:jj} (h:(JV gens e).st=1):JV gens e=e:=by
 unfold JV at h⊢
 split
 ·rename_i h2
  rw[if_pos h2] at h
  split at h<;>cases h
 ·rfl
theorem jc8 (h:jp g long s) (h3:s.ph=3) (gens:Int):jp g long (publishC g gens s):=by
 refine⟨⟨⟨h.w.x,h.w.w,h.w.N,h.w.n,fun e he h1=>?_⟩,h.rf,⟨h.m.C,h.m.c,h.m.G,h.m.hs,h.m.h,by show s.m.root≤(j9 gens s.W.T).length+_;unfold j9;rw [List.length_map];exact h.m.root⟩,⟨h.i.grey,h.i.lst⟩,(jhQ _ _).trans h.A,List.length_replicate ..,fun _=>⟨rfl,rfl,rfl,rfl⟩,fun e=>(by cases e),fun e=>(by cases e),fun e=>(by cases e),by show 0≤3;decide,fun e=>absurd (show 2≤0 from e) (by decide)⟩,fun e=>(by cases e),fun e=>(by cases e)⟩
 have he':e∈s.W.T.map (JV gens):=he
 obtain⟨q,hq,rfl⟩:=List.mem_map.1 he'
 have e:=jg3 h1
 rw[e] at h1⊢;exact h.w.t q hq h1
end
open Go.RowKit
set_option maxRecDepth 10000
theorem Call.at_ {P:Program} {w0:World} {f:FuncId} {args:List Value} {H H':jb} {R R':Value→jb→Prop} (h:Call P w0 f args H' R) (hp:Part H H') (hr: ∀ v H1,R v H1→ ∃ H2,R' v H2∧Part H1 H2):Call P w0 f args H R':=
 ⟨h.ent,fun w hw=>(h.out w (hw.part hp)).mono (by
  rintro e w' ⟨v,H1,he,hh,hR⟩
  obtain⟨H2,h2,hp⟩:=hr _ _ hR
  exact⟨v,H2,he,hh.part hp,h2⟩)⟩
structure CyM where
 b:Nat
 B:BoM
 a:ArM
 T:TbM
 N:PiM
 k:MkM
 s:SpM
 nw:Nat
 ph:Nat
 st:Nat
def cycH (y:CyM):jb:=(y.b,cells [.pointer (some ⟨y.B.p.b,0,none⟩), .pointer (some ⟨y.a.b,0,none⟩), .pointer (some ⟨y.B.b,0,none⟩), .pointer (some ⟨y.T.b,0,none⟩), .pointer (some ⟨y.N.b,0,none⟩), .pointer (some ⟨y.k.b,0,none⟩), .pointer (some ⟨y.s.b,0,none⟩), .int .i64 (y.nw:Nat), .int .u8 (y.ph:Nat), .int .i64 (y.st:Nat)] 80)::(j8 y.s++(jR y.a y.B.p++(jk y.k y.B.p++(planH y.B.p++(jX y.B++(jL y.T++(Jp y.N++jx y.B.m)))))))
theorem cycH_app {y:CyM} {F:jb}:cycH y++F=(y.b,cells [.pointer (some ⟨y.B.p.b,0,none⟩), .pointer (some ⟨y.a.b,0,none⟩), .pointer (some ⟨y.B.b,0,none⟩), .pointer (some ⟨y.T.b,0,none⟩), .pointer (some ⟨y.N.b,0,none⟩), .pointer (some ⟨y.k.b,0,none⟩), .pointer (some ⟨y.s.b,0,none⟩), .int .i64 (y.nw:Nat), .int .u8 (y.ph:Nat), .int .i64 (y.st:Nat)] 80)::(j8 y.s++(jR y.a y.B.p++(jk y.k y.B.p++(planH y.B.p++(jX y.B++(jL y.T++(Jp y.N++(jx y.B.m++F)))))))):=by
 unfold cycH;simp only[List.cons_append,List.append_assoc]
structure CpM (y:CyM) (s:CyP):Prop where
 p:MpR y.k y.B y.T y.N s.W
 ok:MkOk y.k y.B.p
 R:MkR y.k y.B.p s.m
 oka:JW y.a y.B.p
 A:y.a.r.bs=s.A
 oks:SpOk y.s y.B.p.g.slots
 sa:y.s.act=s.sa
 at_:y.s.at_=s.at_
 D:y.s.d.bs=s.D
 ab:y.s.ab=y.a.b
 bb:y.s.bb=y.B.b
 mb:y.s.mb=y.k.b
 ph:y.ph=s.ph
 st:y.st=s.st
 nw:y.k.hs.length=y.nw+1
structure Ju (y y':CyM) (x:List Int) (n:Nat):Prop where
 b:y'.b=y.b
 B:y'.B=jaA y.B x
 a:y'.a.b=y.a.b
 T:y'.T.b=y.T.b
 G:y'.T.gens=y.T.gens
 N:y'.N.b=y.N.b
 k:MkAs y.k y'.k
 f:y'.k.c.f=y.k.c.f+n
 s:y'.s.b=y.s.b
 nw:y'.nw=y.nw
theorem setB_setB {B:BoM} {x z:List Int}:jaA (jaA B x) z=jaA B z:=by unfold jaA;rw [putM_put]
theorem MkAs.trans {a b c:MkM} (h:MkAs a b) (h':MkAs b c):MkAs a c:=⟨h'.b.trans h.b,h'.bb.trans h.bb,h'.tb.trans h.tb,h'.nb.trans h.nb,h'.n.trans h.n,h'.l.trans h.l⟩
theorem Ju.refl {y:CyM} {s:CyP} (h:CpM y s):Ju y y s.W.x 0:=⟨rfl,(jaQ h.p.bo).symm,rfl,rfl,rfl,rfl,⟨rfl,rfl,rfl,rfl,rfl,rfl⟩,rfl,rfl,rfl⟩
theorem Ju.trans {y y' y'':CyM} {x x':List Int} {n n':Nat} (h:Ju y y' x n) (h':Ju y' y'' x' n'):Ju y y'' x' (n+n'):=
 ⟨h'.b.trans h.b,by rw[h'.B,h.B,setB_setB],h'.a.trans h.a,h'.T.trans h.T,h'.G.trans h.G,h'.N.trans h.N,h.k.trans h'.k,by rw[h'.f,h.f];omega,h'.s.trans h.s,h'.nw.trans h.nw⟩
theorem Ju.p {y y':CyM} {x:List Int} {n:Nat} (h:Ju y y' x n):y'.B.p=y.B.p:=by rw[h.B];rfl
structure CpR (g:PlG) (long:Nat) (y:CyM) (s:CyP):Prop extends CpM y s where
 eg:y.B.p.g=g
 el:y.k.g.ring.length=long
 i:jp g long s
 le:Jz g s
def CyQ (g:PlG) (long:Nat) (y:CyM) (n:Nat) (F:jb) (s':CyP) (H':jb):Prop:= ∃ y',CpR g long y' s'∧Ju y y' s'.W.x n∧H'=cycH y'++F
section
variable {w0 : World} {F : jb} {y : CyM}
theorem cynone_K:Call Tryz.prog w0 66 [.pointer (some ⟨y.b,0,none⟩)] (cycH y++F) (fun r H'=>r= .bool false∧H'=cycH y++F):=by
 refine zeG ?_;simp only[cycH_app,seenH_app];refine yr25 ?_;exact zG
theorem jdk:Call Tryz.prog w0 30 [.pointer (some ⟨y.b,0,none⟩)] (cycH y++F) (fun r H'=>r= .int .u8 (y.ph:Nat)∧H'=cycH y++F):=by
 refine zeH ?_;refine yq9 fun T hT=>?_;refine zcg ?_;refine zc ?_;clear hT T;simp only[cycH_app,seenH_app];refine yr15 ?_;exact zG
theorem jhh:Call Tryz.prog w0 31 [.pointer (some ⟨y.b,0,none⟩)] (cycH y++F) (fun r H'=>r= .int .i64 (y.st:Nat)∧H'=cycH y++F):=by
 refine Call.enter1 (n:=9) (by kernel_rfl) Tryz.func31 rfl rfl rfl ?_;refine yq9 fun T hT=>?_;refine zcg ?_;refine zc ?_;clear hT T;simp only[cycH_app,seenH_app];refine yr15 ?_;exact zG
theorem jd9:Call Tryz.prog w0 26 [.pointer (some ⟨y.b,0,none⟩)] (cycH y++F) (fun r H'=>r= .pointer (some ⟨y.a.b,0,none⟩)∧H'=cycH y++F):=by
 refine Call.enter1 (n:=9) (by kernel_rfl) Tryz.func26 rfl rfl rfl ?_;refine yq9 fun T hT=>?_;refine zcg ?_;refine zc ?_;clear hT T;simp only[cycH_app,seenH_app];refine yr15 ?_;exact zG
theorem jdw:Call Tryz.prog w0 27 [.pointer (some ⟨y.b,0,none⟩)] (cycH y++F) (fun r H'=>r= .pointer (some ⟨y.B.b,0,none⟩)∧H'=cycH y++F):=by
 refine Call.enter1 (n:=9) (by kernel_rfl) Tryz.func27 rfl rfl rfl ?_;refine yq9 fun T hT=>?_;refine zcg ?_;refine zc ?_;clear hT T;simp only[cycH_app,seenH_app];refine yr15 ?_;exact zG
theorem jdj:Call Tryz.prog w0 28 [.pointer (some ⟨y.b,0,none⟩)] (cycH y++F) (fun r H'=>r= .pointer (some ⟨y.T.b,0,none⟩)∧H'=cycH y++F):=by
 refine Call.enter1 (n:=9) (by kernel_rfl) Tryz.func28 rfl rfl rfl ?_;refine yq9 fun T hT=>?_;refine zcg ?_;refine zc ?_;clear hT T;simp only[cycH_app,seenH_app];refine yr15 ?_;exact zG
theorem jcO:Call Tryz.prog w0 29 [.pointer (some ⟨y.b,0,none⟩)] (cycH y++F) (fun r H'=>r= .pointer (some ⟨y.N.b,0,none⟩)∧H'=cycH y++F):=by
 refine Call.enter1 (n:=9) (by kernel_rfl) Tryz.func29 rfl rfl rfl ?_;refine yq9 fun T hT=>?_;refine zcg ?_;refine zc ?_;clear hT T;simp only[cycH_app,seenH_app];refine yr15 ?_;exact zG
end
end Go.Proofs.YtldomapkmopomaaGreatDoor.Sw
