/-The walker and the contracts that the law needs,part 19. -/
import Derived.Test.YtldomapkmopomaaGreatDoorD1
import Derived.ArgAppend
import Derived.ChangeMaps5
import Derived.Deep.Fields
import Derived.Deep.LoopGhost
import Derived.Deep.OwnRows
import Derived.Deep.Quiet
import Derived.Deep.Slices
import Derived.IntWalk
import Derived.Laws.Cells
import Derived.Laws.CopyOwn
import Derived.Laws.Externs
import Derived.Laws.FloatArith
import Derived.Laws.IdiomStrings
import Derived.Laws.NewFold
import Derived.Laws.StructEq
import Derived.Lib.BitFns
import Derived.Lib.Hide
import Derived.Lib.SmallJoins
import Derived.Lib.TrailingZeros
import Derived.Maps.RangeRun
import Derived.OrdersIn
import Derived.ProofKit
import Derived.RangeFuncBound
import Derived.RangeFuncCalls
import Derived.RangeFuncLeaves
import Derived.RangeFuncNested
import Derived.RecoverIn
import Derived.Shelf.Bits.Mul64
import Derived.Shelf.Slices.Turned
import Derived.Shelf.Spec.TrailingZeros
import Derived.Shelf.Strconv.Itoa0
import Derived.SizedLaws
import Derived.Sort.BigQuietIn
import Derived.StillTailTactics
import Derived.Test.YtldomapkmopomaaGreatDoorProg
import Derived.WalkKit
import Derived.Test.YtldomapkmopomaaGreatDoorJ16
import Derived.Test.YtldomapkmopomaaGreatDoorJ18
set_option linter.unusedVariables false set_option linter.unusedSimpArgs false namespace Go.Proofs.YtldomapkmopomaaGreatDoor.Sw
set_option maxHeartbeats 8000000
open Go.Proofs.YtldomapkmopomaaGreatDoor renaming lo → qL, hi → qH
open Go.RowKit
set_option linter.unusedVariables false
set_option linter.unusedSimpArgs false
set_option maxRecDepth 10000
def jaK (q y:Int):Int:=q/y
def jb9 (page q y:Int):Int:=(q/y+page/y-1)/(page/y)
def cfgQ (c:Cfg) (t:Int):Int:=((c.tn[t.toNat]?).map (·.quota)).getD 0
def cfgC (c:Cfg) (k:Int):Int:=((c.cl[k.toNat]?)).getD 0
def J9 (c:Cfg) (t k:Int):Int × Int:=if thereP c t k then(jaK (cfgQ c t) (cfgC c k),0) else(0,2)
def pagesP (c:Cfg) (t k:Int):Int × Int:=if thereP c t k then(jb9 c.page (cfgQ c t) (cfgC c k),0) else(0,2)
def prV (p:Int × Int):Value:= .tuple [.int .i64 p.1, .int .i64 p.2].toArray
theorem jfs {q y:Int} (hy:2≤y) (hq:y≤q) (hq2:q≤4096):1≤jaK q y∧jaK q y≤2048:=by
 unfold jaK
 constructor
 ·exact(Int.le_ediv_iff_mul_le (by omega)).2 (by omega)
 ·exact Int.le_trans (Int.ediv_le_ediv (by omega) hq2) (by
   have:(4096:Int)/y*y≤4096:=Int.ediv_mul_le _ (by omega)
   have h0:0≤(4096:Int)/y:=Int.ediv_nonneg (by omega) (by omega)
   have:(4096:Int)/y*2≤4096/y*y:=Int.mul_le_mul_of_nonneg_left hy h0
   omega)
theorem Slots_K {w0:World} {H:jb} {c:Cfg} {vc vt:Value} {t k:Int} (hR:j1 w0 H c vc vt):
  Call Tryz.prog w0 118 [jt c vc vt, .int .i64 t, .int .i64 k] H (fun r H'=>r=prV (J9 c t k)∧H'=H):=by
 have hc0:=fun A (hp:Part A H)=>jfS (t:=t) (k:=k) (hR.part hp)
 obtain⟨hS,hT',o1,o2,l1,l2⟩:=hR
 cases ht:thereP c t k with
 |false=>
  have he:J9 c t k=(0,2):=by simp[J9,ht]
  rw[ht] at hc0;rw[he]
  obtain⟨cl,page,tn,workers,grey,gens⟩:=c
  dsimp only at hS hT' l1 l2 he;simp only[jt,jJ] at hc0⊢;refine Call.enter3 (n:=25) (by kernel_rfl) Tryz.func118 rfl rfl rfl ?_;refine yr2 ?_;refine ze ?_;intro b3;refine yq10 fun T hT=>?_;refine zD ?_;rintro _ _ ⟨rfl,rfl⟩;refine za ?_;clear hT T;refine yr12 ?_;exact zd
 |true=>
  obtain⟨i,j,x,y,rfl,rfl,hx,hy,ok⟩:=ja9 ht
  have he:J9 c (i:Nat) (j:Nat)=(x.quota/y,0):=by simp[J9,ht,jaK,cfgQ,cfgC,hx,hy]
  have hb:=(ok.ten x (List.mem_of_getElem? hx)).1
  have hb2:=ok.el y (List.mem_of_getElem? hy)
  have hil:=jl hx
  have hjl:=jl hy
  rw[ht] at hc0;rw[he]
  obtain⟨q,tr,cp,ax⟩:=x
  obtain⟨cl,page,tn,workers,grey,gens⟩:=c
  dsimp only at hS hT' l1 l2 he hx hy hb hb2 hil hjl;simp only[jt,jJ] at hc0⊢;refine Call.enter3 (n:=25) (by kernel_rfl) Tryz.func118 rfl rfl rfl ?_;refine yr2 ?_;refine ze ?_;intro b3;refine yq10 fun T hT=>?_;refine zD ?_;rintro _ _ ⟨rfl,rfl⟩;refine za ?_;clear hT T;refine yr7 ?_;refine zbG ?_;refine z8 ?_;refine zaD ?_;refine zcy ?_;refine zJ ?_;refine zQ ?_;refine zcn ?_;refine zaZ ?_;refine zab ?_;refine yr2 ?_;exact zd
theorem Pages_K {w0:World} {H:jb} {c:Cfg} {vc vt:Value} {t k:Int} (hR:j1 w0 H c vc vt):
  Call Tryz.prog w0 119 [jt c vc vt, .int .i64 t, .int .i64 k] H (fun r H'=>r=prV (pagesP c t k)∧H'=H):=by
 have hc0:=fun A (hp:Part A H)=>Slots_K (t:=t) (k:=k) (hR.part hp)
 obtain⟨hS,hT',o1,o2,l1,l2⟩:=hR
 cases ht:thereP c t k with
 |false=>
  have he:pagesP c t k=(0,2):=by simp[pagesP,ht]
  have he2:J9 c t k=(0,2):=by simp[J9,ht]
  rw[he2] at hc0;rw[he]
  obtain⟨cl,page,tn,workers,grey,gens⟩:=c
  dsimp only at hS hT' l1 l2 he;simp only[jt,jJ] at hc0⊢;refine Call.enter3 (n:=35) (by kernel_rfl) Tryz.func119 rfl rfl rfl ?_;refine yr2 ?_;refine ze ?_;intro b3;refine yq9 fun T hT=>?_;refine zD ?_;rintro _ _ ⟨rfl,rfl⟩;simp only[prV];refine za ?_;clear hT T;refine yr24 ?_;exact zd
 |true=>
  obtain⟨i,j,x,y,rfl,rfl,hx,hy,ok⟩:=ja9 ht
  have he:pagesP c (i:Nat) (j:Nat)=(jb9 c.page x.quota y,0):=by simp[pagesP,ht,cfgQ,cfgC,hx,hy]
  have hb:=(ok.ten x (List.mem_of_getElem? hx)).1
  have hb2:=ok.el y (List.mem_of_getElem? hy)
  have hpg:=ok.page
  have hn:J9 c (i:Nat) (j:Nat)=(jaK x.quota y,0):=by simp[J9,ht,cfgQ,cfgC,hx,hy]
  have hsl:=jfs (q:=x.quota) (y:=y) (by omega) (by omega) hb.2
  have hper:1≤c.page/y∧c.page/y≤64:=⟨(Int.le_ediv_iff_mul_le (by omega)).2 (by omega),Int.le_trans (Int.ediv_le_self _ (by omega)) hpg.2⟩
  have hil:=jl hx
  have hjl:=jl hy
  rw[hn] at hc0;rw[he]
  have hpn:jb9 c.page x.quota y=(jaK x.quota y+c.page/y-1)/(c.page/y):=rfl
  rw[hpn]
  obtain⟨n,hn'⟩: ∃ n,n=jaK x.quota y:=⟨_,rfl⟩
  rw[←hn'] at hc0 hsl⊢
  obtain⟨q,tr,cp,ax⟩:=x
  obtain⟨cl,page,tn,workers,grey,gens⟩:=c
  dsimp only at hS hT' l1 l2 he hx hy hb hb2 hil hjl hpg hper;simp only[jt,jJ] at hc0⊢
  obtain⟨pr,hpr⟩: ∃ p,p=page/y:=⟨_,rfl⟩
  rw[←hpr] at hper;refine Call.enter3 (n:=35) (by kernel_rfl) Tryz.func119 rfl rfl rfl ?_;refine yr2 ?_;refine ze ?_;intro b3;refine yq9 fun T hT=>?_;refine zD ?_;rintro _ _ ⟨rfl,rfl⟩;simp only[prV];refine za ?_;clear hT T;refine yr18 ?_;refine zbI ?_;refine zB ?_;refine zQ ?_;refine zcn ?_;refine zaZ ?_;refine zy ?_;refine yr14 ?_;exact zd
open Go.RowKit
set_option maxRecDepth 10000
structure RkS where
 k:Nat
set_option maxHeartbeats 1000000 in
theorem jeK {w0:World} {H:jb} {c:Cfg} {vc vt:Value} (hR:j1 w0 H c vc vt):
  Call Tryz.prog w0 48 [jt c vc vt] H (fun r H'=>r= .int .i64 (errB (jT c) 2)∧H'=H):=by
 obtain⟨hS,hT',o1,o2,l1,l2⟩:=hR
 obtain⟨cl,page,tn,workers,grey,gens⟩:=c
 dsimp only at hS hT' l1 l2;simp only[jt,jJ]
 cases hc:Jv cl with
 |false=>
  have hf:jT ⟨cl,page,tn,workers,grey,gens⟩=false:=by simp[jT,hc]
  refine Call.enter1 (n:=83) (by kernel_rfl) Tryz.func48 rfl rfl rfl ?_;refine yr2 ?_;refine ze ?_;intro b1;refine yq8 fun T hT=>?_;refine(CallV.fn (rCheck_K (l:=cl) (hS.part ja) l1)).mono ?_;rintro _ _ ⟨rfl,rfl⟩;rw[hc];refine zd2 ?_;clear hT T;refine yr11 ?_;exact zL
 |true=>
  have hcc:=hc
  simp only[Jv,Bool.and_eq_true,decide_eq_true_eq] at hcc
  obtain⟨z,hz⟩:=jn (l:=cl) (k:=cl.length-1) (by omega)
  have hzl:cl.getLast?=some z:=by rw[List.getLast?_eq_getElem?];exact hz
  have htop:topP cl=z:=by simp[topP,hzl]
  have hz':cl[(((cl.length:Nat):Int)-1).toNat]?=some z:=by rw[show(((cl.length:Nat):Int)-1).toNat=cl.length-1 by omega];exact hz
  have hcl1:1≤cl.length:=hcc.1.1.1
  have hpl:jb7 ⟨cl,page,tn,workers,grey,gens⟩=(rnP page z 64&&(rnP (tn.length:Nat) 1 8&&(rnP workers 0 8&&(rnP grey 1 64&&rnP gens 1 2147483648)))):=by
   simp only[jb7,htop,JX,rnP,Bool.and_true,Bool.and_assoc]
  have hcp:jT ⟨cl,page,tn,workers,grey,gens⟩=(jb7 ⟨cl,page,tn,workers,grey,gens⟩&&tn.all (tenP z)):=by simp[jT,hc,htop]
  have hout:jb7 ⟨cl,page,tn,workers,grey,gens⟩=false→jT ⟨cl,page,tn,workers,grey,gens⟩=false:=fun h=>by rw[hcp,h];rfl
  refine Call.enter1 (n:=83) (by kernel_rfl) Tryz.func48 rfl rfl rfl ?_;refine yr2 ?_;refine ze ?_;intro b1;refine yq8 fun T hT=>?_;refine(CallV.fn (rCheck_K (l:=cl) (hS.part ja) l1)).mono ?_;rintro _ _ ⟨rfl,rfl⟩;rw[hc];simp only[errB,if_true];refine za ?_;clear hT T;refine yq25 fun T hT=>?_;refine zaQ ?_
  cases g1:rnP page z 64 with
  |false=>
   have hf:=hout (by rw[hpl,g1];rfl)
   refine za ?_;clear hT T;refine yr36 ?_;exact zL
  |true=>
   refine za ?_;clear hT T;refine yq9 fun T hT=>?_;refine zaQ ?_
   cases g2:rnP (tn.length:Nat) 1 8 with
   |false=>
    have hf:=hout (by rw[hpl,g1,g2];rfl)
    refine za ?_;clear hT T;refine yr31 ?_;exact zL
   |true=>
    refine za ?_;clear hT T;refine yq9 fun T hT=>?_;refine zaQ ?_
    cases g3:rnP workers 0 8 with
    |false=>
     have hf:=hout (by rw[hpl,g1,g2,g3];rfl)
     refine za ?_;clear hT T;refine yr25 ?_;exact zL
    |true=>
     refine za ?_;clear hT T;refine yq9 fun T hT=>?_;refine zaQ ?_
     cases g4:rnP grey 1 64 with
     |false=>
      have hf:=hout (by rw[hpl,g1,g2,g3,g4];rfl)
      refine za ?_;clear hT T;refine yr19 ?_;exact zL
     |true=>
      refine za ?_;clear hT T;refine yq9 fun T hT=>?_;refine zaQ ?_
      cases g5:rnP gens 1 2147483648 with
      |false=>
       have hf:=hout (by rw[hpl,g1,g2,g3,g4,g5];rfl)
       refine za ?_;clear hT T;refine yr13 ?_;exact zL
      |true=>
       have hcr:jT ⟨cl,page,tn,workers,grey,gens⟩=tn.all (tenP z):=by rw[hcp,hpl,g1,g2,g3,g4,g5];rfl
       refine za ?_;clear hT T;refine yr15 ?_;refine K.loopT (σ:=RkS) [(1,_),(3,_)] (fun s kp_=>(4, .int .i64 (s.k:Nat))::kp_) (fun s=>(b1,cells [vc, .int .i64 page,vt, .int .i64 workers, .int .i64 grey, .int .i64 gens] 25)::H) (fun s=>s.k≤tn.length∧tn.all (tenP z)=(tn.drop s.k).all (tenP z)) (fun s=>tn.length-s.k) (⟨0⟩) jg ja (⟨by simp,by simp⟩) ?_;rintro⟨k⟩ ⟨hk,hr⟩;dsimp only at hk hr⊢
       by_cases hlt:k<tn.length
       ·obtain⟨t,ht⟩:=jn hlt
        have hd:tn.drop k=t::tn.drop (k+1):=by
         obtain⟨h1,e⟩:=List.getElem?_eq_some_iff.1 ht
         rw[List.drop_eq_getElem_cons h1,e]
        rw[hd,List.all_cons] at hr
        obtain⟨q,tr,cp,ax⟩:=t
        have hte:tenP z ⟨q,tr,cp,ax⟩=(rnP q z 4096&&(rnP tr 1 1048576&&(rnP cp 1 1024&&rnP ax 0 1024))):=by
         simp only[tenP,JX,rnP,Bool.and_true,Bool.and_assoc]
        have hno:tenP z ⟨q,tr,cp,ax⟩=false→jT ⟨cl,page,tn,workers,grey,gens⟩=false:=fun h=>by rw[hcr,hr,h];rfl
        rw[hte] at hr hno;refine yr22 ?_;refine zf ?_;intro b5;refine yq8 fun T hT=>?_;refine zaQ ?_
        cases m1:rnP q z 4096 with
        |false=>
         have hf:=hno (by rw[m1];rfl)
         refine za ?_;clear hT T;refine yr33 ?_;exact zL
        |true=>
         refine za ?_;clear hT T;refine yq7 fun T hT=>?_;refine zaQ ?_
         cases m2:rnP tr 1 1048576 with
         |false=>
          have hf:=hno (by rw[m1,m2];rfl)
          refine za ?_;clear hT T;refine yr29 ?_;exact zL
         |true=>
          refine za ?_;clear hT T;refine yq9 fun T hT=>?_;refine zaQ ?_
          cases m3:rnP cp 1 1024 with
          |false=>
           have hf:=hno (by rw[m1,m2,m3];rfl)
           refine za ?_;clear hT T;refine yr23 ?_;exact zL
          |true=>
           refine za ?_;clear hT T;refine yq9 fun T hT=>?_;refine zaQ ?_
           cases m4:rnP ax 0 1024 with
           |false=>
            have hf:=hno (by rw[m1,m2,m3,m4];rfl)
            refine za ?_;clear hT T;refine yr17 ?_;exact zL
           |true=>
            rw[m1,m2,m3,m4,Bool.true_and,Bool.true_and,Bool.true_and,Bool.true_and] at hr;refine za ?_;clear hT T;refine yr14 ?_;exact ze7
       ·have hf:jT ⟨cl,page,tn,workers,grey,gens⟩=true:=by rw[hcr,hr,List.drop_of_length_le (by omega)];rfl
        refine yr22 ?_;exact zL
set_option maxRecDepth 10000
theorem Size0_K {w0:World} {F:jb} {p:jO} {s:Nat} {x:ju} (ok:J2 p) (hx:p.g.L[s]?=some x):
  Call Tryz.prog w0 181 [.pointer (some ⟨p.b,0,none⟩), .int .i64 (s:Nat)] (planH p++F) (fun r H'=>r= .tuple [.int .i64 (x.size:Nat), .int .i64 0].toArray∧H'=planH p++F):=by
 obtain⟨k,d,hk,hd,hs,rfl⟩:=L_at hx
 have ho:=ok.o
 have hpl:p.g.parts.length=p.g.m:=jbP
 have hkl:k<p.g.parts.length:=by omega
 have hx:p.g.parts[k]?=some (p.g.pt k):=jch hk
 refine Call.enter2 (n:=27) (by kernel_rfl) Tryz.func181 rfl rfl rfl ?_;refine yq10 fun T hT=>?_;refine zdb ?_;rintro _ _ ⟨rfl,rfl⟩;refine za ?_;clear hT T;simp only[jB,jV,jN];refine yr34 ?_;exact zaB
theorem Class0_K {w0:World} {F:jb} {p:jO} {s:Nat} {x:ju} (ok:J2 p) (hx:p.g.L[s]?=some x):
  Call Tryz.prog w0 187 [.pointer (some ⟨p.b,0,none⟩), .int .i64 (s:Nat)] (planH p++F) (fun r H'=>r= .tuple [.int .i64 (x.cls:Nat), .int .i64 0].toArray∧H'=planH p++F):=by
 obtain⟨k,d,hk,hd,hs,rfl⟩:=L_at hx
 refine Call.enter2 (n:=18) (by kernel_rfl) Tryz.func187 rfl rfl rfl ?_;refine yq10 fun T hT=>?_;refine zdb ?_;rintro _ _ ⟨rfl,rfl⟩;refine za ?_;clear hT T;refine yr18 ?_;exact zaB
theorem Addr0_K {w0:World} {F:jb} {p:jO} {s:Nat} {x:ju} (ok:J2 p) (hx:p.g.L[s]?=some x):
  Call Tryz.prog w0 185 [.pointer (some ⟨p.b,0,none⟩), .int .i64 (s:Nat)] (planH p++F) (fun r H'=>r= .tuple [.int .i64 (x.addr:Nat), .int .i64 0].toArray∧H'=planH p++F):=by
 obtain⟨h1,_,_,h2,h3,h4,_⟩:=ok.g.fits hx
 have hw:=ok.g.words
 have hpg:=ok.g.pg
 have hpp:=ok.g.pages.2
 obtain⟨k,d,hk,hd,hs,rfl⟩:=L_at hx
 have hn:=ok.g.n hk
 have hper:=ok.g.per hk
 have hy:=ok.g.y k hk
 have ho:=ok.o
 have hpl:p.g.parts.length=p.g.m:=jbP
 have hkl:k<p.g.parts.length:=by omega
 have hx:p.g.parts[k]?=some (p.g.pt k):=jch hk
 simp only[PlG.sl] at h1 h2 h3 h4⊢
 obtain⟨pt,hpt⟩: ∃ pt,pt=p.g.pt k:=⟨_,rfl⟩
 obtain⟨y,hy'⟩: ∃ y,y=p.g.y k:=⟨_,rfl⟩
 obtain⟨per,hper'⟩: ∃ y,y=p.g.per k:=⟨_,rfl⟩
 obtain⟨pg,hpg'⟩: ∃ y,y=p.g.page k:=⟨_,rfl⟩
 rw[←hy',←hper',←hpg'] at h1 h3 h4⊢;rw[←hper',←hpg'] at h2;rw[←hper'] at hper;rw[←hy'] at hy;rw[←hpt] at hx
 obtain⟨sz,fi,ma,pa,pe⟩:=pt
 obtain⟨rfl,_,_,rfl,rfl⟩:sz=y∧fi=p.g.first k∧ma=p.g.n k∧pa=pg∧pe=per:=by
  simp only[PlG.pt,PartP.mk.injEq] at hpt
  obtain⟨e1,e2,e3,e4,e5⟩:=hpt
  exact⟨by rw[e1,hy'],e2,e3,by rw[e4,hpg'],by rw[e5,hper']⟩
 clear hpt hy' hper' hpg'
 obtain⟨a,ha⟩: ∃ a,a=d/pe:=⟨_,rfl⟩
 obtain⟨b,hb⟩: ∃ b,b=d%pe:=⟨_,rfl⟩
 have e1:((d:Nat):Int)/((pe:Nat):Int)=(a:Nat):=by rw[ha];rfl
 have e2:((d:Nat):Int)%((pe:Nat):Int)=(b:Nat):=by rw[hb];rfl
 rw[←ha,←hb] at h1⊢;rw[←ha] at h2 h3 h4;rw[←hb] at h4
 obtain⟨m1,hm1⟩: ∃ m,m=(pa+a)*p.g.pg:=⟨_,rfl⟩
 obtain⟨m2,hm2⟩: ∃ m,m=b*sz:=⟨_,rfl⟩
 have e3:(((pa:Nat):Int)+(a:Nat))*((p.g.pg:Nat):Int)=(m1:Nat):=by rw[hm1];simp
 have e4:((b:Nat):Int)*((sz:Nat):Int)=(m2:Nat):=by rw[hm2];simp
 have hal:a≤d:=by rw[ha];exact Nat.div_le_self _ _
 have hbl:b≤d:=by rw[hb];exact Nat.mod_le _ _
 rw[←hm1,←hm2] at h1⊢
 have hm1b:m1≤1048576:=by omega
 have hm2b:m2≤1048576:=by omega
 clear h3 h4;refine Call.enter2 (n:=47) (by kernel_rfl) Tryz.func185 rfl rfl rfl ?_;refine yq10 fun T hT=>?_;refine zdb ?_;rintro _ _ ⟨rfl,rfl⟩;refine za ?_;clear hT T;simp only[jB,jV,jN];refine yr28 ?_;refine zf ?_;intro b9;refine yr3 ?_;simp only[partE_enc]
 have e5:(((pa:Nat):Int)+((d:Nat):Int)/((pe:Nat):Int))*((p.g.pg:Nat):Int)=(m1:Nat):=by rw[e1,e3]
 have e6:((d:Nat):Int)%((pe:Nat):Int)*((sz:Nat):Int)=(m2:Nat):=by rw[e2,e4]
 have e7:((m1:Nat):Int)+((m2:Nat):Int)=((m1+m2:Nat):Int):=by omega
 refine yr1 ?_;refine K.drawn [] [(0,0),(1,0),(2,0),(3,0),(4,0),(5,0),(6,0),(7,0),(8,0),(9,0),(10,0),(11,0),(12,0),(13,0),(14,0),(15,0),(16,0),(17,0),(18,0),(19,0),(20,0),(21,0)] (by kernel_rfl) (by kernel_rfl) (by kernel_rfl) (by kernel_rfl) (by kernel_rfl) (by kernel_rfl) Part.nil ?_;refine zc6 ?_;refine zg ?_;refine zan ?_;refine zaZ ?_;refine zK ?_;refine zaW ?_;refine zbF ?_;refine zg ?_;refine zan ?_;refine zcr ?_;refine zQ ?_;refine zbF ?_;refine zK ?_;refine zab ?_;refine yr2 ?_;rw[e5,e6,e7];exact zaB
set_option maxRecDepth 10000
structure BoM where
 b:Nat
 m:Jk
 t:Nat
 p:jO
def jX (B:BoM):jb:=[(B.b,cells [.pointer (some ⟨B.m.b,0,none⟩), .int .i64 (B.t:Nat), .pointer (some ⟨B.p.b,0,none⟩)] 215)]
theorem JN {B:BoM} {F:jb}:jX B++F=(B.b,cells [.pointer (some ⟨B.m.b,0,none⟩), .int .i64 (B.t:Nat), .pointer (some ⟨B.p.b,0,none⟩)] 215)::F:=rfl
structure jaq (B:BoM) (x:List Int):Prop where
 m:JZ B.m
 p:J2 B.p
 r:B.m.R[B.t]?=some x
 n:x.length=B.p.g.words
 w:Jx x
def J4 (m:Jk) (t:Nat) (x:List Int):Jk:=⟨m.b,m.R.set t x,m.ow,m.ob⟩
theorem setM_put {m:Jk} {t a:Nat} {w:Int} {x:List Int} (ht:m.R[t]?=some x):setM m t a w=J4 m t (x.set a w):=by unfold setM J4;rw [ht];rfl
theorem jgO {m:Jk} {t:Nat} {x:List Int} {p:ju} (ht:m.R[t]?=some x):jcu m t p.addr p.size=J4 m t (Jo x p):=by unfold jcu J4;rw [ht];rfl
theorem putM_put {m:Jk} {t:Nat} {x y:List Int}:J4 (J4 m t x) t y=J4 m t y:=by unfold J4;simp[List.set_set]
theorem putM_R {m:Jk} {t:Nat} {x y:List Int} (ht:m.R[t]?=some x):(J4 m t y).R[t]?=some y:=by unfold J4;exact List.getElem?_set_self (jl ht)
theorem jd7 {m:Jk} {t:Nat} {x:List Int} (ht:m.R[t]?=some x):J4 m t x=m:=by
 unfold J4
 have:m.R.set t x=m.R:=by
  apply List.ext_getElem?
  intro i
  by_cases h:i=t
  ·subst h;rw [List.getElem?_set_self (jl ht),ht]
  ·rw[List.getElem?_set_ne (by omega)]
 rw[this]
theorem putM_ok {m:Jk} {t:Nat} {x y:List Int} (ok:JZ m) (ht:m.R[t]?=some x) (hl:y.length=x.length):JZ (J4 m t y):=by
 have h:=set_r ht (x':=y) hl
 refine ok_of ok ?_ h.2 (by simp)
 obtain⟨e1,e2⟩:=jbE ht
 show(m.R.set t y).flatten.length=_
 rw[h.1];simp only[List.length_append,List.length_take,List.length_drop];omega
def jaA (B:BoM) (x:List Int):BoM:=⟨B.b,J4 B.m B.t x,B.t,B.p⟩
theorem setB_ok {B:BoM} {x y:List Int} (ok:jaq B x) (hl:y.length=x.length) (hw:Jx y):jaq (jaA B y) y:=⟨putM_ok ok.m ok.r hl,ok.p,putM_R ok.r,by rw[hl];exact ok.n,hw⟩
theorem jaQ {B:BoM} {x:List Int} (ok:jaq B x):jaA B x=B:=by unfold jaA;rw [jd7 ok.r]
def headV (o:Option HdP):Value:=match o with
 |some h=> .tuple [hdV h, .int .i64 0].toArray
 |none=> .tuple [hdV ⟨0,0,0⟩, .int .i64 5].toArray
section
variable {w0 : World} {F : jb} {B : BoM} {x : List Int} {s : Nat} {y : ju}
theorem bonone_K:
  Call Tryz.prog w0 184 [.pointer (some ⟨B.b,0,none⟩)] (jX B++(jx B.m++(planH B.p++F))) (fun r H'=>r= .bool false∧H'=jX B++(jx B.m++(planH B.p++F))):=by
 refine Call.enter1 (n:=12) (by kernel_rfl) Tryz.func184 rfl rfl rfl ?_;simp only[jB,jN,jV,JN];refine yr25 ?_;exact za1
theorem place_K (ok:jaq B x) (hy:B.p.g.L[s]?=some y):
  Call Tryz.prog w0 110 [.pointer (some ⟨B.b,0,none⟩), .int .i64 (s:Nat)] (jX B++(jx B.m++(planH B.p++F))) (fun r H'=>r= .tuple [.int .i64 (y.addr:Nat), .int .i64 (y.size:Nat), .int .i64 0].toArray∧H'=jX B++(jx B.m++(planH B.p++F))):=by
 have okp:=ok.p
 refine Call.enter2 (n:=33) (by kernel_rfl) Tryz.func110 rfl rfl rfl ?_;refine yq11 fun T hT=>?_;refine(CallV.fn (bonone_K (B:=B))).mono ?_;rintro _ _ ⟨rfl,rfl⟩;refine za ?_;clear hT T;simp only[jB,jN,jV,JN];refine yq13 fun T hT=>?_;refine(CallV.part (CallV.fn (Addr0_K okp hy)) (by first|exact ja|(simp only[jB,jN,jV,JN];exact ja))).mono ?_;refine zc ?_;clear hT T;simp only[jB,jN,jV,JN];refine yq23 fun T hT=>?_;refine(CallV.part (CallV.fn (Size0_K okp hy)) (by first|exact ja|(simp only[jB,jN,jV,JN];exact ja))).mono ?_;refine zc ?_;clear hT T;simp only[jB,jN,jV,JN];refine yr18 ?_;exact za1
theorem lies_K {h:HdP} (ok:jaq B x) (hy:B.p.g.L[s]?=some y):
  Call Tryz.prog w0 111 [.pointer (some ⟨B.b,0,none⟩), .int .i64 (s:Nat), .int .i64 (y.size:Nat),hdV h] (jX B++(jx B.m++(planH B.p++F))) (fun r H'=>r= .bool (Js y h)∧H'=jX B++(jx B.m++(planH B.p++F))):=by
 have okp:=ok.p
 have hneed:=fun A=>Need_K (w0:=w0) (H:=A) (h:=h)
 obtain⟨c,r,w⟩:=h
 unfold hdV at*;dsimp only at*
 cases hm:Jd ⟨c,r,w⟩ with
 |false=>
  have e:Js y ⟨c,r,w⟩=false:=by simp[Js,hm]
  have hn:jag ⟨c,r,w⟩=(0,2):=by simp[jag,hm]
  simp only[hn] at hneed;rw[e];refine zdc ?_;refine yr2 ?_;refine ze ?_;intro b7;refine yq6 fun T hT=>?_;refine zbl ?_;rintro _ _ ⟨rfl,rfl⟩;refine za ?_;clear hT T;simp only[jB,jN,jV,JN];refine yq14 fun T hT=>?_;refine zdd ?_;refine zc ?_;clear hT T;simp only[jB,jN,jV,JN];refine yr26 ?_;exact za1
 |true=>
  have hn:jag ⟨c,r,w⟩=(r+w+1,0):=by simp[jag,hm]
  simp only[hn] at hneed
  by_cases h1:c=(y.cls:Nat)
  ·by_cases h2:r+w+1≤(y.size:Nat)
   ·have e:Js y ⟨c,r,w⟩=true:=by unfold Js;rw [hm,Bool.true_and,decide_eq_true h1,decide_eq_true h2];rfl
    rw[e];refine zdc ?_;refine yr2 ?_;refine ze ?_;intro b7;refine yq6 fun T hT=>?_;refine zbl ?_;rintro _ _ ⟨rfl,rfl⟩;refine za ?_;clear hT T;simp only[jB,jN,jV,JN];refine yq14 fun T hT=>?_;refine zdd ?_;refine zc ?_;clear hT T;simp only[jB,jN,jV,JN];refine yr33 ?_;exact za1
   ·have e:Js y ⟨c,r,w⟩=false:=by simp[Js,hm,h2]
    rw[e];refine zdc ?_;refine yr2 ?_;refine ze ?_;intro b7;refine yq6 fun T hT=>?_;refine zbl ?_;rintro _ _ ⟨rfl,rfl⟩;refine za ?_;clear hT T;simp only[jB,jN,jV,JN];refine yq14 fun T hT=>?_;refine zdd ?_;refine zc ?_;clear hT T;simp only[jB,jN,jV,JN];refine yr33 ?_;exact za1
  ·have e:Js y ⟨c,r,w⟩=false:=by simp[Js,hm,h1]
   rw[e];refine zdc ?_;refine yr2 ?_;refine ze ?_;intro b7;refine yq6 fun T hT=>?_;refine zbl ?_;rintro _ _ ⟨rfl,rfl⟩;refine za ?_;clear hT T;simp only[jB,jN,jV,JN];refine yq14 fun T hT=>?_;refine zdd ?_;refine zc ?_;clear hT T;simp only[jB,jN,jV,JN];refine yr30 ?_;exact za1
theorem jdN (hG:jw w0) (ok:jaq B x) (hy:B.p.g.L[s]?=some y):
  Call Tryz.prog w0 112 [.pointer (some ⟨B.b,0,none⟩), .int .i64 (s:Nat)] (jX B++(jx B.m++(planH B.p++F))) (fun r H'=>r=headV (headP x y)∧H'=jX B++(jx B.m++(planH B.p++F))):=by
 have okp:=ok.p
 have okm:=ok.m
 have hr:=ok.r
 obtain⟨f1,f2,_⟩:=ok.p.g.fits hy
 have hal:y.addr<x.length:=by rw[ok.n];omega
 have hwx:=jfQ hal
 obtain⟨w1,w2⟩:=ok.w.at_ y.addr
 obtain⟨w,hw⟩: ∃ w:Nat,wAt x y.addr=w:=⟨(wAt x y.addr).toNat,by omega⟩
 have hhead:headP x y=match getH w with|some h=>if Js y h then some h else none|none=>none:=by unfold headP;rw [hw];rfl
 rw[hw] at hwx w2
 have hwl:w<18446744073709551616:=by omega
 refine Call.enter2 (n:=53) (by kernel_rfl) Tryz.func112 rfl rfl rfl ?_;refine yr2 ?_;refine zf ?_;intro b4;refine yq7 fun T hT=>?_;refine zbJ ?_;refine zc ?_;clear hT T;rw[JN];refine yr20 ?_;refine K.drawn [] [(0,0),(1,0),(2,0),(3,0),(4,0),(5,0),(6,0),(7,0),(8,0),(9,2),(10,0),(11,0),(12,0),(13,0),(14,0)] (by kernel_rfl) (by kernel_rfl) (by kernel_rfl) (by kernel_rfl) (by kernel_rfl) (by kernel_rfl) Part.nil ?_;refine zau ?_;refine zaX ?_;refine zV fun T hT=>?_;refine(CallV.part (CallV.fn (Load_K okm hr hwx)) ja).mono ?_;refine zl ?_;clear hT T;refine zc5 ?_;refine zct ?_;refine zab ?_;refine yq4 fun T hT=>?_;refine(CallV.fn (hGet_K hG hwl)).mono ?_;rintro _ _ ⟨rfl,rfl⟩;unfold ja5
 cases hg:getH w with
 |none=>
  rw[hg] at hhead;dsimp only at hhead⊢;refine za ?_;clear hT T;rw[hhead];unfold hdV headV;refine yr3 ?_;refine zf ?_;intro b11;refine yr29 ?_;exact za1
 |some h=>
  rw[hg] at hhead;dsimp only at hhead⊢
  have hlies:=fun A=>lies_K (w0:=w0) (F:=A) (h:=h) ok hy
  obtain⟨c,r,w⟩:=h
  unfold hdV at*;dsimp only at*;refine za ?_;clear hT T;refine yr3 ?_;refine zf ?_;intro b11;refine yq19 fun T hT=>?_;refine(CallV.part (CallV.fn (hlies _)) (by first|exact ja|(simp only[jB,jN,jV,JN];exact ja))).mono ?_;refine zq ?_
  cases hl:Js y ⟨c,r,w⟩ with
  |true=>
   rw[hl] at hhead;simp only[if_true] at hhead;refine za ?_;clear hT T;rw[hhead];unfold headV hdV;refine yr16 ?_;exact za1
  |false=>
   rw[hl] at hhead;simp only[Bool.false_eq_true,if_false] at hhead;refine za ?_;clear hT T;rw[hhead];unfold headV hdV;refine yr15 ?_;exact za1
end
open Go.RowKit
set_option maxRecDepth 10000
theorem jf8 {g:PlG} (ok:je g):g.L.length≤16384:=by rw[jah];exact ok.slots.2
def arL (v:PlV) (g:PlG) (va:Value):List Value:=[v.L,v.F,v.M, .int .i64 (g.words:Nat),v.C,va]
theorem cls_iff {g:PlG} {i k:Nat} {x:ju} (h:g.L[i]?=some x) (hk:k<g.m):x.cls=k↔g.first k≤i∧i<g.first k+g.n k:=by
 obtain⟨k',d,hk',hd,rfl,rfl⟩:=L_at h
 show k'=k↔_
 constructor
 ·rintro rfl
  show g.first k'≤g.first k'+d∧g.first k'+d<_
  omega
 ·rintro⟨h1,h2⟩;exact(cum_uniq (n:=g.n) (k:=k') (d:=d) (k':=k) (d':=g.first k'+d-g.first k) hd (by omega) (by show g.first k'+d=g.first k+_;omega)).1
structure TkS where
 i:Nat
section
variable {w0 : World} {D F : jb} {v : PlV} {va : Value} {g : PlG} {A : List Bool}
theorem jc3 {n:Int} (hP:J3 w0 D v g) (ok:je g):
  Call Tryz.prog w0 20 [.agg (plL v g).toArray, .int .i64 n] (D++F) (fun r H'=>r= .bool (decide (0≤n∧n<(g.slots:Nat)))∧H'=D++F):=by
 have hL:=hP.L
 have q1:=hP.oL
 have q2:=hP.oF
 have q3:=hP.oM
 have q4:=hP.oC
 have hlen:=jah (g:=g)
 unfold plL
 by_cases h0:n≥0
 ·by_cases h1:n<((g.L.length:Nat):Int)
  ·rw[decide_eq_true (show 0≤n∧n<(g.slots:Nat) by omega)];refine zei ?_;refine yr2 ?_;refine ze ?_;intro b2;refine yr23 ?_;exact zd
  ·rw[decide_eq_false (show ¬(0≤n∧n<(g.slots:Nat)) by omega)];refine zei ?_;refine yr2 ?_;refine ze ?_;intro b2;refine yr23 ?_;exact zd
 ·rw[decide_eq_false (show ¬(0≤n∧n<(g.slots:Nat)) by omega)];refine zei ?_;refine yr2 ?_;refine ze ?_;intro b2;refine yr18 ?_;exact zd
theorem raNew_K (hP:J3 w0 D v g) (ok:je g):
  Call Tryz.prog w0 102 [.agg (plL v g).toArray] (D++F) (fun r H'=> ∃ (va:Value) (N:jb),ArD w0 (N++D) v va g (List.replicate g.slots false)∧r= .agg (arL v g va).toArray∧H'=N++(D++F)):=by
 have hL:=hP.L
 have q1:=hP.oL
 have q2:=hP.oF
 have q3:=hP.oM
 have q4:=hP.oC
 have hlen:=jah (g:=g)
 have hbl:=jf8 ok
 unfold plL;rw[←hlen];refine Call.enter1 (n:=9) (by kernel_rfl) Tryz.func102 rfl rfl rfl ?_;refine yr2 ?_;refine zj ?_;intro b1 b2;refine yr3 ?_;refine K.drawn _ [(0,1),(1,0),(2,0),(3,0),(4,2),(5,0),(6,2)] (by kernel_rfl) (by kernel_rfl) (by kernel_rfl) (by kernel_rfl) (by kernel_rfl) (by kernel_rfl) (Part.drop Part.all) ?_;refine zaO ?_;refine zQ ?_;refine KD.v0 rfl rfl (Val.lenSl rfl rfl Jm) ?_;refine KD.e rfl rfl (Eff.makeR (E:=boE) (x0:=false) rfl rfl rfl rfl rfl rfl (by first|assumption|omega|(simp<;>fail)|(simp;omega))) ?_;rintro _ _ ⟨o7,ok7,rfl,rfl⟩;refine⟨ja,?_⟩;refine zay ?_;refine zM ?_;refine zY ?_;refine yr2 ?_;refine KE.fin (H':=oH boE 4 (List.replicate g.L.length false) o7++(D++F)) jd rfl jc ja ⟨oV o7 (List.replicate g.L.length false).length,_,⟨hP.part ja,Sli.own jh ok7 rfl,jK _ _⟩,rfl,rfl⟩
theorem rTake_K {k:Int} (hA:ArD w0 D v va g A) (ok:je g) (hl:A.length=g.slots):
  Call Tryz.prog w0 233 [.agg (arL v g va).toArray, .int .i64 k] (D++F) (fun r H'=> ∃ (va':Value) (N:jb),ArD w0 (N++D) v va' g (takeP g A k).2.2∧r= .tuple [.agg (arL v g va').toArray, .int .i64 (takeP g A k).1, .int .i64 (takeP g A k).2.1].toArray∧H'=N++(D++F)):=by
 have hL:=hA.p.L
 have hC:=hA.p.C
 have haA:=hA.a
 have q1:=hA.p.oL
 have q2:=hA.p.oF
 have q3:=hA.p.oM
 have q4:=hA.p.oC
 have q5:=hA.o
 have hlen:=jah (g:=g)
 have hbl:=jf8 ok
 have hcl:g.clI.length=g.m:=by simp[PlG.clI,PlG.m]
 have hm:=ok.m
 unfold arL
 by_cases hk:0≤k∧k<(g.m:Nat)
 ·obtain⟨k,rfl⟩: ∃ q:Nat,k=q:=⟨k.toNat,by omega⟩
  have hkm:k<g.m:=by omega
  have hge: ¬((k:Nat):Int)≥((g.clI.length:Nat):Int):=by omega
  have htk:takeP g A (k:Nat)=match jay A (g.first k) (g.n k) with|some i=>(((i:Nat):Int),0,A.set i true)|none=>(0,6,A):=by
   unfold takeP;rw [if_pos hk];rfl
  have hfk:g.first k+g.n k≤g.slots:=ja7 hkm
  refine zej ?_;refine yr2 ?_;refine zj ?_;intro b2 b4;refine yr35 ?_;refine K.loopT (σ:=TkS) [(1,_),(2,_),(4,_)] (fun s kp_=>(7, .int .i64 (s.i:Nat))::kp_) (fun s=>(b2,cells [v.L,v.F,v.M, .int .i64 (g.words:Nat),v.C,va] 35)::(b4,cells [.slice none 0 0, .slice none 0 0, .slice none 0 0, .int .i64 0, .slice none 0 0, .slice none 0 0] 35)::(D++F)) (fun s=>s.i≤A.length∧ ∀ j:Nat,j<s.i→g.first k≤j→j<g.first k+g.n k→A[j]?≠some false) (fun s=>A.length-s.i) (⟨0⟩) jg ja (⟨Nat.zero_le _,fun j h=>by simp at h⟩) ?_;rintro⟨i⟩ ⟨hi,hno⟩;dsimp only at hi hno⊢
  by_cases hlt:i<A.length
  ·obtain⟨x,hx⟩:=Jg (g:=g) (i:=i) (by omega)
   obtain⟨b,hb⟩:=jn hlt
   have hci:=cls_iff hx hkm
   by_cases hc:x.cls=k
   ·have hcc:((x.cls:Nat):Int)=((k:Nat):Int):=by rw[hc]
    cases b with
    |false=>
     have hf:jay A (g.first k) (g.n k)=some i:=free_is (hci.1 hc).1 (hci.1 hc).2 hb fun j h1 h2=>hno j h2 h1 (by have:=(hci.1 hc).2;omega)
     rw[hf] at htk;dsimp only at htk;rw[htk];refine yr45 ?_;refine zt ?_;intro b44;refine yr2 ?_;refine KL.e rfl (Eff.appLit (E:=boE) (ys:=A) rfl rfl rfl rfl rfl rfl rfl jq (by first|exact Sli.blk jq rfl (by first|decide|simp) (by first|decide|(unfold maxLen;omega)) rfl|exact Sli.old (by assumption)|exact Sli.own jh (by assumption) jG|assumption|exact Sli.part (by assumption) ja) (by first|assumption|omega|(simp<;>fail)|(simp;omega)) rfl) ?_;rintro _ _ ⟨o',ok',rfl,rfl⟩;refine yr29 ?_;refine KE.fin (H':=oH boE 4 (A.set i true) o'++(D++F)) jd rfl jc ja ⟨oV o' A.length,_,⟨hA.p.part ja,Sli.own jh (ok'.set i true) (by simp),jK _ _⟩,rfl,rfl⟩
    |true=>
     refine yr51 ?_
     exact KE.again ⟨i+1⟩ jg ja ⟨hlt,fun j h1 h2 h3 h4=>by
      by_cases hji:j=i
      ·rw[hji,hb] at h4;cases h4
      ·exact hno j (by dsimp only at h1;omega) h2 h3 h4⟩ (by show A.length-(i+1)<A.length-i;omega)
   ·have hcc: ¬((x.cls:Nat):Int)=((k:Nat):Int):=by omega
    refine yr45 ?_
    exact KE.again ⟨i+1⟩ jg ja ⟨hlt,fun j h1 h2 h3 h4=>by
     by_cases hji:j=i
     ·exact hc (hci.2 (by omega))
     ·exact hno j (by dsimp only at h1;omega) h2 h3 h4⟩ (by show A.length-(i+1)<A.length-i;omega)
  ·have hf:jay A (g.first k) (g.n k)=none:=jf9 fun j h1 h2=>hno j (by omega) h1 h2
   rw[hf] at htk;dsimp only at htk;rw[htk];refine yr25 ?_;exact zek
 ·have htk:takeP g A k=(0,2,A):=by unfold takeP;rw [if_neg hk]
  rw[htk]
  by_cases h0:k<0
  ·refine zej ?_;refine yr2 ?_;refine zj ?_;intro b2 b4;refine yr30 ?_;exact zek
  ·have hge:k≥((g.clI.length:Nat):Int):=by omega
   refine zej ?_;refine yr2 ?_;refine zj ?_;intro b2 b4;refine yr36 ?_;exact zek
end
end Go.Proofs.YtldomapkmopomaaGreatDoor.Sw
