/-What the law needs of its own,part 2. -/
import Derived.Test.YtpcgafhgfjlkmaaGreatDoorD1
import Derived.WalkKit
import Derived.ProofKit
import Derived.RangeFuncNested
import Derived.RangeFuncBound
import Derived.RangeFuncCalls
import Derived.RangeFuncLeaves
import Derived.Lib.Hide
import Derived.Sort.BigQuietIn
import Derived.Deep.Quiet
import Derived.StillTailTactics
import Derived.Deep.LoopGhost
import Derived.Laws.Cells
import Derived.OrdersIn
import Derived.Deep.OwnRows
import Derived.Laws.CopyOwn
import Derived.IntWalk
import Derived.ArgAppend
import Derived.Deep.Slices
import Derived.Deep.Fields
import Derived.Laws.IdiomStrings
import Derived.Laws.StructEq
import Derived.Maps.RangeRun
import Derived.Laws.Externs
import Derived.Laws.FloatArith
import Derived.Laws.NewFold
import Derived.RecoverIn
import Derived.Shelf.Strconv.Itoa0
import Derived.Shelf.Bits.Mul64
import Derived.Shelf.Slices.Turned
import Derived.Test.YtpcgafhgfjlkmaaGreatDoorProg
import Derived.SizedLaws
import Derived.Lib.SmallJoins
import Derived.ChangeMaps5
import Derived.Lib.TrailingZeros
import Derived.Lib.BitFns
import Derived.Shelf.Spec.TrailingZeros
import Derived.Test.YtpcgafhgfjlkmaaGreatDoorRows
import Derived.OpenShut
import Derived.LaidMore
import Derived.Lay
import Derived.LaidHandle
import Derived.Test.YtpcgafhgfjlkmaaGreatDoorWHpU9x1
set_option linter.unusedVariables false set_option linter.unusedSimpArgs false namespace Go.Proofs.YtpcgafhgfjlkmaaGreatDoor.Sw
set_option maxHeartbeats 8000000
open Go.Proofs.YtpcgafhgfjlkmaaGreatDoor renaming lo → qL, hi → qH
open Go.RowKit
set_option linter.unusedVariables false
set_option linter.unusedSimpArgs false
set_option maxRecDepth 100000
structure NmS where
 k:Nat
 N:List Bool
 o:Own
section
variable {w0 : World} {F : jb} {c : Cfg} {vc vt v : Value} {l : List jU} {tn : Nat}
set_option maxHeartbeats 8000000 in
theorem heapPlaces_K (hG:js w0) (hR:Jo w0 F c vc vt) (hC0: ∀ A,Sli w0 A iE vc c.cl) (hvc:vc.oneCell'=true) (hl:Sli w0 F haE v l) (hlo: ∀ x∈l,J7 x) (htn:tn<256):Call Tryz.prog w0 5 [jw c vc vt, .int .u8 (tn:Nat),v] F (fun r H'=>r= .bool true∧H'=F):=by
 have haw:=fun A=>jgd (w0:=w0) (F:=A) hG
 have e8:((tn:Nat):Int)%8=((tn%8:Nat):Int):=by omega
 have hmn:=fun A (hp:Part A F) (hno:okS c (tn%8)=false)=>jf1 (t:=tn%8) (hR.part hp) hno
 have hmd:=fun A (hp:Part A F) (hok:okS c (tn%8)=true)=>je8 (t:=tn%8) hG (hR.part hp) hok
 have hpl:=fun A (hp:Part A F) (ht:j9 c ((tn%8:Nat):Int) 0=true)=>rpNew_K (hR.part hp) ht hvc
 have hfa:okS c (tn%8)=true→ ∃ (x:Tn),c.tn[tn%8]?=some x∧j9 c ((tn%8:Nat):Int) 0=true∧x.quota=((gOf c ((tn%8:Nat):Int)).q:Nat)∧Jq c.cl=true∧c.cl.length≤8∧(gOf c ((tn%8:Nat):Int)).cl.length=c.cl.length∧ ∀ n,classI (gOf c ((tn%8:Nat):Int)) n=firstP n c.cl:=fun h=>by
  obtain⟨hc,_,x,hx,_⟩:=okS_cfg h
  have hcfg:=ja2 hc
  have hcp:Jq c.cl=true:=by have h2:=hc;simp only[jX,Bool.and_eq_true] at h2;exact h2.1
  exact⟨x,hx,jb4 (i:=tn%8) (j:=0) hc (jx hx) (by have:=hcfg.cl;omega),gOf_q hc hx,hcp,by have:=hcfg.cl;omega,List.length_map ..,fun n=>jjK c.cl (jkJ hcp)⟩
 obtain⟨hS,hT',o1,o2,l1,l2⟩:=hR
 obtain⟨ok,hok⟩: ∃ ok,okS c (tn%8)=ok:=⟨_,rfl⟩
 simp only[hok] at hmn hmd hfa
 cases ok with
 |false=>
  obtain⟨cl,page,tns,workers,grey,gens⟩:=c
  dsimp only at hS hT' l1 l2;simp only[jw,jT] at hmn hmd⊢;refine Call.enter3 (n:=221) (by kernel_rfl) Tryz.func5 rfl rfl rfl ?_;refine zgK ?_;intro b3;refine zaY ?_;refine zdC ?_
  (first|(refine KL.v rfl (Val.remN rfl rfl (by omega)) ?_)|(refine KL.v rfl (Val.rem rfl rfl (by omega)) ?_))
  rw[e8]
  (first|(refine KL.v rfl (Val.conv rfl rfl rfl (by simp only[qL,qH];omega)) ?_)|(refine KL.v rfl (Val.convW rfl rfl rfl) ?_))
  refine zu ?_;refine zb3 ?_;refine jq (hmn _ ja trivial) ?_;refine zfG ?_;refine zf1 ?_;refine zdb ?_;exact zaT
 |true=>
  obtain⟨x,hx,hth,hxq,hclp,hcl8,hgcl,hcI⟩:=hfa rfl
  have hplx:=fun A (hp:Part A F)=>hpl A hp hth
  obtain⟨gg,hgg⟩: ∃ gg,gOf c ((tn%8:Nat):Int)=gg:=⟨_,rfl⟩
  rw[hgg] at hplx hxq hgcl;simp only[hgg] at hcI
  have hgD: ∀ D y,HMade c (tn%8) D y→D.C.g=gg:=fun D y hM=>by
   obtain⟨x1,g1,g2⟩:=hM.eC
   rw[g2];exact hgg
  clear hfa hgg hok hpl
  obtain⟨cl,page,tns,workers,grey,gens⟩:=c
  obtain⟨x1,x2,x3,x4⟩:=x
  dsimp only at hS hT' l1 l2 hx hC0 hxq hgD hplx hclp hcl8 hgcl hcI;simp only[jw,jT] at hmn hmd hplx⊢
  have hx':tns[((tn%8:Nat):Int).toNat]?=some ⟨x1,x2,x3,x4⟩:=hx
  have h0l:=jx hx
  refine Call.enter3 (n:=221) (by kernel_rfl) Tryz.func5 rfl rfl rfl ?_;refine zgK ?_;intro b3;refine zaY ?_;refine zdC ?_
  (first|(refine KL.v rfl (Val.remN rfl rfl (by omega)) ?_)|(refine KL.v rfl (Val.rem rfl rfl (by omega)) ?_))
  rw[e8]
  (first|(refine KL.v rfl (Val.conv rfl rfl rfl (by simp only[qL,qH];omega)) ?_)|(refine KL.v rfl (Val.convW rfl rfl rfl) ?_))
  refine zu ?_;refine z3 ?_;refine zx fun T hT=>?_;refine(CallV.fn (hmd _ ja trivial)).mono ?_;rintro _ _ ⟨D,y0,hM,rfl,rfl⟩
  have hD:=hM.ok
  have hC:=hD.C
  have hR0:=hM.R
  have hg1:=hgD D y0 hM
  subst hg1;unfold plL at hplx;refine zd ?_;clear hT T;refine zfG ?_;refine zz ?_;refine z3 ?_;refine zx fun T hT=>?_;refine(CallV.fn (hplx _ ja)).mono ?_;rintro _ _ ⟨pv,N,hPD,rfl,rfl⟩
  have hPD9:=fun A=>hPD A (hC0 A)
  have q1:=(hPD9 []).oL
  have q2:=(hPD9 []).oF
  have q3:=(hPD9 []).oM
  have q4:=(hPD9 []).oC
  have hLs:=(hPD ((b3,cells [vc, .int .i64 page,vt, .int .i64 workers, .int .i64 grey, .int .i64 gens] 25)::F) (hC0 _)).L
  have hgs:=hC.g.slots
  have hgq:=hC.g.q
  have hLl:D.C.g.L.length=D.C.g.slots:=jbX
  refine zd ?_;clear hT T;refine zaX ?_;intro b10;refine zu ?_;refine zaW ?_;refine K.cutT (σ:=HzS) [(10,_)] jj (fun s kp_=>(8, .pointer (some ⟨D.b,0,none⟩))::kp_) (fun s=>hpH D s.y (s.h)++(oH uE 33 s.T s.oT++((b10,cells [pv.L,pv.F,pv.M, .int .i64 (D.C.g.words:Nat),pv.C] 53)::(N++((b3,cells [vc, .int .i64 page,vt, .int .i64 workers, .int .i64 grey, .int .i64 gens] 25)::F))))) (fun s=>HpR D s.f 400000000 s.y s.h∧StI D.C s.h s.T []∧UsI D.C s.h) ?_ ?_
  ·refine zgR ?_;refine zcO ?_;refine K.loopT (σ:=HzS) [(2,_),(3,_),(7,_),(8,_),(10,_)] (fun s kp_=>(13, .int .i64 (s.i:Nat))::(12,oV s.oT s.T.length)::kp_) (fun s=>hpH D s.y (s.h)++(oH uE 33 s.T s.oT++((b10,cells [pv.L,pv.F,pv.M, .int .i64 (D.C.g.words:Nat),pv.C] 53)::(N++((b3,cells [vc, .int .i64 page,vt, .int .i64 workers, .int .i64 grey, .int .i64 gens] 25)::F))))) (fun s=>s.i≤l.length∧s.i≤80∧HpR D s.f 400000000 s.y s.h∧s.f≤1+s.i*2∧StI D.C s.h s.T []∧UsI D.C s.h∧s.T.length≤s.i∧oOk uE s.T s.oT) (fun s=>l.length-s.i) (⟨0,1,y0,newH D.C,[],none⟩) jj ja (⟨Nat.zero_le _,Nat.zero_le _,hR0.mono (Nat.le_refl _) (by decide),(by show 1≤1+0*2;decide),StI.new0 hC,UsI.new,Nat.le_refl _,rfl⟩) ?_;rintro⟨i,f,y,h,tl,otl⟩ ⟨hi,hi8,hR1,hf,hSt,hUs,hTl,kT⟩;dsimp only at hi hi8 hR1 hf hSt hUs hTl kT⊢
   by_cases hc1:i<l.length
   ·have hc1':((i:Nat):Int)<((l.length:Nat):Int):=by omega
    by_cases hc2:i<80
    ·have hc2':((i:Nat):Int)<80:=by omega
     obtain⟨x,hx⟩:=jA hc1
     have hxo:=hlo x (List.mem_of_getElem? hx)
     have hop:=fun A v (hS:Sli w0 A uE v tl)=>op_K (w0:=w0) (F:=A) hxo hS hSt.u
     have hzo:=jc3 hxo hSt.u
     obtain⟨z,hz⟩: ∃ z,opA x tl=z:=⟨_,rfl⟩
     rw[hz] at hop hzo
     have hdo:=fun A=>jcf (w0:=w0) (F:=A) hG hD hSt.I hR1 (by omega) hzo
     have hS2:=hSt.do_ hC hzo
     have hU2:=hUs.mvs hC hSt.I (jdN (wr:=true) hC hSt.I hzo.v fun _=>rfl)
     have hold:=fun h0=>hSt.old (op:=z) hC hzo h0
     have hus:=jga (C:=D.C) (h:=h) (op:=z)
     have hpl:=fun h0=>jkH (op:=z) hC hSt.I h0
     obtain⟨⟨e,hh,w,addr,us,si,cy,ac⟩,h9,hv⟩: ∃ (q:SnP) (h9:HpP),hpDo D.C h z=(q,h9):=⟨_,_,rfl⟩
     rw[hv] at hS2 hU2 hus;simp only[hv] at hdo hold hpl
     obtain⟨zc,zh,za,zb,zv⟩:=z
     unfold opV snV HpQ at hdo;unfold opV at hop;dsimp only at hS2 hU2 hus hold hpl hdo hop
     have hus0: ¬us<0:=by omega
     have husq: ¬us>x1:=by unfold UsI at hU2;omega
     clear hv hz hus
     obtain⟨xo,xH,xV,wk,xk,xu⟩:=x
     have hxu:xu<256:=hxo.u
     cases wk with
     |true=>
      have hst2:=hSt.stp hC (k:=xk) (u:=((xu:Nat):Int))
      have hus2:=hUs.mvs hC hSt.I (jfW (wr:=true) (k:=xk) (u:=((xu:Nat):Int)))
      have hstp:=fun A=>jdq (w0:=w0) (F:=A) (k:=xk) (u:=((xu:Nat):Int)) hG hD hR1 (by omega)
      unfold HpQ at hstp;refine zfn ?_;refine zhi ?_;refine zim ?_;refine zbf ?_;refine zcC ?_;refine zin ?_;refine zaF ?_;refine zhu ?_;refine zio ?_;refine zaF ?_;refine zl fun T hT=>?_;refine(CallV.part (CallV.fn (hstp _)) ja).mono ?_;rintro _ _ ⟨rfl,y1,h2,rfl⟩;refine zg ?_;clear hT T;refine zD ?_;refine zbG ?_;refine zk4 ?_;refine ziL ?_;refine zek ?_;refine zdY ?_;exact KE.again ⟨i+1,f,y1,_,tl,otl⟩ jj ja ⟨hc1,hc2,h2,(by show f≤1+(i+1)*2;omega),hst2,hus2,(by show tl.length≤i+1;omega),kT⟩ (by show l.length-(i+1)<l.length-i;omega)
     |false=>
      refine zfn ?_;refine zaG ?_;refine zcP ?_;refine zgU ?_;refine zaH ?_;intro b14;refine ze ?_;refine zbx ?_;refine zm9 ?_;rintro _ _ ⟨rfl,y1,h2,rfl⟩;refine zfd ?_;intro b15;refine zaY ?_;refine K.cutT (σ:=HzS) [(2,_),(3,_),(7,_),(8,_),(10,_),(13,_),(14,_),(15,_)] jj (fun s kp_=>(12,oV s.oT s.T.length)::kp_) (fun s=>hpH D y1 (h9)++(oH uE 33 s.T s.oT++((b14,cells [.int .u8 (zc:Nat), .int .u64 (zh:Nat), .int .i64 za, .int .i64 zb, .int .u64 (zv:Nat)] 35)::(b15,cells [.int .i64 e, .int .u64 (hh:Nat), .int .u64 w, .int .i64 addr, .int .i64 us, .int .i64 si, .int .i64 cy, .bool ac] 42)::(b10,cells [pv.L,pv.F,pv.M, .int .i64 (D.C.g.words:Nat),pv.C] 53)::(N++((b3,cells [vc, .int .i64 page,vt, .int .i64 workers, .int .i64 grey, .int .i64 gens] 25)::F))))) (fun s=>StI D.C h9 s.T []∧s.T.length≤i+1∧oOk uE s.T s.oT) ?_ ?_
      ·by_cases hh0:hh=0
       ·have hh0':((hh:Nat):Int)=0:=by omega
        refine zy ?_;refine zF ?_;refine zaE ?_;refine zbq ?_;exact KE.meet ⟨0,f,y1,h9,tl,otl⟩ jj ja ⟨hS2,(by show tl.length≤i+1;omega),kT⟩
       ·have hh0': ¬((hh:Nat):Int)=0:=by omega
        have hbd:(tl++ [((hh:Nat):Int)]).length≤4294967296:=by simp;omega
        refine zy ?_;refine zF ?_;refine zd5 ?_;refine ze ?_;refine zF ?_;refine zaj ?_;intro b87;refine KL.e rfl (Eff.appZ (ys:=[_]) rfl rfl rfl rfl rfl rfl jn (by assumption) (by first|exact Sli.blk jF rfl (by first|decide|simp) (by first|decide|(unfold maxLen;omega)) rfl|exact Sli.old (by assumption)|exact Sli.own jn (by assumption) j6|assumption|exact Sli.part (by assumption) ja) rfl (by first|assumption|omega|(simp<;>fail)|(simp;omega)) rfl) ?_;rintro _ _ ⟨o88,ok88,rfl,rfl⟩;refine zbY ?_;exact KE.meet ⟨0,f,y1,h9,tl++ [((hh:Nat):Int)],o88⟩ jj ja ⟨hold hh0,(by show(tl++ [((hh:Nat):Int)]).length≤i+1;simp;omega),ok88⟩
      ·rintro⟨_,_,_,_,tl2,otl2⟩ ⟨hS3,hTl2,kT2⟩;dsimp only at hS3 hTl2 kT2⊢
       by_cases he:e=0
       ·obtain⟨j,yy,hyL,rfl,hA,hcls⟩:=hpl he
        have hjl:=jx hyL
        have hHas:=fun A=>jii (w0:=w0) (F:=A) (t:=j) h2
        simp only[hA,Option.getD_some] at hHas
        have hCyc:=fun A=>jbC (w0:=w0) (F:=A) (D:=D) (y:=y1) (h:=h9)
        have hAr:=fun A=>jeF (w0:=w0) (F:=A) h2
        have hAt:=fun A (hp:jdd w0 A pv D.C.g)=>rAt_K (w0:=w0) (F:=A) hp hC.g hyL
        unfold plL at hAt;refine zdR ?_;refine zhq ?_;refine zc0 ?_;refine ziC ?_;refine zcC ?_;refine zkq ?_;refine zaF ?_;refine KD.v0 rfl rfl (Val.isF (Val.gtr rfl rfl) jL) ?_;refine zj ?_;refine KD.y0 rfl rfl rfl rfl (Val.fieldAddr0 (k:=4) rfl rfl) ?_;refine zao ?_;refine KD.y0 rfl rfl rfl rfl (Val.isF (Val.lss rfl rfl) jL) ?_;refine zaB ?_;refine KE.next (K.condF rfl (K.skip (KE.next (K.seq (K.seq (K.region ?_))))));refine zB ?_;refine zaE ?_;refine zz ?_;refine z3 ?_;refine zeO ?_;refine zn ?_;refine jq (hAt _ ((hPD ((b3,cells [vc, .int .i64 page,vt, .int .i64 workers, .int .i64 grey, .int .i64 gens] 25)::F) (hC0 _)).part ja)) ?_;refine zbA ?_;refine zeT ?_;refine ji (hCyc _) ja ?_;refine zdk ?_;refine ji (hAr _) ja ?_;refine zgf ?_;refine ji (hHas _) ja ?_
        by_cases h1c:zc=1
        ·have h1c':((zc:Nat):Int)=1:=by omega
         obtain⟨k1,k2,k3,_⟩:=hcls h1c
         have hmay:=jbm k2
         dsimp only at hmay;rw[hcI] at k1 k3
         have hfl:=firstP_le (n:=za+zb+1) (l:=cl)
         have hkl:firstP (za+zb+1) cl<cl.length:=by omega
         have hnd:=fun A=>rNeed_K (w0:=w0) (H:=A) (h:=⟨0,za,zb⟩)
         have hne:jaV ⟨0,za,zb⟩=(za+zb+1,0):=by unfold jaV;rw [if_pos k2]
         simp only[hne] at hnd;unfold hdV at hnd
         have hof:=fun A=>rOf_K (w0:=w0) (F:=A) (n:=za+zb+1) (hC0 A) (by omega) hclp (by omega) rfl hkl
         rw[←k1] at hof;refine zd4 ?_;refine zz ?_;refine zB ?_;refine zJ ?_;refine zac ?_;refine zI ?_;refine zeO ?_;refine zM ?_;refine zn ?_;refine jq (hnd _) ?_;refine zQ ?_;refine zB ?_;refine zo ?_;refine jq (hof _) ?_;refine zcZ ?_;refine zaE ?_;refine zbg ?_;refine zL ?_;refine zbr ?_;refine zfq ?_;refine zfm ?_;refine zeC ?_;refine zed ?_;refine zeD ?_;exact KE.again ⟨i+1,f+2,y1,h9,tl2,otl2⟩ jj ja ⟨hc1,hc2,h2,(by show f+2≤1+(i+1)*2;omega),hS3,hU2,hTl2,kT2⟩ (by show l.length-(i+1)<l.length-i;omega)
        ·have h1c': ¬((zc:Nat):Int)=1:=by omega
         refine zd4 ?_;refine zz ?_;refine zB ?_;refine zG ?_;refine zeD ?_;exact KE.again ⟨i+1,f+2,y1,h9,tl2,otl2⟩ jj ja ⟨hc1,hc2,h2,(by show f+2≤1+(i+1)*2;omega),hS3,hU2,hTl2,kT2⟩ (by show l.length-(i+1)<l.length-i;omega)
       ·refine K.seq ?_;refine K.seq ?_;refine zhq ?_;refine zc0 ?_;refine ziC ?_;refine zcC ?_;refine zkq ?_;refine zaF ?_;refine KD.v0 rfl rfl (Val.isF (Val.gtr rfl rfl) jL) ?_;refine zj ?_;refine KD.y0 rfl rfl rfl rfl (Val.fieldAddr0 (k:=4) rfl rfl) ?_;refine zao ?_;refine KD.y0 rfl rfl rfl rfl (Val.isF (Val.lss rfl rfl) jL) ?_;refine zaB ?_;refine KE.next (K.condF rfl (K.skip (KE.next (K.seq (K.seq (K.region ?_))))));refine zB ?_;refine zag ?_;refine zcI ?_;refine zk4 ?_;refine ziL ?_;refine zek ?_;refine zdY ?_;exact KE.again ⟨i+1,f+2,y1,h9,tl2,otl2⟩ jj ja ⟨hc1,hc2,h2,(by show f+2≤1+(i+1)*2;omega),hS3,hU2,hTl2,kT2⟩ (by show l.length-(i+1)<l.length-i;omega)
    ·have hc2': ¬((i:Nat):Int)<80:=by omega
     refine zla ?_;refine zT ?_;refine zw ?_;refine zcf ?_;exact KE.meet ⟨0,f,y,h,tl,otl⟩ jj ja ⟨hR1,hSt,hUs⟩
   ·have hc1': ¬((i:Nat):Int)<((l.length:Nat):Int):=by omega
    refine za4 ?_;refine zdi ?_;refine zaO ?_;refine zcf ?_;exact KE.meet ⟨0,f,y,h,tl,otl⟩ jj ja ⟨hR1,hSt,hUs⟩
  ·rintro⟨_,f,y,h,tl,otl⟩ ⟨hR1,hSt,hUs⟩;dsimp only at hR1 hSt hUs⊢
   have hCyc:=fun A=>jbC (w0:=w0) (F:=A) (D:=D) (y:=y) (h:=h)
   have hAr:=fun A=>jeF (w0:=w0) (F:=A) hR1
   have hTb:=fun A=>jd0 (w0:=w0) (F:=A) hR1
   have hLn:=fun A=>hyLen_K (w0:=w0) (F:=A) hR1
   have hSl:=fun A (i:Nat)=>hySlot_K (w0:=w0) (F:=A) (i:=i) hR1
   have hHs:=fun A (t:Nat)=>jii (w0:=w0) (F:=A) (t:=t) hR1
   have hUd:=fun A=>jhG (w0:=w0) (F:=A) hR1
   have hT1024:=hR1.p.T1024
   obtain⟨u,hu⟩: ∃ u,usedL D.C.g.L h.s.A=u:=⟨_,rfl⟩
   have hub:u≤4096:=by unfold UsI at hUs;omega
   simp only[hu] at hUd
   have h0u:((usedL D.C.g.L (List.replicate D.C.g.L.length false):Nat):Int)=0:=by rw[jfD];rfl
   refine zy ?_;refine zB ?_;refine zad ?_;refine KL.e rfl (Eff.makeR (E:=boE) (x0:=false) rfl rfl rfl rfl rfl rfl (by first|assumption|omega|(simp<;>fail)|(simp;omega))) ?_;rintro _ _ ⟨o157,ok157,rfl,rfl⟩;refine zch ?_;refine zdH ?_;refine zcO ?_;refine K.loopT (σ:=NmS) [(8,_),(10,_)] (fun s kp_=>(24, .int .i64 (s.k:Nat))::(23, .int .i64 (usedL D.C.g.L s.N:Nat))::(22,oV s.o s.N.length)::kp_) (fun s=>oH boE 4 s.N s.o++(hpH D y h++((b10,cells [pv.L,pv.F,pv.M, .int .i64 (D.C.g.words:Nat),pv.C] 53)::(N++((b3,cells [vc, .int .i64 page,vt, .int .i64 workers, .int .i64 grey, .int .i64 gens] 25)::F))))) (fun s=>s.k≤h.s.W.T.length∧s.N.length=D.C.g.L.length∧(∀ t:Nat,s.N[t]?=some true→h.s.A[t]?=some true)∧oOk boE s.N s.o) (fun s=>h.s.W.T.length-s.k) (⟨0,List.replicate D.C.g.L.length false,o157⟩) jj ja (⟨Nat.zero_le _,List.length_replicate,fun t ht=>(by simp[List.getElem?_replicate] at ht),ok157⟩) ?_;rintro⟨k,Nm,oN⟩ ⟨hk,hNl,hNA,kN⟩;dsimp only at hk hNl hNA kN⊢
   have hum:=jgT (l:=D.C.g.L) hNA
   rw[hu] at hum
   by_cases hc1:k<h.s.W.T.length
   ·have hc1':((k:Nat):Int)<((h.s.W.T.length:Nat):Int):=by omega
    have hSk:=fun A=>hSl A k
    cases hsl:slotT h.s.W.T (k:Nat) with
    |none=>
     simp only[hsl,Option.getD_none,Option.isSome_none] at hSk;refine za4 ?_;refine zn ?_;refine ji (hCyc _) ja ?_;refine zq fun T hT=>?_;refine(CallV.part (CallV.fn (hTb _)) ja).mono ?_;rintro _ _ ⟨rfl,rfl⟩;refine zd ?_;clear hT T;refine zn ?_;refine ji (hLn _) ja ?_;refine zab ?_;refine zbc ?_;refine zo ?_;refine ji (hCyc _) ja ?_;refine zq fun T hT=>?_;refine(CallV.part (CallV.fn (hTb _)) ja).mono ?_;rintro _ _ ⟨rfl,rfl⟩;refine zd ?_;clear hT T;refine zo ?_;refine ji (hSk _) ja ?_;refine zaM ?_;refine ziq ?_;refine ziH ?_;refine KL.skipU rfl rfl rfl ?_;refine KL.skipU rfl rfl rfl ?_;refine KL.skipU rfl rfl rfl ?_;refine KL.skipU rfl rfl rfl ?_;refine zcc ?_;refine KL.skipU rfl rfl rfl ?_;refine KL.skipU rfl rfl rfl ?_;refine KL.skipU rfl rfl rfl ?_;refine KL.skipU rfl rfl rfl ?_;refine KL.skipU rfl rfl rfl ?_;refine KL.skipU rfl rfl rfl ?_;refine zjS ?_;refine zaG ?_;refine zdo ?_;refine zeD ?_;exact KE.again ⟨k+1,Nm,oN⟩ jj ja ⟨hc1,hNl,hNA,kN⟩ (by show h.s.W.T.length-(k+1)<h.s.W.T.length-k;omega)
    |some sl=>
     obtain⟨j,rfl,hj⟩:=jaT (J8 hSt.I.ok.w hsl)
     have hAj:=hSt.I.rch (jax.slot hsl)
     obtain⟨yy,hyL⟩:=jY hj
     have hjl:=jx hyL
     have hjN:j<Nm.length:=by omega
     have hj0: ¬((j:Nat):Int)<0:=by omega
     have hjN': ¬((j:Nat):Int)≥((Nm.length:Nat):Int):=by omega
     have hHj:=fun A=>hHs A j
     simp only[hAj,Option.getD_some] at hHj;simp only[hsl,Option.getD_some,Option.isSome_some] at hSk
     obtain⟨b,hb⟩:=jA hjN
     cases b with
     |true=>
      refine za4 ?_;refine zn ?_;refine ji (hCyc _) ja ?_;refine zq fun T hT=>?_;refine(CallV.part (CallV.fn (hTb _)) ja).mono ?_;rintro _ _ ⟨rfl,rfl⟩;refine zd ?_;clear hT T;refine zn ?_;refine ji (hLn _) ja ?_;refine zab ?_;refine zbc ?_;refine zo ?_;refine ji (hCyc _) ja ?_;refine zq fun T hT=>?_;refine(CallV.part (CallV.fn (hTb _)) ja).mono ?_;rintro _ _ ⟨rfl,rfl⟩;refine zd ?_;clear hT T;refine zo ?_;refine ji (hSk _) ja ?_;refine zaM ?_;refine zhv ?_;refine zeC ?_;refine zA ?_;refine zbW ?_;refine zi ?_;refine zbO ?_;refine zi ?_;refine zC ?_;refine zeC ?_;refine zL ?_;refine zn ?_;refine ji (hCyc _) ja ?_;refine zdk ?_;refine ji (hAr _) ja ?_;refine zgf ?_;refine ji (hHj _) ja ?_;refine zk8 ?_;refine zi ?_;refine zC ?_;refine zw ?_;refine zaG ?_;refine zbM ?_;refine ze8 ?_;refine zi ?_;refine zjx ?_;refine zk8 ?_;refine zw ?_;refine zeD ?_;exact KE.again ⟨k+1,Nm,oN⟩ jj ja ⟨hc1,hNl,hNA,kN⟩ (by show h.s.W.T.length-(k+1)<h.s.W.T.length-k;omega)
     |false=>
      have hun:=used_name hyL hb
      have hNA2: ∀ t:Nat,(Nm.set j true)[t]?=some true→h.s.A[t]?=some true:=fun t ht=>by
       by_cases e:j=t
       ·subst e;exact hAj
       ·rw[List.getElem?_set_ne e] at ht;exact hNA t ht
      have hum2:=jgT (l:=D.C.g.L) hNA2
      rw[hu] at hum2
      have hsum:((usedL D.C.g.L Nm:Nat):Int)+((yy.size:Nat):Int)=((usedL D.C.g.L (Nm.set j true):Nat):Int):=by omega
      refine za4 ?_;refine zn ?_;refine ji (hCyc _) ja ?_;refine zq fun T hT=>?_;refine(CallV.part (CallV.fn (hTb _)) ja).mono ?_;rintro _ _ ⟨rfl,rfl⟩;refine zd ?_;clear hT T;refine zn ?_;refine ji (hLn _) ja ?_;refine zab ?_;refine zbc ?_;refine zo ?_;refine ji (hCyc _) ja ?_;refine zq fun T hT=>?_;refine(CallV.part (CallV.fn (hTb _)) ja).mono ?_;rintro _ _ ⟨rfl,rfl⟩;refine zd ?_;clear hT T;refine zo ?_;refine ji (hSk _) ja ?_;refine zaM ?_;refine zhv ?_;refine zeC ?_;refine zA ?_;refine zbW ?_;refine zi ?_;refine zbO ?_;refine zi ?_;refine zC ?_;refine zeC ?_;refine zL ?_;refine zn ?_;refine ji (hCyc _) ja ?_;refine zdk ?_;refine ji (hAr _) ja ?_;refine zgf ?_;refine ji (hHj _) ja ?_;refine zk8 ?_;refine zi ?_;refine zC ?_;refine zw ?_;refine zaG ?_;refine zbM ?_;refine ze8 ?_;refine zi ?_;refine zjx ?_;refine ziw ?_;refine zw ?_;refine zf9 ?_;refine ze ?_;refine ze8 ?_;refine KL.eN (Eff.stSl0 rfl rfl rfl rfl jn (by assumption) (by assumption) rfl rfl) ?_;rintro _ _ rfl;refine za0 ?_;refine ze ?_;refine zB ?_;refine zcP ?_;refine zh1 ?_;refine z8 ?_;refine zbT ?_;refine zgV ?_;rw[hsum];exact KE.again ⟨k+1,Nm.set j true,oN⟩ jj ja ⟨hc1,by rw[List.length_set];exact hNl,hNA2,kN.set _ _⟩ (by show h.s.W.T.length-(k+1)<h.s.W.T.length-k;omega)
   ·have hc1': ¬((k:Nat):Int)<((h.s.W.T.length:Nat):Int):=by omega
    have hge:((u:Nat):Int)≥((usedL D.C.g.L Nm:Nat):Int):=by omega
    refine za4 ?_;refine zn ?_;refine ji (hCyc _) ja ?_;refine zq fun T hT=>?_;refine(CallV.part (CallV.fn (hTb _)) ja).mono ?_;rintro _ _ ⟨rfl,rfl⟩;refine zd ?_;clear hT T;refine zn ?_;refine ji (hLn _) ja ?_;refine zT ?_;refine zdh ?_;refine zo ?_;refine ji (hCyc _) ja ?_;refine zn ?_;refine ji (hAr _) ja ?_;refine zn ?_;refine ji (hUd _) ja ?_;refine ze ?_;refine zaz ?_;refine zL ?_;refine zn ?_;refine zdb ?_;exact zdl
end
end Go.Proofs.YtpcgafhgfjlkmaaGreatDoor.Sw
