/-What the law needs of its own,part 2. -/
import Derived.Test.YtpcgafhgfjlkmaaGreatDoorD1
import Derived.WalkKit
import Derived.ProofKit
import Derived.RangeFuncNested
import Derived.RangeFuncBound
import Derived.RangeFuncCalls
import Derived.RangeFuncLeaves
import Derived.Lib.Hide
import Derived.Sort.BigQuietIn
import Derived.Deep.Quiet
import Derived.StillTailTactics
import Derived.Deep.LoopGhost
import Derived.Laws.Cells
import Derived.OrdersIn
import Derived.Deep.OwnRows
import Derived.Laws.CopyOwn
import Derived.IntWalk
import Derived.ArgAppend
import Derived.Deep.Slices
import Derived.Deep.Fields
import Derived.Laws.IdiomStrings
import Derived.Laws.StructEq
import Derived.Maps.RangeRun
import Derived.Laws.Externs
import Derived.Laws.FloatArith
import Derived.Laws.NewFold
import Derived.RecoverIn
import Derived.Shelf.Strconv.Itoa0
import Derived.Shelf.Bits.Mul64
import Derived.Shelf.Slices.Turned
import Derived.Test.YtpcgafhgfjlkmaaGreatDoorProg
import Derived.SizedLaws
import Derived.Lib.SmallJoins
import Derived.ChangeMaps5
import Derived.Lib.TrailingZeros
import Derived.Lib.BitFns
import Derived.Shelf.Spec.TrailingZeros
import Derived.Test.YtpcgafhgfjlkmaaGreatDoorRows
import Derived.OpenShut
import Derived.LaidMore
import Derived.Lay
import Derived.LaidHandle
import Derived.Test.YtpcgafhgfjlkmaaGreatDoorWHpU8x1
set_option linter.unusedVariables false set_option linter.unusedSimpArgs false namespace Go.Proofs.YtpcgafhgfjlkmaaGreatDoor.Sw
set_option maxHeartbeats 8000000
open Go.Proofs.YtpcgafhgfjlkmaaGreatDoor renaming lo → qL, hi → qH
open Go.RowKit
set_option linter.unusedVariables false
set_option linter.unusedSimpArgs false
set_option maxRecDepth 100000
structure HzS where
 i:Nat
 f:Nat
 y:CyM
 h:HpP
 T:List Int
 oT:Own
section
variable {w0 : World} {F : jb} {c : Cfg} {vc vt v : Value} {l : List jU} {tn : Nat}
set_option maxHeartbeats 8000000 in
theorem heapZero_K (hG:js w0) (hR:Jo w0 F c vc vt) (hC0: ∀ A,Sli w0 A iE vc c.cl) (hvc:vc.oneCell'=true) (hl:Sli w0 F haE v l) (hlo: ∀ x∈l,J7 x) (htn:tn<256):Call Tryz.prog w0 7 [jw c vc vt, .int .u8 (tn:Nat),v] F (fun r H'=>r= .bool true∧H'=F):=by
 have haw:=fun A=>jgd (w0:=w0) (F:=A) hG
 have e8:((tn:Nat):Int)%8=((tn%8:Nat):Int):=by omega
 have hmn:=fun A (hp:Part A F) (hno:okS c (tn%8)=false)=>jf1 (t:=tn%8) (hR.part hp) hno
 have hmd:=fun A (hp:Part A F) (hok:okS c (tn%8)=true)=>je8 (t:=tn%8) hG (hR.part hp) hok
 have hpl:=fun A (hp:Part A F) (ht:j9 c ((tn%8:Nat):Int) 0=true)=>rpNew_K (hR.part hp) ht hvc
 have hfa:okS c (tn%8)=true→ ∃ (x:Tn),c.tn[tn%8]?=some x∧j9 c ((tn%8:Nat):Int) 0=true∧1≤x.caps∧x.caps≤1024:=fun h=>by
  obtain⟨hc,_,x,hx,_⟩:=okS_cfg h
  have hcfg:=ja2 hc
  obtain⟨_,_,t3,_⟩:=hcfg.ten x (List.mem_of_getElem? hx)
  exact⟨x,hx,jb4 (i:=tn%8) (j:=0) hc (jx hx) (by have:=hcfg.cl;omega),t3.1,t3.2⟩
 obtain⟨hS,hT',o1,o2,l1,l2⟩:=hR
 obtain⟨ok,hok⟩: ∃ ok,okS c (tn%8)=ok:=⟨_,rfl⟩
 simp only[hok] at hmn hmd hfa
 cases ok with
 |false=>
  obtain⟨cl,page,tns,workers,grey,gens⟩:=c
  dsimp only at hS hT' l1 l2;simp only[jw,jT] at hmn hmd⊢;refine Call.enter3 (n:=171) (by kernel_rfl) Tryz.func7 rfl rfl rfl ?_;refine zgK ?_;intro b3;refine zaY ?_;refine zdC ?_
  (first|(refine KL.v rfl (Val.remN rfl rfl (by omega)) ?_)|(refine KL.v rfl (Val.rem rfl rfl (by omega)) ?_))
  rw[e8]
  (first|(refine KL.v rfl (Val.conv rfl rfl rfl (by simp only[qL,qH];omega)) ?_)|(refine KL.v rfl (Val.convW rfl rfl rfl) ?_))
  refine zu ?_;refine zb3 ?_;refine jq (hmn _ ja trivial) ?_;refine zfG ?_;refine zf1 ?_;refine zdb ?_;exact zaT
 |true=>
  obtain⟨x,hx,hth,hxc1,hxc2⟩:=hfa rfl
  have hplx:=fun A (hp:Part A F)=>hpl A hp hth
  obtain⟨gg,hgg⟩: ∃ gg,gOf c ((tn%8:Nat):Int)=gg:=⟨_,rfl⟩
  rw[hgg] at hplx
  have hgD: ∀ D y,HMade c (tn%8) D y→D.C.g=gg∧D.C.tn=tn%8∧x.caps=(D.C.caps:Nat)∧D.C.tn<D.R0.length∧D.R0.length=c.tn.length∧ ∀ (k:Nat) (q:List Int),D.R0[k]?=some q→ ∀ z∈q,z=0:=fun D y hM=>by
   obtain⟨x1,g1,g2⟩:=hM.eC
   rw[hx] at g1
   cases g1
   have hl1:=jx hx
   refine⟨by rw[g2];exact hgg,by rw[g2];rfl,by rw[g2];show x.caps=((x.caps.toNat:Nat):Int);omega,by rw[g2,hM.R0,mR_len];exact hl1,by rw[hM.R0,mR_len],fun k q hq z hz=>?_⟩;rw[hM.R0] at hq;unfold mR at hq;rw[List.getElem?_map] at hq
   cases hr:(List.range c.tn.length)[k]? with
   |none=>rw [hr] at hq;cases hq
   |some b=>
    rw[hr] at hq
    have hq':=Option.some.inj hq
    rw[←hq'] at hz;exact List.eq_of_mem_replicate hz
  clear hfa hgg hok hpl
  obtain⟨cl,page,tns,workers,grey,gens⟩:=c
  obtain⟨x1,x2,x3,x4⟩:=x
  dsimp only at hS hT' l1 l2 hx hC0 hxc1 hxc2 hgD hplx;simp only[jw,jT] at hmn hmd hplx⊢
  have hx':tns[((tn%8:Nat):Int).toNat]?=some ⟨x1,x2,x3,x4⟩:=hx
  have h0l:=jx hx
  refine Call.enter3 (n:=171) (by kernel_rfl) Tryz.func7 rfl rfl rfl ?_;refine zgK ?_;intro b3;refine zaY ?_;refine zdC ?_
  (first|(refine KL.v rfl (Val.remN rfl rfl (by omega)) ?_)|(refine KL.v rfl (Val.rem rfl rfl (by omega)) ?_))
  rw[e8]
  (first|(refine KL.v rfl (Val.conv rfl rfl rfl (by simp only[qL,qH];omega)) ?_)|(refine KL.v rfl (Val.convW rfl rfl rfl) ?_))
  refine zu ?_;refine z3 ?_;refine zx fun T hT=>?_;refine(CallV.fn (hmd _ ja trivial)).mono ?_;rintro _ _ ⟨D,y0,hM,rfl,rfl⟩
  have hD:=hM.ok
  have hC:=hD.C
  have hR0:=hM.R
  obtain⟨hg1,hg2,hg3,hg4,hg5,hg6⟩:=hgD D y0 hM
  subst hg1;unfold plL at hplx;refine zd ?_;clear hT T;refine zfG ?_;refine zz ?_;refine z3 ?_;refine zx fun T hT=>?_;refine(CallV.fn (hplx _ ja)).mono ?_;rintro _ _ ⟨pv,N,hPD,rfl,rfl⟩
  have hPD9:=fun A=>hPD A (hC0 A)
  have q1:=(hPD9 []).oL
  have q2:=(hPD9 []).oF
  have q3:=(hPD9 []).oM
  have q4:=(hPD9 []).oC
  have hzK:=fun A (y:CyM) (h:HpP) (nf nk:Nat) (hR:HpR D nf nk y h) (hI:HeI D.C h) (hp:jdd w0 A pv D.C.g)=>zero_K (w0:=w0) (F:=A) hR hI hg4 hp
  unfold plL at hzK
  have hgw:=hC.g.words
  refine zd ?_;clear hT T;refine zaX ?_;intro b10;refine zu ?_;refine zaW ?_;refine K.cutT (σ:=HzS) [(3,_),(7,_),(9,_)] jj (fun s kp_=>(8, .pointer (some ⟨D.b,0,none⟩))::kp_) (fun s=>hpH D s.y (s.h)++(oH uE 33 s.T s.oT++((b10,cells [pv.L,pv.F,pv.M, .int .i64 (D.C.g.words:Nat),pv.C] 53)::(N++((b3,cells [vc, .int .i64 page,vt, .int .i64 workers, .int .i64 grey, .int .i64 gens] 25)::F))))) (fun s=>HpR D s.f 400000000 s.y s.h∧StI D.C s.h s.T []) ?_ ?_
  ·refine zgR ?_;refine zcO ?_;refine K.loopT (σ:=HzS) [(2,_),(3,_),(7,_),(8,_),(9,_),(10,_)] (fun s kp_=>(13, .int .i64 (s.i:Nat))::(12,oV s.oT s.T.length)::kp_) (fun s=>hpH D s.y (s.h)++(oH uE 33 s.T s.oT++((b10,cells [pv.L,pv.F,pv.M, .int .i64 (D.C.g.words:Nat),pv.C] 53)::(N++((b3,cells [vc, .int .i64 page,vt, .int .i64 workers, .int .i64 grey, .int .i64 gens] 25)::F))))) (fun s=>s.i≤l.length∧s.i≤60∧HpR D s.f 400000000 s.y s.h∧s.f≤1+s.i*200∧StI D.C s.h s.T []∧WkI D.C s.h∧s.T.length≤s.i∧oOk uE s.T s.oT) (fun s=>l.length-s.i) (⟨0,1,y0,newH D.C,[],none⟩) jj ja (⟨Nat.zero_le _,Nat.zero_le _,hR0.mono (Nat.le_refl _) (by decide),(by show 1≤1+0*200;decide),StI.new0 hC,WkI.new,Nat.le_refl _,rfl⟩) ?_;rintro⟨i,f,y,h,tl,otl⟩ ⟨hi,hi8,hR1,hf,hSt,hWk,hTl,kT⟩;dsimp only at hi hi8 hR1 hf hSt hWk hTl kT⊢
   by_cases hc1:i<l.length
   ·have hc1':((i:Nat):Int)<((l.length:Nat):Int):=by omega
    by_cases hc2:i<60
    ·have hc2':((i:Nat):Int)<60:=by omega
     obtain⟨x,hx⟩:=jA hc1
     have hxo:=hlo x (List.mem_of_getElem? hx)
     have hop:=fun A v (hS:Sli w0 A uE v tl)=>op_K (w0:=w0) (F:=A) hxo hS hSt.u
     have hzo:=jc3 hxo hSt.u
     obtain⟨z,hz⟩: ∃ z,opA x tl=z:=⟨_,rfl⟩
     rw[hz] at hop hzo
     have hdo:=fun A=>jcf (w0:=w0) (F:=A) hG hD hSt.I hR1 (by omega) hzo
     have hS2:=hSt.do_ hC hzo
     have hW2:=hWk.mvs hC hSt.I (jdN (wr:=true) hC hSt.I hzo.v fun _=>rfl)
     have hold:=fun h0=>hSt.old (op:=z) hC hzo h0
     have hwk:=do_wk hC hSt.I hWk (op:=z)
     have hmade:=fun hc h0=>do_made hC hSt.I (op:=z) hc h0
     have hhlt:=jgq (op:=z) hC hSt.I
     obtain⟨⟨e,hh,w,addr,us,si,cy,ac⟩,h9,hv⟩: ∃ (q:SnP) (h9:HpP),hpDo D.C h z=(q,h9):=⟨_,_,rfl⟩
     rw[hv] at hS2 hW2 hwk hhlt;simp only[hv] at hdo hold hmade
     obtain⟨zc,zh,za,zb,zv⟩:=z
     unfold opV snV HpQ at hdo;unfold opV at hop;dsimp only at hS2 hW2 hwk hhlt hold hmade hdo hop
     have hgt: ¬((h9.wk:Nat):Int)>42*(((D.C.g.words:Nat):Int)+x3):=by rw[hg3];omega
     have hwords:D.C.g.words≤1000000000:=by have:=hC.g.words;omega
     clear hv hz
     obtain⟨xo,xH,xV,wk,xk,xu⟩:=x
     have hxu:xu<256:=hxo.u
     skip
     refine zbm ?_;refine zjO ?_;refine zmd ?_;refine ze ?_;refine ziI ?_
     (first|refine KL.skipG rfl rfl rfl ?_|refine KL.skipU rfl rfl rfl ?_|(refine KL.yes rfl rfl ?_;refine KL.v rfl (Val.isT (Val.lss rfl rfl) jL) ?_)|(refine KL.yes rfl rfl ?_;refine KL.v rfl (Val.isF (Val.lss rfl rfl) jL) ?_)|(refine KL.yes rfl rfl ?_;refine KL.v rfl (Val.lss rfl rfl) ?_))
     refine zln ?_;refine zN ?_;refine zdJ ?_;refine byBlk ?_;refine K.cutT (σ:=HzS) [(2,_),(3,_),(7,_),(8,_),(9,_),(10,_),(13,_)] jj (fun s kp_=>(12,oV s.oT s.T.length)::kp_) (fun s=>hpH D s.y (s.h)++(oH uE 33 s.T s.oT++((b10,cells [pv.L,pv.F,pv.M, .int .i64 (D.C.g.words:Nat),pv.C] 53)::(N++((b3,cells [vc, .int .i64 page,vt, .int .i64 workers, .int .i64 grey, .int .i64 gens] 25)::F))))) (fun s=>HpR D s.f 400000000 s.y s.h∧s.f≤1+(i+1)*200∧StI D.C s.h s.T []∧WkI D.C s.h∧s.T.length≤i+1∧oOk uE s.T s.oT) ?_ ?_
     ·cases wk with
      |true=>
       have hst2:=hSt.stp hC (k:=xk) (u:=((xu:Nat):Int))
       have hwk2:=hWk.mvs hC hSt.I (jfW (wr:=true) (k:=xk) (u:=((xu:Nat):Int)))
       have hstp:=fun A=>jdq (w0:=w0) (F:=A) (k:=xk) (u:=((xu:Nat):Int)) hG hD hR1 (by omega)
       unfold HpQ at hstp;refine za7 ?_;refine zcP ?_;refine zkV ?_;refine z8 ?_;refine zcI ?_;refine zim ?_;refine zbf ?_;refine zcC ?_;refine zin ?_;refine zaF ?_;refine zhu ?_;refine zio ?_;refine zaF ?_;refine zl fun T hT=>?_;refine(CallV.part (CallV.fn (hstp _)) ja).mono ?_;rintro _ _ ⟨rfl,y1,h2,rfl⟩;refine zg ?_;clear hT T;refine zD ?_;exact KE.meet ⟨0,f,y1,_,tl,otl⟩ jj ja ⟨h2,(by show f≤1+(i+1)*200;omega),hst2,hwk2,(by show tl.length≤i+1;omega),kT⟩
      |false=>
       refine za7 ?_;refine zcP ?_;refine zkV ?_;refine z8 ?_;refine zmO ?_;refine zmJ ?_;refine zgU ?_;refine zaH ?_;intro b14;refine ze ?_;refine zc2 fun T hT=>?_;refine(CallV.part (CallV.fn (hdo _)) ja).mono ?_;rintro _ _ ⟨rfl,y1,h2,rfl⟩
       have hwork:=fun A=>jkz (w0:=w0) (F:=A) (D:=D) (y:=y1) (h:=h9)
       refine zd ?_;clear hT T;refine zfd ?_;intro b15;refine ze9 ?_;refine K.drawn _ [(0,0),(2,1),(3,1),(4,1),(5,1),(6,1),(7,1),(8,1),(9,1),(10,1),(11,1),(1,2),(12,0)] (by kernel_rfl) (by kernel_rfl) (by kernel_rfl) (by kernel_rfl) (by kernel_rfl) (by kernel_rfl) Part.all ?_;refine zj ?_;refine KD.v1 rfl rfl (Val.fieldAddr0 (k:=3) rfl rfl) ?_;refine zba ?_;refine zeL ?_;refine zH ?_;refine KD.v1 rfl rfl (Val.idxSl rfl rfl rfl J3 rfl jL) ?_;refine KD.v1 rfl rfl (Val.fieldSl (k:=2) rfl rfl) ?_;refine KD.v1 rfl rfl (Val.loadP rfl rfl jdb) ?_;refine KD.v1 rfl rfl (Val.add rfl rfl (by simp only[qL,qH];omega)) ?_;refine KD.v1 rfl rfl (Val.mul rfl rfl (by simp only[qL,qH];omega)) ?_;refine zl fun T hT=>?_;refine(CallV.part (CallV.fn (hwork _)) ja).mono ?_;rintro _ _ ⟨rfl,rfl⟩;refine zg ?_;clear hT T;refine KD.v0 rfl rfl (Val.isF (Val.gtr rfl rfl) jL) ?_;refine zD ?_;refine KE.next (K.condF rfl (K.skip (KE.next ?_)));refine K.cutT (σ:=HzS) [(2,_),(3,_),(7,_),(8,_),(9,_),(10,_),(13,_),(14,_),(15,_)] jj (fun s kp_=>(12,oV s.oT s.T.length)::kp_) (fun s=>hpH D y1 (h9)++(oH uE 33 s.T s.oT++((b14,cells [.int .u8 (zc:Nat), .int .u64 (zh:Nat), .int .i64 za, .int .i64 zb, .int .u64 (zv:Nat)] 35)::(b15,cells [.int .i64 e, .int .u64 (hh:Nat), .int .u64 w, .int .i64 addr, .int .i64 us, .int .i64 si, .int .i64 cy, .bool ac] 42)::(b10,cells [pv.L,pv.F,pv.M, .int .i64 (D.C.g.words:Nat),pv.C] 53)::(N++((b3,cells [vc, .int .i64 page,vt, .int .i64 workers, .int .i64 grey, .int .i64 gens] 25)::F))))) (fun s=>StI D.C h9 s.T []∧s.T.length≤i+1∧oOk uE s.T s.oT) ?_ ?_
       ·by_cases hh0:hh=0
        ·have hh0':((hh:Nat):Int)=0:=by omega
         refine zy ?_;refine zF ?_;refine zaE ?_;refine zbq ?_;exact KE.meet ⟨0,f,y1,h9,tl,otl⟩ jj ja ⟨hS2,(by show tl.length≤i+1;omega),kT⟩
        ·have hh0': ¬((hh:Nat):Int)=0:=by omega
         have hbd:(tl++ [((hh:Nat):Int)]).length≤4294967296:=by simp;omega
         refine zy ?_;refine zF ?_;refine zd5 ?_;refine ze ?_;refine zF ?_;refine zaj ?_;intro b95;refine KL.e rfl (Eff.appZ (ys:=[_]) rfl rfl rfl rfl rfl rfl jn (by assumption) (by first|exact Sli.blk jF rfl (by first|decide|simp) (by first|decide|(unfold maxLen;omega)) rfl|exact Sli.old (by assumption)|exact Sli.own jn (by assumption) j6|assumption|exact Sli.part (by assumption) ja) rfl (by first|assumption|omega|(simp<;>fail)|(simp;omega)) rfl) ?_;rintro _ _ ⟨o96,ok96,rfl,rfl⟩;refine zbY ?_;exact KE.meet ⟨0,f,y1,h9,tl++ [((hh:Nat):Int)],o96⟩ jj ja ⟨hold hh0,(by show(tl++ [((hh:Nat):Int)]).length≤i+1;simp;omega),ok96⟩
       ·rintro⟨_,_,_,_,tl2,otl2⟩ ⟨hS3,hTl2,kT2⟩;dsimp only at hS3 hTl2 kT2⊢;refine zae ?_;refine zb9 ?_;refine K.loopT (σ:=HzS) [(2,_),(3,_),(7,_),(8,_),(9,_),(10,_),(12,_),(13,_),(14,_),(15,_)] (fun s kp_=>(16, .int .i64 (s.i:Nat))::kp_) (fun s=>hpH D s.y (s.h)++(oH uE 33 tl2 otl2++((b14,cells [.int .u8 (zc:Nat), .int .u64 (zh:Nat), .int .i64 za, .int .i64 zb, .int .u64 (zv:Nat)] 35)::(b15,cells [.int .i64 e, .int .u64 (hh:Nat), .int .u64 w, .int .i64 addr, .int .i64 us, .int .i64 si, .int .i64 cy, .bool ac] 42)::(b10,cells [pv.L,pv.F,pv.M, .int .i64 (D.C.g.words:Nat),pv.C] 53)::(N++((b3,cells [vc, .int .i64 page,vt, .int .i64 workers, .int .i64 grey, .int .i64 gens] 25)::F))))) (fun s=>HpR D s.f 400000000 s.y s.h∧s.f≤f+2+2*s.i∧s.i≤64∧StI D.C s.h tl2 []∧WkI D.C s.h∧(zc=1→e=0→NewO D.C s.h hh za zb)) (fun s=>64-s.i) (⟨0,f+2,y1,h9,[],none⟩) jj ja (⟨h2,Nat.le_refl _,(by show 0≤64;decide),hS3,hW2,hmade⟩) ?_;rintro⟨k,f3,y3,h3,_,_⟩ ⟨hR3,hf3,hk6,hS5,hW5,hN5⟩;dsimp only at hR3 hf3 hk6 hS5 hW5 hN5⊢
        by_cases h1c:zc=1
        ·have h1c':((zc:Nat):Int)=1:=by omega
         by_cases he:e=0
         ·have hN:=hN5 h1c he
          obtain⟨_,_,kk,_,_,_,hmy,_⟩:=hN.ex
          have hmay:=jbm hmy
          dsimp only at hmay
          have hsum:0≤za+zb∧za+zb≤63:=by omega
          by_cases hka:((k:Nat):Int)<za+zb
          ·have ho2:JN ⟨2,hh,((k:Nat):Int),0,0⟩:=⟨(by show(2:Nat)<256;decide),hhlt,(by show(0:Nat)<18446744073709551616;decide)⟩
           have hdo2:=fun A=>jcf (w0:=w0) (F:=A) hG hD hS5.I hR3 (by omega) ho2
           have hS6:=hS5.do_ hC ho2
           have hW6:=hW5.mvs hC hS5.I (jdN (wr:=true) hC hS5.I ho2.v fun _=>rfl)
           obtain⟨m1,m2,m3,m4⟩:=made_read hN (k:=((k:Nat):Int)) (by omega) hka
           obtain⟨⟨e7,hh7,w7,addr7,us7,si7,cy7,ac7⟩,h8,hv7⟩: ∃ (q:SnP) (h9:HpP),hpDo D.C h3 ⟨2,hh,((k:Nat):Int),0,0⟩=(q,h9):=⟨_,_,rfl⟩
           rw[hv7] at hS6 hW6 m1 m2 m3 m4;simp only[hv7] at hdo2;unfold opV snV HpQ at hdo2;dsimp only at hS6 hW6 m1 m2 m3 m4 hdo2;subst m1 m2 m3
           have hN6:NewO D.C h8 hh za zb:=by rw[m4];exact hN.wk0
           clear hv7 m4;refine zc3 ?_;refine zB ?_;refine zJ ?_;refine zbg ?_;refine zhA ?_;refine zeA ?_;refine zd9 ?_;refine zbT ?_;refine zi ?_;refine zjU ?_;refine zbc ?_;refine ze ?_;refine zF ?_;refine zco ?_;refine zn ?_;refine j4 (hdo2 _) ja ?_;rintro _ _ ⟨rfl,y4,h4,rfl⟩;refine zaH ?_;intro b17;refine zB ?_;refine zaE ?_;refine zL ?_;refine zeA ?_;refine zed ?_;refine zL ?_;refine zbh ?_;refine zed ?_;refine zeD ?_;exact KE.again ⟨k+1,f3+2,y4,h8,[],none⟩ jj ja ⟨h4,(by show f3+2≤f+2+2*(k+1);omega),(by show k+1≤64;omega),hS6,hW6,fun _ _=>hN6⟩ (by show 64-(k+1)<64-k;omega)
          ·refine K.seq ?_;refine zy ?_;refine zB ?_;refine zJ ?_;refine zbg ?_;refine zhA ?_;refine zeA ?_;refine zd9 ?_;refine zbT ?_;refine zi ?_;refine zT ?_;refine zw ?_;refine zcf ?_;exact KE.meet ⟨0,f3,y3,h3,tl2,otl2⟩ jj ja ⟨hR3,(by show f3≤1+(i+1)*200;omega),hS5,hW5,hTl2,kT2⟩
         ·refine K.seq ?_;refine zy ?_;refine zB ?_;refine zJ ?_;refine zbg ?_;refine zG ?_;refine zw ?_;refine zfx ?_;refine zcf ?_;exact KE.meet ⟨0,f3,y3,h3,tl2,otl2⟩ jj ja ⟨hR3,(by show f3≤1+(i+1)*200;omega),hS5,hW5,hTl2,kT2⟩
        ·have h1c': ¬((zc:Nat):Int)=1:=by omega
         refine zc3 ?_;refine zB ?_;refine zG ?_;refine zax ?_;refine zfx ?_;refine zcf ?_;exact KE.meet ⟨0,f3,y3,h3,tl2,otl2⟩ jj ja ⟨hR3,(by show f3≤1+(i+1)*200;omega),hS5,hW5,hTl2,kT2⟩
     ·rintro⟨_,f2,y2,h2,tl2,otl2⟩ ⟨hR2,hf2,hS2,hW2,hTl2,kT2⟩;dsimp only at hR2 hf2 hS2 hW2 hTl2 kT2⊢
      have hz2:=fun A (hp:jdd w0 A pv D.C.g)=>hzK A y2 h2 _ _ hR2 hS2.I hp
      simp only[hg2] at hz2;refine za7 ?_;refine ze ?_;refine zb3 ?_;refine ji (hz2 (oH uE 33 tl2 otl2++((b10,cells [pv.L,pv.F,pv.M, .int .i64 (D.C.g.words:Nat),pv.C] 53)::(N++((b3,cells [vc, .int .i64 page,vt, .int .i64 workers, .int .i64 grey, .int .i64 gens] 25)::F)))) ((hPD ((b3,cells [vc, .int .i64 page,vt, .int .i64 workers, .int .i64 grey, .int .i64 gens] 25)::F) (hC0 _)).part ja)) ja ?_;refine zE ?_;refine zeD ?_;exact KE.again ⟨i+1,f2,y2,h2,tl2,otl2⟩ jj ja ⟨hc1,hc2,hR2,hf2,hS2,hW2,hTl2,kT2⟩ (by show l.length-(i+1)<l.length-i;omega)
    ·have hc2': ¬((i:Nat):Int)<60:=by omega
     refine zla ?_;refine zT ?_;refine zw ?_;refine zcf ?_;exact KE.meet ⟨0,f,y,h,tl,otl⟩ jj ja ⟨hR1,hSt⟩
   ·have hc1': ¬((i:Nat):Int)<((l.length:Nat):Int):=by omega
    refine za4 ?_;refine zdi ?_;refine zaO ?_;refine zcf ?_;exact KE.meet ⟨0,f,y,h,tl,otl⟩ jj ja ⟨hR1,hSt⟩
  ·rintro⟨_,f,y,h,tl,otl⟩ ⟨hR1,hSt⟩;dsimp only at hR1 hSt⊢
   have hMW:=fun A (k:Nat) (x:List Int) (hk:(D.R0.set D.C.tn h.s.W.x)[k]?=some x)=>jmg (w0:=w0) (F:=A) hR1 hk
   refine zc3 ?_;refine zcO ?_;refine K.loopT (σ:=ZrS) [(3,_),(7,_),(9,_)] (fun s kp_=>(18, .int .i64 (s.i:Nat))::kp_) (fun s=>hpH D y h++((b3,cells [vc, .int .i64 page,vt, .int .i64 workers, .int .i64 grey, .int .i64 gens] 25)::F)) (fun s=>s.i≤tns.length) (fun s=>tns.length-s.i) (⟨0⟩) jj ja (Nat.zero_le _) ?_;rintro⟨k⟩ hk;dsimp only at hk⊢
   by_cases hc1:k<tns.length
   ·have hc1':((k:Nat):Int)<((tns.length:Nat):Int):=by omega
    obtain⟨x,hxk⟩:=jA (l:=D.R0.set D.C.tn h.s.W.x) (k:=k) (by rw[List.length_set,hg5];exact hc1)
    have hM2:=fun A=>hMW A k x hxk
    refine zaA ?_;refine zI ?_;refine zce ?_;refine zbc ?_;refine zaC fun T hT=>?_;refine(CallV.part (CallV.fn (hM2 _)) ja).mono ?_;rintro _ _ ⟨o,ko,rfl,rfl⟩
    have hxl:x.length≤9223372036854775807:=by
     cases o with
     |none=>simp only[oOk] at ko;subst ko;exact Nat.zero_le _
     |some q=>simp only[oOk] at ko;have g1:=ko.1;have g2:=ko.2.1;exact Nat.le_trans (Nat.le_trans g1 g2) (by decide)
    refine zd ?_;clear hT T;refine zQ ?_;refine zcO ?_;refine K.loopT (σ:=ZrS) [(3,_),(7,_),(9,_),(18,_),(19,_)] (fun s kp_=>(21, .int .i64 (s.i:Nat))::kp_) (fun s=>oH uE 33 x o++(hpH D y h++((b3,cells [vc, .int .i64 page,vt, .int .i64 workers, .int .i64 grey, .int .i64 gens] 25)::F))) (fun s=>s.i≤x.length) (fun s=>x.length-s.i) (⟨0⟩) jj ja (Nat.zero_le _) ?_;rintro⟨a⟩ ha;dsimp only at ha⊢
    by_cases hc3:a<x.length
    ·have hc3':((a:Nat):Int)<((x.length:Nat):Int):=by omega
     by_cases hkt:k=D.C.tn
     ·have hkt': ¬((k:Nat):Int)≠((tn%8:Nat):Int):=by omega
      refine za4 ?_;refine zbW ?_;refine zab ?_;refine zbM ?_;refine zaE ?_;refine zw ?_;refine zcf ?_;refine zcg ?_;exact KE.again ⟨k+1⟩ jj ja hc1 (by show tns.length-(k+1)<tns.length-k;omega)
     ·have hkt':((k:Nat):Int)≠((tn%8:Nat):Int):=by omega
      obtain⟨zz,hzz⟩:=jA hc3
      have hz0:zz=0:=by
       rw[List.getElem?_set_ne (fun q=>hkt q.symm)] at hxk;exact hg6 k x hxk zz (List.mem_of_getElem? hzz)
      subst hz0;refine za4 ?_;refine zbW ?_;refine zab ?_;refine zbM ?_;refine zag ?_;refine zw ?_;refine zbc ?_;refine zm ?_;refine ze8 ?_;refine zjx ?_;refine zaE ?_;refine zeD ?_;exact KE.again ⟨a+1⟩ jj ja hc3 (by show x.length-(a+1)<x.length-a;omega)
    ·have hc3': ¬((a:Nat):Int)<((x.length:Nat):Int):=by omega
     refine za4 ?_;refine zbW ?_;refine zT ?_;refine zax ?_;refine zcf ?_;refine zcg ?_;exact KE.again ⟨k+1⟩ jj ja hc1 (by show tns.length-(k+1)<tns.length-k;omega)
   ·have hc1': ¬((k:Nat):Int)<((tns.length:Nat):Int):=by omega
    refine zaA ?_;refine zI ?_;refine zcV ?_;refine zn ?_;refine zdb ?_;exact zt
end
end Go.Proofs.YtpcgafhgfjlkmaaGreatDoor.Sw
