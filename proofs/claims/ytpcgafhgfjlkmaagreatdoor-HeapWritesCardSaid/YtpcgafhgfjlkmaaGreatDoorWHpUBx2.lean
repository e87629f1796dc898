/-What the law needs of its own,part 2. -/
import Derived.Test.YtpcgafhgfjlkmaaGreatDoorD1
import Derived.WalkKit
import Derived.ProofKit
import Derived.RangeFuncNested
import Derived.RangeFuncBound
import Derived.RangeFuncCalls
import Derived.RangeFuncLeaves
import Derived.Lib.Hide
import Derived.Sort.BigQuietIn
import Derived.Deep.Quiet
import Derived.StillTailTactics
import Derived.Deep.LoopGhost
import Derived.Laws.Cells
import Derived.OrdersIn
import Derived.Deep.OwnRows
import Derived.Laws.CopyOwn
import Derived.IntWalk
import Derived.ArgAppend
import Derived.Deep.Slices
import Derived.Deep.Fields
import Derived.Laws.IdiomStrings
import Derived.Laws.StructEq
import Derived.Maps.RangeRun
import Derived.Laws.Externs
import Derived.Laws.FloatArith
import Derived.Laws.NewFold
import Derived.RecoverIn
import Derived.Shelf.Strconv.Itoa0
import Derived.Shelf.Bits.Mul64
import Derived.Shelf.Slices.Turned
import Derived.Test.YtpcgafhgfjlkmaaGreatDoorProg
import Derived.SizedLaws
import Derived.Lib.SmallJoins
import Derived.ChangeMaps5
import Derived.Lib.TrailingZeros
import Derived.Lib.BitFns
import Derived.Shelf.Spec.TrailingZeros
import Derived.Test.YtpcgafhgfjlkmaaGreatDoorRows
import Derived.OpenShut
import Derived.LaidMore
import Derived.Lay
import Derived.LaidHandle
import Derived.Test.YtpcgafhgfjlkmaaGreatDoorWHpUBx1
set_option linter.unusedVariables false set_option linter.unusedSimpArgs false namespace Go.Proofs.YtpcgafhgfjlkmaaGreatDoor.Sw
set_option maxHeartbeats 8000000
open Go.Proofs.YtpcgafhgfjlkmaaGreatDoor renaming lo → qL, hi → qH
open Go.RowKit
set_option linter.unusedVariables false
set_option linter.unusedSimpArgs false
set_option maxRecDepth 100000
structure HwB where
 b:Nat
structure HwB2 where
 b:Nat
 y:CyM
structure HwL where
 k:Nat
 f:Nat
 y:CyM
 h:HpP
 o:Own
theorem mod_at {a n:Int} (hn:0<n): ∃ k:Nat,a%n=((k:Nat):Int)∧((k:Nat):Int)<n:=by
 have h1:=Int.emod_nonneg a (b:=n) (by omega)
 have h2:=Int.emod_lt_of_pos a hn
 exact⟨(a%n).toNat,by omega,by omega⟩
def wdR (x:List Int) (y:jg) (r k:Nat):List Int:=(List.range k).map fun i=>wAt x (fAt y (((r:Nat):Int)+((i:Nat):Int)))
theorem wdR_len {x:List Int} {y:jg} {r k:Nat}:(wdR x y r k).length=k:=by simp[wdR]
theorem wdR_next {x:List Int} {y:jg} {r k:Nat}:wdR x y r k++ [wAt x (fAt y (((r:Nat):Int)+((k:Nat):Int)))]=wdR x y r (k+1):=by simp[wdR,List.range_succ]
section
variable {w0 : World} {F : jb} {c : Cfg} {vc vt v : Value} {l : List jU} {x : jU}
set_option maxHeartbeats 8000000 in
theorem heapWrites_K (hG:js w0) (hR:Jo w0 F c vc vt) (hl:Sli w0 F haE v l) (hlo: ∀ x∈l,J7 x) (hxo:J7 x):Call Tryz.prog w0 10 [jw c vc vt,v, .agg (acL x).toArray] F (fun r H'=>r= .bool true∧H'=F):=by
 have haw:=fun A=>jgd (w0:=w0) (F:=A) hG
 have hmn:=fun A (hp:Part A F) (hno:okS c 0=false)=>jf1 (t:=0) (hR.part hp) hno
 have hmd:=fun A (hp:Part A F) (hok:okS c 0=true)=>je8 (t:=0) hG (hR.part hp) hok
 obtain⟨hS,hT',o1,o2,l1,l2⟩:=hR
 obtain⟨ok,hok⟩: ∃ ok,okS c 0=ok:=⟨_,rfl⟩
 simp only[hok] at hmn hmd
 obtain⟨cl,page,tns,workers,grey,gens⟩:=c
 dsimp only at hS hT' l1 l2;simp only[jw,jT] at hmn hmd⊢
 obtain⟨⟨xc,xh,xa,xb,xv⟩,xH,xV,wk,xk,xu⟩:=x
 have hxv:xv<18446744073709551616:=hxo.o.v
 unfold acL;dsimp only
 cases ok with
 |false=>
  refine Call.enter3 (n:=164) (by kernel_rfl) Tryz.func10 rfl rfl rfl ?_;refine zaU ?_;intro b3 b5;refine zu ?_;refine zbx ?_;refine jq (hmn _ ja rfl) ?_;refine zfG ?_;refine zf1 ?_;refine zdb ?_;exact zaT
 |true=>
  refine Call.enter3 (n:=164) (by kernel_rfl) Tryz.func10 rfl rfl rfl ?_;refine zaU ?_;intro b3 b5;refine zu ?_;refine zc2 fun T hT=>?_;refine(CallV.fn (hmd _ ja rfl)).mono ?_;rintro _ _ ⟨D,y0,hM,rfl,rfl⟩
  have hD:=hM.ok
  have hC:=hD.C
  have hR0:=hM.R
  refine zd ?_;clear hT T;refine zfG ?_;refine zaG ?_;refine zo ?_;refine jat (run_K hG hD (hR0.mono (Nat.le_refl _) (by decide)) (by decide) (WrI.run hC hlo) ⟨StI.new0 hC,HdI.new hC⟩ (hl.part ja) hlo) ?_;rintro _ _ ⟨f1,y1,h1,tl,otl,hR1,hf1,⟨hSt,hHd⟩,kT,hTl,rfl,rfl⟩
  by_cases htl:tl.length=0
  ·have htl':((tl.length:Nat):Int)=0:=by omega
   refine z6 ?_;refine zbW ?_;refine zJ ?_;refine zf1 ?_;refine zdb ?_;exact zaT
  ·have htl': ¬((tl.length:Nat):Int)=0:=by omega
   obtain⟨kk,ek,hkl⟩:=mod_at (a:=if xH<0 then 0 else xH) (n:=((tl.length:Nat):Int)) (by omega)
   have hkl':kk<tl.length:=by omega
   obtain⟨wx,hwx⟩:=jA hkl'
   obtain⟨wn,rfl,hwl,_⟩:=hSt.t wx (List.mem_of_getElem? hwx)
   have hnm: ¬((tl.length:Nat):Int)= -1:=by omega
   have hok7: ∀ n:Nat,n<256→ ∀ a,JN ⟨n,wn,a,0,0⟩:=fun n hn a=>⟨hn,hwl,by show(0:Nat)<18446744073709551616;decide⟩
   have hdo7:=fun A=>jcf (w0:=w0) (F:=A) hG hD hSt.I hR1 (by omega) (hok7 7 (by decide) 0)
   refine z6 ?_;refine zbW ?_;refine zG ?_;refine zaR ?_;refine zdC ?_
   (first|(refine KL.v rfl (Val.fieldSl (k:=5) rfl rfl) ?_)|(refine KL.v rfl (Val.fieldAddr0 (k:=5) rfl rfl) ?_)|(refine KL.v rfl (Val.fieldAddrZ rfl rfl) ?_)|(refine KL.v rfl (Val.fieldAddr (k:=5) rfl rfl) ?_))
   refine zbo ?_;refine KL.v rfl (Val.max rfl rfl) ?_;refine ze ?_;refine zjO ?_
   (first|(refine KL.v rfl (Val.remN rfl rfl (by omega)) ?_)|(refine KL.v rfl (Val.rem rfl rfl (by omega)) ?_))
   rw[ek];refine zk1 ?_;refine zbo ?_;refine zbY ?_
   cases hs:hpSlot D.C.tn h1.s.W.T wn with
   |none=>
    have he:=fold_none (C:=D.C) (h:=h1) (a:=0) (b:=0) (v:=0) hs
    obtain⟨⟨e,hh,w,addr,us,si,cy,ac⟩,h9,hv⟩: ∃ (q:SnP) (h9:HpP),hpDo D.C h1 ⟨7,wn,0,0,0⟩=(q,h9):=⟨_,_,rfl⟩
    rw[hv] at he;simp only[hv] at hdo7;dsimp only at he;subst he;unfold opV snV HpQ at hdo7;dsimp only at hdo7;refine zaf ?_;refine zm ?_;refine zM ?_;refine zn ?_;refine j4 (hdo7 _) ja ?_;rintro _ _ ⟨rfl,y2,hR2,rfl⟩;refine zgM ?_;intro b11;refine zag ?_;refine zac ?_;refine zB ?_;refine zJ ?_;refine zL ?_;refine zn ?_;refine zdb ?_;refine zcE ?_;refine zbE ?_;exact zZ
   |some sl=>
    obtain⟨j,rfl,hj⟩:=jaT (J8 hSt.I.ok.w (jai hs))
    obtain⟨yy,hyL⟩:=jY hj
    have hv:=fold_some (C:=D.C) (h:=h1) (a:=0) (b:=0) (v:=0) hs hyL
    obtain⟨y9,hyL9,hhn⟩:=hHd j (jax.slot (jai hs))
    rw[hyL] at hyL9
    cases hyL9
    obtain⟨hd,hhd⟩:=Option.ne_none_iff_exists'.1 hhn
    have hmay:=jbm (jaD (jaY hhd).2).1
    simp only[hv] at hdo7;unfold opV HpQ ja1 snV at hdo7;dsimp only at hdo7
    obtain⟨w1,hw1⟩: ∃ q,Go.Proofs.YtpcgafhgfjlkmaaGreatDoor.sumP (jaG h1.s.W.x yy)=q:=⟨_,rfl⟩
    obtain⟨us,hus⟩: ∃ q,((usedL D.C.g.L h1.s.A:Nat):Int)=q:=⟨_,rfl⟩
    obtain⟨si,hsi⟩: ∃ q,((min h1.p.since 2147483647:Nat):Int)=q:=⟨_,rfl⟩
    obtain⟨cy,hcy⟩: ∃ q,((min h1.p.cyc 2147483647:Nat):Int)=q:=⟨_,rfl⟩
    obtain⟨ac,hac⟩: ∃ q,h1.p.act=q:=⟨_,rfl⟩
    simp only[hw1,hus,hsi,hcy,hac] at hdo7;unfold told at hdo7;dsimp only at hdo7
    have hSt2:StI D.C {h1 with wk:=0} tl []:=hSt.mvs hC (wk_mvs 0)
    obtain⟨h2,hh2⟩: ∃ q,({h1 with wk:=0}:HpP)=q:=⟨_,rfl⟩
    have hs2:hpSlot D.C.tn h2.s.W.T wn=some ((j:Nat):Int):=by rw[←hh2];exact hs
    have hhd2:headP h2.s.W.x yy=some hd:=by rw[←hh2];exact hhd
    rw[hh2] at hSt2;simp only[hh2] at hdo7
    have hwk2:h2.wk=0:=by rw[←hh2]
    clear hv hhd hhn hs hw1 hus hsi hcy hac hh2 hSt hHd
    obtain⟨hc,hr',hw'⟩:=hd
    obtain⟨hr,rfl⟩: ∃ n:Nat,hr'=n:=⟨hr'.toNat,by dsimp only at hmay;omega⟩
    obtain⟨hw,rfl⟩: ∃ n:Nat,hw'=n:=⟨hw'.toNat,by dsimp only at hmay;omega⟩
    dsimp only at hmay
    obtain⟨ka,eka,hkal⟩:=mod_at (a:=if xV<0 then 0 else xV) (n:=if ((hw:Nat):Int)<1 then 1 else((hw:Nat):Int)) (by split<;>omega)
    have hne0: ¬(if ((hw:Nat):Int)<1 then(1:Int) else((hw:Nat):Int))=0:=by split<;>omega
    have hnem: ¬(if ((hw:Nat):Int)<1 then(1:Int) else((hw:Nat):Int))= -1:=by split<;>omega
    have hka63:ka≤63:=by split at hkal<;>omega
    have hok3:JN ⟨3,wn,((hr:Nat):Int)+((ka:Nat):Int),0,xv⟩:=⟨by show(3:Nat)<256;decide,hwl,hxv⟩
    have hdo3:=fun A nf (y:CyM) (hR:HpR D nf 400000000 y h2) (hn:nf≤1000)=>jcf (w0:=w0) (F:=A) hG hD hSt2.I hR (by omega) hok3
    have hCyc:=fun A (y:CyM)=>jbC (w0:=w0) (F:=A) (D:=D) (y:=y) (h:=h2)
    have hBd:=fun A nf nk (y:CyM) (hR:HpR D nf nk y h2)=>jd8 (w0:=w0) (F:=A) hR
    have hSo:=fun A nf nk (y:CyM) (hR:HpR D nf nk y h2)=>jmi (w0:=w0) (F:=A) hR hyL
    have hHe:=fun A nf nk (y:CyM) (hR:HpR D nf nk y h2)=>hyHead_K (w0:=w0) (F:=A) hG hR hyL
    simp only[hhd2] at hHe;unfold headV hdV at hHe;dsimp only at hHe;refine zaf ?_;refine zm ?_;refine zM ?_;refine zn ?_;refine j4 (hdo7 _) ja ?_;rintro _ _ ⟨rfl,y2,hR2,rfl⟩;refine zgM ?_;intro b11;refine zaE ?_;refine zaR ?_;refine K.cutT (σ:=HwB) [(5,_),(7,_),(10,_),(11,_)] jj (fun s kp_=>(12, .pointer (some ⟨s.b,0,none⟩))::(13, .int .i64 0)::kp_) (fun s=>hpH D y2 h2++((s.b,cells [.int .i64 hc, .int .i64 (hr:Nat), .int .i64 (hw:Nat)] 65)::((b11,cells [.int .i64 0, .int .u64 0, .int .u64 w1, .int .i64 (yy.addr:Nat), .int .i64 us, .int .i64 si, .int .i64 cy, .bool ac] 42)::(oH uE 33 tl otl++((b5,cells [.int .u8 (xc:Nat), .int .u64 (xh:Nat), .int .i64 xa, .int .i64 xb, .int .u64 (xv:Nat), .int .i64 xH, .int .i64 xV, .bool wk, .int .i64 xk, .int .u8 (xu:Nat)] 37)::(b3,cells [vc, .int .i64 page,vt, .int .i64 workers, .int .i64 grey, .int .i64 gens] 25)::F))))) (fun s=>True) ?_ ?_
    ·skip
     refine zar ?_;refine K.drawn ((b11,cells [.int .i64 0, .int .u64 0, .int .u64 w1, .int .i64 (yy.addr:Nat), .int .i64 us, .int .i64 si, .int .i64 cy, .bool ac] 42)::((b5,cells [.int .u8 (xc:Nat), .int .u64 (xh:Nat), .int .i64 xa, .int .i64 xb, .int .u64 (xv:Nat), .int .i64 xH, .int .i64 xV, .bool wk, .int .i64 xk, .int .u8 (xu:Nat)] 37)::(b3,cells [vc, .int .i64 page,vt, .int .i64 workers, .int .i64 grey, .int .i64 gens] 25)::F)) [(0,1),(3,1),(4,1),(5,1),(1,3),(2,3),(6,3),(7,3),(8,1),(9,1),(10,1),(11,2),(12,2),(13,0)] (by kernel_rfl) (by kernel_rfl) (by kernel_rfl) (by kernel_rfl) (by kernel_rfl) (by kernel_rfl) ja ?_;refine zH ?_;refine zH ?_
     (first|refine KD.v1 rfl rfl (Val.fieldSl (k:=3) rfl rfl) ?_|refine KD.v1 rfl rfl (Val.fieldAddr0 (k:=3) rfl rfl) ?_|refine KD.v1 rfl rfl (Val.fieldAddrZ rfl rfl) ?_|refine KD.v1 rfl rfl (Val.fieldAddr (k:=3) rfl rfl) ?_)
     refine zc6 ?_;refine KD.fork2 (x:=1) (y:=11) (o1:=[(2,3),(6,3),(7,3),(8,1),(9,1),(10,1),(11,2),(12,2),(13,0)]) (o2:=[(1,2),(2,2),(6,2),(7,2),(8,0),(9,0),(10,1),(12,2),(13,0)]) (by kernel_rfl) rfl rfl (by kernel_rfl) (by kernel_rfl) ?_ ?_
     ·refine zcM fun T hT=>?_;refine(CallV.part (CallV.fn (hCyc _ _)) ja).mono ?_;rintro _ _ ⟨rfl,rfl⟩;refine zg ?_;clear hT T;refine KD.fork2 (x:=2) (y:=11) (o1:=[(6,3),(7,3),(8,1),(9,1),(10,1),(11,2),(12,2),(13,0)]) (o2:=[(2,2),(6,2),(7,2),(8,0),(9,0),(10,1),(12,2),(13,0)]) (by kernel_rfl) rfl rfl (by kernel_rfl) (by kernel_rfl) ?_ ?_
      ·refine zcM fun T hT=>?_;refine(CallV.part (CallV.fn (hBd _ _ _ _ hR2)) ja).mono ?_;rintro _ _ ⟨rfl,rfl⟩;refine zg ?_;clear hT T;refine KD.fork2 (x:=6) (y:=11) (o1:=[(7,3),(8,1),(9,1),(10,1),(11,2),(12,2),(13,0)]) (o2:=[(6,2),(7,2),(8,0),(9,0),(10,1),(12,2),(13,0)]) (by kernel_rfl) rfl rfl (by kernel_rfl) (by kernel_rfl) ?_ ?_
       ·refine zcM fun T hT=>?_;refine(CallV.part (CallV.fn (hSo _ _ _ _ hR2)) ja).mono ?_;rintro _ _ ⟨rfl,rfl⟩;refine zg ?_;clear hT T;refine KD.fork2 (x:=7) (y:=11) (o1:=[(8,1),(9,1),(10,1),(11,2),(12,2),(13,0)]) (o2:=[(7,2),(8,0),(9,0),(10,1),(12,2),(13,0)]) (by kernel_rfl) rfl rfl (by kernel_rfl) (by kernel_rfl) ?_ ?_
        ·refine zcM fun T hT=>?_;refine(CallV.part (CallV.fn (hHe _ _ _ _ hR2)) ja).mono ?_;rintro _ _ ⟨rfl,rfl⟩;refine zg ?_;clear hT T;refine zH ?_;refine zfQ ?_;refine zfQ ?_;refine zb7 ?_;intro b12;refine zky ?_;refine zb0 ?_;exact KE.meet ⟨b12⟩ jj ja trivial
        ·(refine JK.e rfl (Eff.alloc rfl) ?_;rintro _ _ ⟨b12,rfl,rfl⟩;refine⟨ja,?_⟩)
         refine zl fun T hT=>?_;refine(CallV.part (CallV.fn (hHe _ _ _ _ hR2)) ja).mono ?_;rintro _ _ ⟨rfl,rfl⟩;refine zg ?_;clear hT T;refine zgO ?_;refine zfQ ?_;refine zky ?_;refine zb0 ?_;exact KE.meet ⟨b12⟩ jj ja trivial
       ·(refine JK.e rfl (Eff.alloc rfl) ?_;rintro _ _ ⟨b12,rfl,rfl⟩;refine⟨ja,?_⟩)
        refine zl fun T hT=>?_;refine(CallV.part (CallV.fn (hSo _ _ _ _ hR2)) ja).mono ?_;rintro _ _ ⟨rfl,rfl⟩;refine zg ?_;clear hT T;refine zl fun T hT=>?_;refine(CallV.part (CallV.fn (hHe _ _ _ _ hR2)) ja).mono ?_;rintro _ _ ⟨rfl,rfl⟩;refine zg ?_;clear hT T;refine zgO ?_;refine zfQ ?_;refine zky ?_;refine zb0 ?_;exact KE.meet ⟨b12⟩ jj ja trivial
      ·(refine JK.e rfl (Eff.alloc rfl) ?_;rintro _ _ ⟨b12,rfl,rfl⟩;refine⟨ja,?_⟩)
       refine zl fun T hT=>?_;refine(CallV.part (CallV.fn (hBd _ _ _ _ hR2)) ja).mono ?_;rintro _ _ ⟨rfl,rfl⟩;refine zg ?_;clear hT T;refine zl fun T hT=>?_;refine(CallV.part (CallV.fn (hSo _ _ _ _ hR2)) ja).mono ?_;rintro _ _ ⟨rfl,rfl⟩;refine zg ?_;clear hT T;refine zl fun T hT=>?_;refine(CallV.part (CallV.fn (hHe _ _ _ _ hR2)) ja).mono ?_;rintro _ _ ⟨rfl,rfl⟩;refine zg ?_;clear hT T;refine zgO ?_;refine zfQ ?_;refine zky ?_;refine zb0 ?_;exact KE.meet ⟨b12⟩ jj ja trivial
     ·(refine JK.e rfl (Eff.alloc rfl) ?_;rintro _ _ ⟨b12,rfl,rfl⟩;refine⟨ja,?_⟩)
      refine zl fun T hT=>?_;refine(CallV.part (CallV.fn (hCyc _ _)) ja).mono ?_;rintro _ _ ⟨rfl,rfl⟩;refine zg ?_;clear hT T;refine zl fun T hT=>?_;refine(CallV.part (CallV.fn (hBd _ _ _ _ hR2)) ja).mono ?_;rintro _ _ ⟨rfl,rfl⟩;refine zg ?_;clear hT T;refine zl fun T hT=>?_;refine(CallV.part (CallV.fn (hSo _ _ _ _ hR2)) ja).mono ?_;rintro _ _ ⟨rfl,rfl⟩;refine zg ?_;clear hT T;refine zl fun T hT=>?_;refine(CallV.part (CallV.fn (hHe _ _ _ _ hR2)) ja).mono ?_;rintro _ _ ⟨rfl,rfl⟩;refine zg ?_;clear hT T;refine zgO ?_;refine zfQ ?_;refine zky ?_;refine zb0 ?_;exact KE.meet ⟨b12⟩ jj ja trivial
    ·rintro⟨b12⟩ _;dsimp only
     by_cases hw0:hw=0
     ·have hw0':((hw:Nat):Int)=0:=by omega
      have he3:=write_out (C:=D.C) (h:=h2) (b:=0) (v:=xv) (i:=((hr:Nat):Int)+((ka:Nat):Int)) hs2 hyL hhd2 (by dsimp only;omega)
      obtain⟨⟨e,hh,w,addr,us3,si3,cy3,ac3⟩,h9,hv⟩: ∃ (q:SnP) (h9:HpP),hpDo D.C h2 ⟨3,wn,((hr:Nat):Int)+((ka:Nat):Int),0,xv⟩=(q,h9):=⟨_,_,rfl⟩
      rw[hv] at he3;simp only[hv] at hdo3;dsimp only at he3;subst he3;unfold opV snV HpQ at hdo3;dsimp only at hdo3;clear hv;refine zaA ?_;refine zaE ?_;refine zaR ?_;refine K.cutT (σ:=HwB2) [(5,_),(7,_),(10,_),(11,_),(12,_)] jj (fun s kp_=>(14, .pointer (some ⟨s.b,0,none⟩))::kp_) (fun s=>hpH D s.y h9++((s.b,cells [.int .i64 110, .int .u64 (hh:Nat), .int .u64 w, .int .i64 addr, .int .i64 us3, .int .i64 si3, .int .i64 cy3, .bool ac3] 42)::((b12,cells [.int .i64 hc, .int .i64 (hr:Nat), .int .i64 (hw:Nat)] 65)::((b11,cells [.int .i64 0, .int .u64 0, .int .u64 w1, .int .i64 (yy.addr:Nat), .int .i64 us, .int .i64 si, .int .i64 cy, .bool ac] 42)::(oH uE 33 tl otl++((b5,cells [.int .u8 (xc:Nat), .int .u64 (xh:Nat), .int .i64 xa, .int .i64 xb, .int .u64 (xv:Nat), .int .i64 xH, .int .i64 xV, .bool wk, .int .i64 xk, .int .u8 (xu:Nat)] 37)::(b3,cells [vc, .int .i64 page,vt, .int .i64 workers, .int .i64 grey, .int .i64 gens] 25)::F)))))) (fun s=>True) ?_ ?_
      ·skip
       refine zar ?_
       (first|refine K.seq (K.drawn ((b12,cells [.int .i64 hc, .int .i64 (hr:Nat), .int .i64 (hw:Nat)] 65)::((b11,cells [.int .i64 0, .int .u64 0, .int .u64 w1, .int .i64 (yy.addr:Nat), .int .i64 us, .int .i64 si, .int .i64 cy, .bool ac] 42)::((b5,cells [.int .u8 (xc:Nat), .int .u64 (xh:Nat), .int .i64 xa, .int .i64 xb, .int .u64 (xv:Nat), .int .i64 xH, .int .i64 xV, .bool wk, .int .i64 xk, .int .u8 (xu:Nat)] 37)::(b3,cells [vc, .int .i64 page,vt, .int .i64 workers, .int .i64 grey, .int .i64 gens] 25)::F))) [(0,1),(1,1),(2,1),(3,1),(4,1),(5,1),(6,1),(7,1),(8,1),(9,1),(10,1),(11,1),(12,1),(13,1),(14,1),(15,1),(16,3),(17,2),(18,2)] (by kernel_rfl) (by kernel_rfl) (by kernel_rfl) (by kernel_rfl) (by kernel_rfl) (by kernel_rfl) ja ?_)|refine K.seq (K.seq (K.drawn ((b12,cells [.int .i64 hc, .int .i64 (hr:Nat), .int .i64 (hw:Nat)] 65)::((b11,cells [.int .i64 0, .int .u64 0, .int .u64 w1, .int .i64 (yy.addr:Nat), .int .i64 us, .int .i64 si, .int .i64 cy, .bool ac] 42)::((b5,cells [.int .u8 (xc:Nat), .int .u64 (xh:Nat), .int .i64 xa, .int .i64 xb, .int .u64 (xv:Nat), .int .i64 xH, .int .i64 xV, .bool wk, .int .i64 xk, .int .u8 (xu:Nat)] 37)::(b3,cells [vc, .int .i64 page,vt, .int .i64 workers, .int .i64 grey, .int .i64 gens] 25)::F))) [(0,1),(1,1),(2,1),(3,1),(4,1),(5,1),(6,1),(7,1),(8,1),(9,1),(10,1),(11,1),(12,1),(13,1),(14,1),(15,1),(16,3),(17,2),(18,2)] (by kernel_rfl) (by kernel_rfl) (by kernel_rfl) (by kernel_rfl) (by kernel_rfl) (by kernel_rfl) ja ?_))|refine K.drawn ((b12,cells [.int .i64 hc, .int .i64 (hr:Nat), .int .i64 (hw:Nat)] 65)::((b11,cells [.int .i64 0, .int .u64 0, .int .u64 w1, .int .i64 (yy.addr:Nat), .int .i64 us, .int .i64 si, .int .i64 cy, .bool ac] 42)::((b5,cells [.int .u8 (xc:Nat), .int .u64 (xh:Nat), .int .i64 xa, .int .i64 xb, .int .u64 (xv:Nat), .int .i64 xH, .int .i64 xV, .bool wk, .int .i64 xk, .int .u8 (xu:Nat)] 37)::(b3,cells [vc, .int .i64 page,vt, .int .i64 workers, .int .i64 grey, .int .i64 gens] 25)::F))) [(0,1),(1,1),(2,1),(3,1),(4,1),(5,1),(6,1),(7,1),(8,1),(9,1),(10,1),(11,1),(12,1),(13,1),(14,1),(15,1),(16,3),(17,2),(18,2)] (by kernel_rfl) (by kernel_rfl) (by kernel_rfl) (by kernel_rfl) (by kernel_rfl) (by kernel_rfl) ja ?_)
       refine zH ?_;refine zH ?_;refine zlZ ?_;refine zc6 ?_;refine zjo ?_;refine zc6 ?_;refine KD.v1 rfl rfl (Val.max rfl rfl) ?_;refine zjy ?_;refine zc6 ?_;refine KD.v1 rfl rfl (Val.max rfl rfl) ?_
       (first|refine KD.v1 rfl rfl (Val.remN rfl rfl (by omega)) ?_|refine KD.v1 rfl rfl (Val.rem rfl rfl (by omega)) ?_)
       (first|refine KD.v1 rfl rfl (Val.add rfl rfl (by simp only[qL,qH];omega)) ?_|refine KD.v1 rfl rfl (Val.addW rfl rfl) ?_)
       refine zlN ?_
       (first|refine KD.v1 rfl rfl (Val.fieldSl (k:=4) rfl rfl) ?_|refine KD.v1 rfl rfl (Val.fieldAddr0 (k:=4) rfl rfl) ?_|refine KD.v1 rfl rfl (Val.fieldAddrZ rfl rfl) ?_|refine KD.v1 rfl rfl (Val.fieldAddr (k:=4) rfl rfl) ?_)
       refine zc6 ?_;refine KD.v1 rfl rfl (Val.build jei rfl rfl jeq) ?_
       --FORK at region 14:[(16,3),(17,2),(18,2)]
       refine KD.fork2 (x:=16) (y:=17) (o1:=[(17,2),(18,2)]) (o2:=[(16,2),(18,2)]) (by kernel_rfl) rfl rfl (by kernel_rfl) (by kernel_rfl) ?_ ?_
       ·refine zcM fun T hT=>?_;rw[eka];refine(CallV.part (CallV.fn (hdo3 _ _ _ hR2 (by omega))) ja).mono ?_;rintro _ _ ⟨rfl,y3,hR3,rfl⟩;refine zg ?_;clear hT T;refine zb7 ?_;intro b14;refine zmH ?_;exact KE.meet ⟨b14,y3⟩ jj ja trivial
       ·(refine JK.e rfl (Eff.alloc rfl) ?_;rintro _ _ ⟨b14,rfl,rfl⟩;refine⟨ja,?_⟩)
        refine zl fun T hT=>?_;rw[eka];refine(CallV.part (CallV.fn (hdo3 _ _ _ hR2 (by omega))) ja).mono ?_;rintro _ _ ⟨rfl,y3,hR3,rfl⟩;refine zg ?_;clear hT T;refine zmH ?_;exact KE.meet ⟨b14,y3⟩ jj ja trivial
      ·rintro⟨b14,y3⟩ _;dsimp only;refine zc3 ?_;refine zI ?_;refine zJ ?_;refine zac ?_;refine zB ?_;refine zJ ?_;refine zL ?_;refine zn ?_;refine zdb ?_;refine zcE ?_;refine zbE ?_;exact zZ
     ·have hwp: ¬((hw:Nat):Int)=0:=by omega
      have hkw:ka<hw:=by split at hkal<;>omega
      have eka2:(if xV<0 then 0 else xV)%((hw:Nat):Int)=((ka:Nat):Int):=by
       rw[if_neg (show ¬((hw:Nat):Int)<1 by omega)] at eka;exact eka
      obtain⟨he3,hv3⟩:=jiS (C:=D.C) (h:=h2) (b:=0) (v:=xv) (i:=((hr:Nat):Int)+((ka:Nat):Int)) hs2 hyL hhd2 (by dsimp only;omega) (by dsimp only;omega)
      obtain⟨w3,w4,w5⟩:=jiT (v:=xv) (i:=((hr:Nat):Int)+((ka:Nat):Int)) hC hSt2.I hyL hhd2 (by dsimp only;omega) (by dsimp only;omega)
      have hSt3:=hSt2.do_ hC hok3
      have hh3:=write_h (C:=D.C) (h:=h2) (b:=0) (v:=xv) (i:=((hr:Nat):Int)+((ka:Nat):Int)) hs2 hyL he3
      obtain⟨⟨e,hh,w,addr,us3,si3,cy3,ac3⟩,h9,hv⟩: ∃ (q:SnP) (h9:HpP),hpDo D.C h2 ⟨3,wn,((hr:Nat):Int)+((ka:Nat):Int),0,xv⟩=(q,h9):=⟨_,_,rfl⟩
      rw[hv] at he3 hv3 hSt3 hh3;simp only[hv] at hdo3;dsimp only at he3 hv3 hSt3 hh3
      obtain⟨hh3,hw3,ha3⟩:=hh3
      subst he3 hh3 hw3 ha3
      have hs9:hpSlot D.C.tn h9.s.W.T wn=some ((j:Nat):Int):=by rw[hv3];show hpSlot D.C.tn (JT D.C.g h2.s _ _ _).W.T _=_;rw [w3];exact hs2
      have hhd9:headP h9.s.W.x yy=some ⟨hc,((hr:Nat):Int),((hw:Nat):Int)⟩:=by rw[hv3];exact w4
      have hwa9:wAt h9.s.W.x (fAt yy (((hr:Nat):Int)+((ka:Nat):Int)))=((xv:Nat):Int):=by rw[hv3];exact w5
      have hwk9:({h9 with wk:=0}:HpP)=h9:=by rw[hv3]
      clear hv hv3 w3 w4 w5;unfold opV snV HpQ at hdo3;dsimp only at hdo3
      have hrd:=fun(k:Nat) (h1:k<hw)=>read_word (C:=D.C) (h:=h9) (b:=0) (v:=0) (i:=((hr:Nat):Int)+((k:Nat):Int)) hs9 hyL hhd9 (by dsimp only;omega) (by dsimp only;omega)
      have hf9:=fold_some (C:=D.C) (h:=h9) (a:=0) (b:=0) (v:=0) hs9 hyL
      have hwl9:jaG h9.s.W.x yy=wdR h9.s.W.x yy hr hw:=wordsX_at hhd9
      rw[hwk9,hwl9] at hf9
      have hwd9:=hSt3.I.ok.w.w
      have hwb9: ∀ z∈wdR h9.s.W.x yy hr hw,0≤z∧z<18446744073709551616:=fun z hz=>by
       obtain⟨i,_,rfl⟩:=List.mem_map.1 hz
       exact hwd9.at_ _
      have hSm:=fun A v (hS:Sli w0 A uE v (wdR h9.s.W.x yy hr hw))=>RSum_K (w0:=w0) (H:=A) hS (by rw[wdR_len];omega) hwb9
      refine zaA ?_;refine zaE ?_;refine zaR ?_;refine K.cutT (σ:=HwB2) [(5,_),(7,_),(10,_),(11,_),(12,_)] jj (fun s kp_=>(14, .pointer (some ⟨s.b,0,none⟩))::kp_) (fun s=>hpH D s.y h9++((s.b,cells [.int .i64 0, .int .u64 0, .int .u64 0, .int .i64 (yy.addr:Nat), .int .i64 us3, .int .i64 si3, .int .i64 cy3, .bool ac3] 42)::((b12,cells [.int .i64 hc, .int .i64 (hr:Nat), .int .i64 (hw:Nat)] 65)::((b11,cells [.int .i64 0, .int .u64 0, .int .u64 w1, .int .i64 (yy.addr:Nat), .int .i64 us, .int .i64 si, .int .i64 cy, .bool ac] 42)::(oH uE 33 tl otl++((b5,cells [.int .u8 (xc:Nat), .int .u64 (xh:Nat), .int .i64 xa, .int .i64 xb, .int .u64 (xv:Nat), .int .i64 xH, .int .i64 xV, .bool wk, .int .i64 xk, .int .u8 (xu:Nat)] 37)::(b3,cells [vc, .int .i64 page,vt, .int .i64 workers, .int .i64 grey, .int .i64 gens] 25)::F)))))) (fun s=>HpR D (f1+2+2) 400000000 s.y h9) ?_ ?_
      ·skip
       refine zar ?_
       (first|refine K.seq (K.drawn ((b12,cells [.int .i64 hc, .int .i64 (hr:Nat), .int .i64 (hw:Nat)] 65)::((b11,cells [.int .i64 0, .int .u64 0, .int .u64 w1, .int .i64 (yy.addr:Nat), .int .i64 us, .int .i64 si, .int .i64 cy, .bool ac] 42)::((b5,cells [.int .u8 (xc:Nat), .int .u64 (xh:Nat), .int .i64 xa, .int .i64 xb, .int .u64 (xv:Nat), .int .i64 xH, .int .i64 xV, .bool wk, .int .i64 xk, .int .u8 (xu:Nat)] 37)::(b3,cells [vc, .int .i64 page,vt, .int .i64 workers, .int .i64 grey, .int .i64 gens] 25)::F))) [(0,1),(1,1),(2,1),(3,1),(4,1),(5,1),(6,1),(7,1),(8,1),(9,1),(10,1),(11,1),(12,1),(13,1),(14,1),(15,1),(16,3),(17,2),(18,2)] (by kernel_rfl) (by kernel_rfl) (by kernel_rfl) (by kernel_rfl) (by kernel_rfl) (by kernel_rfl) ja ?_)|refine K.seq (K.seq (K.drawn ((b12,cells [.int .i64 hc, .int .i64 (hr:Nat), .int .i64 (hw:Nat)] 65)::((b11,cells [.int .i64 0, .int .u64 0, .int .u64 w1, .int .i64 (yy.addr:Nat), .int .i64 us, .int .i64 si, .int .i64 cy, .bool ac] 42)::((b5,cells [.int .u8 (xc:Nat), .int .u64 (xh:Nat), .int .i64 xa, .int .i64 xb, .int .u64 (xv:Nat), .int .i64 xH, .int .i64 xV, .bool wk, .int .i64 xk, .int .u8 (xu:Nat)] 37)::(b3,cells [vc, .int .i64 page,vt, .int .i64 workers, .int .i64 grey, .int .i64 gens] 25)::F))) [(0,1),(1,1),(2,1),(3,1),(4,1),(5,1),(6,1),(7,1),(8,1),(9,1),(10,1),(11,1),(12,1),(13,1),(14,1),(15,1),(16,3),(17,2),(18,2)] (by kernel_rfl) (by kernel_rfl) (by kernel_rfl) (by kernel_rfl) (by kernel_rfl) (by kernel_rfl) ja ?_))|refine K.drawn ((b12,cells [.int .i64 hc, .int .i64 (hr:Nat), .int .i64 (hw:Nat)] 65)::((b11,cells [.int .i64 0, .int .u64 0, .int .u64 w1, .int .i64 (yy.addr:Nat), .int .i64 us, .int .i64 si, .int .i64 cy, .bool ac] 42)::((b5,cells [.int .u8 (xc:Nat), .int .u64 (xh:Nat), .int .i64 xa, .int .i64 xb, .int .u64 (xv:Nat), .int .i64 xH, .int .i64 xV, .bool wk, .int .i64 xk, .int .u8 (xu:Nat)] 37)::(b3,cells [vc, .int .i64 page,vt, .int .i64 workers, .int .i64 grey, .int .i64 gens] 25)::F))) [(0,1),(1,1),(2,1),(3,1),(4,1),(5,1),(6,1),(7,1),(8,1),(9,1),(10,1),(11,1),(12,1),(13,1),(14,1),(15,1),(16,3),(17,2),(18,2)] (by kernel_rfl) (by kernel_rfl) (by kernel_rfl) (by kernel_rfl) (by kernel_rfl) (by kernel_rfl) ja ?_)
       refine zH ?_;refine zH ?_;refine zlZ ?_;refine zc6 ?_;refine zjo ?_;refine zc6 ?_;refine KD.v1 rfl rfl (Val.max rfl rfl) ?_;refine zjy ?_;refine zc6 ?_;refine KD.v1 rfl rfl (Val.max rfl rfl) ?_
       (first|refine KD.v1 rfl rfl (Val.remN rfl rfl (by omega)) ?_|refine KD.v1 rfl rfl (Val.rem rfl rfl (by omega)) ?_)
       (first|refine KD.v1 rfl rfl (Val.add rfl rfl (by simp only[qL,qH];omega)) ?_|refine KD.v1 rfl rfl (Val.addW rfl rfl) ?_)
       refine zlN ?_
       (first|refine KD.v1 rfl rfl (Val.fieldSl (k:=4) rfl rfl) ?_|refine KD.v1 rfl rfl (Val.fieldAddr0 (k:=4) rfl rfl) ?_|refine KD.v1 rfl rfl (Val.fieldAddrZ rfl rfl) ?_|refine KD.v1 rfl rfl (Val.fieldAddr (k:=4) rfl rfl) ?_)
       refine zc6 ?_;refine KD.v1 rfl rfl (Val.build jei rfl rfl jeq) ?_
       --FORK at region 14:[(16,3),(17,2),(18,2)]
       refine KD.fork2 (x:=16) (y:=17) (o1:=[(17,2),(18,2)]) (o2:=[(16,2),(18,2)]) (by kernel_rfl) rfl rfl (by kernel_rfl) (by kernel_rfl) ?_ ?_
       ·refine zcM fun T hT=>?_;rw[eka];refine(CallV.part (CallV.fn (hdo3 _ _ _ hR2 (by omega))) ja).mono ?_;rintro _ _ ⟨rfl,y3,hR3,rfl⟩;refine zg ?_;clear hT T;refine zb7 ?_;intro b14;refine zmH ?_;exact KE.meet ⟨b14,y3⟩ jj ja hR3
       ·(refine JK.e rfl (Eff.alloc rfl) ?_;rintro _ _ ⟨b14,rfl,rfl⟩;refine⟨ja,?_⟩)
        refine zl fun T hT=>?_;rw[eka];refine(CallV.part (CallV.fn (hdo3 _ _ _ hR2 (by omega))) ja).mono ?_;rintro _ _ ⟨rfl,y3,hR3,rfl⟩;refine zg ?_;clear hT T;refine zmH ?_;exact KE.meet ⟨b14,y3⟩ jj ja hR3
      ·rintro⟨b14,y3⟩ hR3;dsimp only at hR3⊢;refine zc3 ?_;refine zI ?_;refine zG ?_;refine zz ?_;refine zcn ?_;refine K.loopT (σ:=HwL) [(5,_),(7,_),(10,_),(11,_),(12,_),(14,_)] (fun s kp_=>(16, .int .i64 (s.k:Nat))::(15,oV s.o (wdR h9.s.W.x yy hr s.k).length)::kp_) (fun s=>hpH D s.y h9++(oH uE 33 (wdR h9.s.W.x yy hr s.k) s.o++((b14,cells [.int .i64 0, .int .u64 0, .int .u64 0, .int .i64 (yy.addr:Nat), .int .i64 us3, .int .i64 si3, .int .i64 cy3, .bool ac3] 42)::((b12,cells [.int .i64 hc, .int .i64 (hr:Nat), .int .i64 (hw:Nat)] 65)::((b11,cells [.int .i64 0, .int .u64 0, .int .u64 w1, .int .i64 (yy.addr:Nat), .int .i64 us, .int .i64 si, .int .i64 cy, .bool ac] 42)::((b5,cells [.int .u8 (xc:Nat), .int .u64 (xh:Nat), .int .i64 xa, .int .i64 xb, .int .u64 (xv:Nat), .int .i64 xH, .int .i64 xV, .bool wk, .int .i64 xk, .int .u8 (xu:Nat)] 37)::(b3,cells [vc, .int .i64 page,vt, .int .i64 workers, .int .i64 grey, .int .i64 gens] 25)::F)))))) (fun s=>s.k≤hw∧HpR D s.f 400000000 s.y h9∧s.f≤f1+4+s.k*2∧oOk uE (wdR h9.s.W.x yy hr s.k) s.o) (fun s=>hw-s.k) (⟨0,f1+2+2,y3,h9,none⟩) jj ja (⟨Nat.zero_le _,hR3,Nat.le_refl _,rfl⟩) ?_;rintro⟨k,f,y4,_,o⟩ ⟨hk,hR4,hf4,ko⟩;dsimp only at hk hR4 hf4 ko⊢
       have hwdl:=wdR_len (x:=h9.s.W.x) (y:=yy) (r:=hr) (k:=k)
       by_cases hc1:k<hw
       ·have hc1':((k:Nat):Int)<((hw:Nat):Int):=by omega
        obtain⟨r1,r2,r3,r4⟩:=hrd k hc1
        have hokr:=hok7 2 (by decide) (((hr:Nat):Int)+((k:Nat):Int))
        have hdo2:=fun A=>jcf (w0:=w0) (F:=A) hG hD hSt3.I hR4 (by omega) hokr
        obtain⟨⟨e6,hh6,w6,addr6,us6,si6,cy6,ac6⟩,h8,hv⟩: ∃ (q:SnP) (h8:HpP),hpDo D.C h9 ⟨2,wn,((hr:Nat):Int)+((k:Nat):Int),0,0⟩=(q,h8):=⟨_,_,rfl⟩
        rw[hv] at r1 r2 r3 r4;simp only[hv] at hdo2;dsimp only at r1 r2 r3 r4;rw[hwk9] at r4;subst r1 r2 r3 r4;unfold opV snV HpQ at hdo2;dsimp only at hdo2;clear hv
        obtain⟨ww,hww⟩: ∃ q,wAt h8.s.W.x (fAt yy (((hr:Nat):Int)+((k:Nat):Int)))=q:=⟨_,rfl⟩
        simp only[hww] at hdo2
        have hnx:=wdR_next (x:=h8.s.W.x) (y:=yy) (r:=hr) (k:=k)
        rw[hww] at hnx
        have hbd:(wdR h8.s.W.x yy hr k++ [ww]).length≤4294967296:=by rw[hnx,wdR_len];omega
        have hnw0: ¬((hw:Nat):Int)= -1:=by omega
        by_cases hkk:k=ka
        ·subst hkk;rw[hwa9] at hww;subst hww;refine zaA ?_;refine zI ?_;refine zab ?_;refine zbc ?_;refine zm ?_;refine zF ?_;refine zbZ ?_;refine zM ?_;refine zn ?_;refine j4 (hdo2 _) ja ?_;rintro _ _ ⟨rfl,y5,hR5,rfl⟩;refine zgM ?_;intro b17;refine zaE ?_;refine zL ?_;refine zbh ?_;refine zed ?_;refine zA ?_;refine zbI ?_;refine zai ?_;refine KL.v rfl (Val.max rfl rfl) ?_;refine zi ?_;refine zeA ?_;refine KL.v rfl (Val.remN rfl rfl (by omega)) ?_;refine zi ?_;refine zJ ?_;refine zeC ?_;refine zeA ?_;refine zaZ ?_;refine zi ?_;refine zah ?_;refine zai ?_;refine zaE ?_;refine zi ?_;refine zw ?_;refine zC ?_;refine zj9 ?_;refine ze ?_;refine zI ?_;refine zaj ?_;intro b138;refine KL.e rfl (Eff.appZ (ys:=[_]) rfl rfl rfl rfl rfl rfl jn (by assumption) (by first|exact Sli.blk jF rfl (by first|decide|simp) (by first|decide|(unfold maxLen;omega)) rfl|exact Sli.old (by assumption)|exact Sli.own jn (by assumption) j6|assumption|exact Sli.part (by assumption) ja) rfl (by first|assumption|omega|(simp<;>fail)|(simp;omega)) rfl) ?_;rintro _ _ ⟨o139,ok139,rfl,rfl⟩;refine zgV ?_;rw[hnx] at ok139;exact KE.again ⟨k+1,f+2,y5,h8,o139⟩ (by rw[←hnx];exact jj) (by rw[←hnx];exact ja) ⟨hc1,hR5,(by show f+2≤f1+4+(k+1)*2;omega),ok139⟩ (by show hw-(k+1)<hw-k;omega)
        ·have hkn: ¬((k:Nat):Int)=(if xV<0 then 0 else xV)%((hw:Nat):Int):=by rw[eka2];omega
         refine zaA ?_;refine zI ?_;refine zab ?_;refine zbc ?_;refine zm ?_;refine zF ?_;refine zbZ ?_;refine zM ?_;refine zn ?_;refine j4 (hdo2 _) ja ?_;rintro _ _ ⟨rfl,y5,hR5,rfl⟩;refine zgM ?_;intro b17;refine zaE ?_;refine zL ?_;refine zbh ?_;refine zed ?_;refine zA ?_;refine zbI ?_;refine zai ?_;refine KL.v rfl (Val.max rfl rfl) ?_;refine zi ?_;refine zeA ?_;refine KL.v rfl (Val.remN rfl rfl (by omega)) ?_;refine zi ?_;refine zG ?_;refine zi ?_;refine zdZ ?_;refine zi ?_;refine zC ?_;refine zC ?_;refine zj9 ?_;refine ze ?_;refine zI ?_;refine zaj ?_;intro b138;refine KL.e rfl (Eff.appZ (ys:=[_]) rfl rfl rfl rfl rfl rfl jn (by assumption) (by first|exact Sli.blk jF rfl (by first|decide|simp) (by first|decide|(unfold maxLen;omega)) rfl|exact Sli.old (by assumption)|exact Sli.own jn (by assumption) j6|assumption|exact Sli.part (by assumption) ja) rfl (by first|assumption|omega|(simp<;>fail)|(simp;omega)) rfl) ?_;rintro _ _ ⟨o139,ok139,rfl,rfl⟩;refine zgV ?_;rw[hnx] at ok139;exact KE.again ⟨k+1,f+2,y5,h8,o139⟩ (by rw[←hnx];exact jj) (by rw[←hnx];exact ja) ⟨hc1,hR5,(by show f+2≤f1+4+(k+1)*2;omega),ok139⟩ (by show hw-(k+1)<hw-k;omega)
       ·have hc1': ¬((k:Nat):Int)<((hw:Nat):Int):=by omega
        obtain rfl:k=hw:=by omega
        have hdo7:=fun A=>jcf (w0:=w0) (F:=A) hG hD hSt3.I hR4 (by omega) (hok7 7 (by decide) 0)
        simp only[hf9] at hdo7;unfold opV HpQ ja1 snV at hdo7;dsimp only at hdo7;unfold told at hdo7;dsimp only at hdo7;refine zaA ?_;refine zI ?_;refine zT ?_;refine zdh ?_;refine zm ?_;refine zM ?_;refine zn ?_;refine j4 (hdo7 _) ja ?_;rintro _ _ ⟨rfl,y5,hR5,rfl⟩;refine zfd ?_;intro b18;refine zcK ?_;refine K.drawn _ [(0,0),(1,0),(2,0),(3,0),(4,1),(5,1),(6,0),(7,2),(8,0),(9,0),(10,0),(11,0),(12,0),(13,0),(14,0),(15,0),(16,0),(17,0),(18,2),(19,0),(20,0)] (by kernel_rfl) (by kernel_rfl) (by kernel_rfl) (by kernel_rfl) (by kernel_rfl) (by kernel_rfl) Part.all ?_;refine zdf ?_;refine zha ?_;refine zj ?_;refine KD.y1 rfl rfl rfl rfl (Val.fieldAddr0 (k:=2) rfl rfl) ?_;refine zhc ?_;refine zbt ?_;refine zcb fun T hT=>?_;refine(CallV.fn (hSm _ _ (Sli.own jn ko rfl))).mono ?_;rintro _ _ ⟨rfl,rfl⟩;refine zg ?_;clear hT T;refine zkp ?_;refine zem ?_;refine zj ?_;refine KD.y0 rfl rfl rfl rfl (Val.fieldAddr0 (k:=3) rfl rfl) ?_;refine zao ?_;refine KD.y0 rfl rfl rfl rfl (Val.fieldAddr0 (k:=3) rfl rfl) ?_;refine zao ?_;refine zkp ?_;refine zem ?_;refine zj ?_;refine zcb fun T hT=>?_;refine(CallV.fn (haw _)).mono ?_;rintro _ _ ⟨rfl,rfl⟩;refine zg ?_;clear hT T;refine zem ?_;refine zaV ?_;exact zZ
end
end Go.Proofs.YtpcgafhgfjlkmaaGreatDoor.Sw
