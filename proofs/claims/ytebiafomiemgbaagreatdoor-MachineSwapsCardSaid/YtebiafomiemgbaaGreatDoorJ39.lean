/-The walker and the contracts that the law needs,part 39. -/
import Derived.Test.YtebiafomiemgbaaGreatDoorJ36
import Derived.Test.YtebiafomiemgbaaGreatDoorJ38
set_option linter.unusedVariables false set_option linter.unusedSimpArgs false set_option linter.unusedVariables false
set_option linter.unusedSimpArgs false
namespace Go.Proofs.YtebiafomiemgbaaGreatDoor.Sw
set_option maxHeartbeats 8000000
open Go.Proofs.YtebiafomiemgbaaGreatDoor renaming lo → qL, hi → qH
open Go.RowKit
set_option maxRecDepth 10000
set_option maxRecDepth 10000
set_option maxRecDepth 10000
set_option maxRecDepth 10000
section
variable {w0 : World} {D : HpD} {nf nk n : Nat} {y y' : CyM} {h : HpP} {s s' : CyP} {F G : jb} {op : OpP} {z : jq}
theorem jmo (hG:ji w0) (hD:HpDok D) (hI:HeI D.C h) (h1:HpR D nf 0 y h) (hf:nf≤900000) (ho:JJ op) (hc:op.c=1):Call Tryz.prog w0 86 [.pointer (some ⟨D.b,0,none⟩),opV op] (hpH D y h++F) (fun r H'=>r=snV (jD D.C h op).1∧HpQ D (nf+2) 400000000 (jD D.C h op).2 F H'):=by
 have htold:=fun A (e:Int)=>jbE (w0:=w0) (H:=A) (e:=e)
 have hopers:=fun A=>jd9 (w0:=w0) (H:=A)
 unfold opsL at hopers
 have hsl:=fun A=>jd6 (w0:=w0) (F:=A) ho.h h1
 unfold jD;rw[if_neg (by omega),if_pos hc]
 have hO:=fun A (sl:Int)=>jeT (nf':=nf+2) (nk':=400000000) (by omega) (by omega) (hpalloc_K (w0:=w0) (F:=A) (op:=op) (sl:=sl) hG hD hI h1 hf)
 have hc2:((op.c:Nat):Int)=1:=by omega
 obtain⟨⟨e,hh,w,addr,us,si,cy,ac⟩,h9,hv⟩: ∃ (q:SnP) (h9:HpP),Jn D.C h op.a op.b=(q,h9):=⟨_,_,rfl⟩
 rw[hv] at hO⊢;dsimp only at hO⊢;unfold HpQ;unfold opV snV at hO;unfold opV;simp only[hc2] at hO;rw[hc2]
 obtain⟨sl,hsl1⟩: ∃ sl,(hpSlot D.C.tn h.s.W.T op.h).getD 0=sl:=⟨_,rfl⟩
 obtain⟨bb,hsl2⟩: ∃ bb,(hpSlot D.C.tn h.s.W.T op.h).isSome=bb:=⟨_,rfl⟩
 simp only[hsl1,hsl2] at hsl;refine zpP ?_;intro b3 b4 b5;refine ztz ?_;refine zY ?_;refine zU ?_;refine K.cutT (σ:=Unit) [(0,_),(3,_),(4,_),(5,_)] jc (fun s kp_=>(6, .int .i64 sl)::kp_) (fun s=>hpH D y h++((b3,cells [.int .u8 1, .int .u64 (op.h:Nat), .int .i64 op.a, .int .i64 op.b, .int .u64 (op.v:Nat)] 36)::(b5,cells [.nilFunc, .func (.func 153) #[] #[], .func (.func 154) #[] #[], .func (.func 155) #[] #[], .func (.func 156) #[] #[], .func (.func 157) #[] #[], .func (.func 158) #[] #[], .func (.func 159) #[] #[]] 199)::(b4,cells [.int .i64 0, .int .u64 0, .int .u64 0, .int .i64 0, .int .i64 0, .int .i64 0, .int .i64 0, .bool false] 43)::F)) (fun s=>True) ?_ ?_
 ·cases bb with
  |false=>
   refine zaH ?_;refine zag ?_;refine zaV ?_;refine zaj ?_;refine zA ?_;refine zat ?_;exact zkx
  |true=>
   refine zaH ?_;refine zy ?_;refine zbg ?_;refine zat ?_;exact zkx
 ·rintro⟨⟩-
  skip
  refine K.cutT (σ:=DsS) [(0,_),(3,_),(4,_)] jc (fun s kp_=>(6, .int .i64 sl)::(8, .pointer (some ⟨s.b,0,none⟩))::kp_) (fun s=>hpH D s.y h9++((s.b,cells [.int .i64 e, .int .u64 (hh:Nat), .int .u64 w, .int .i64 addr, .int .i64 us, .int .i64 si, .int .i64 cy, .bool ac] 43)::(b3,cells [.int .u8 1, .int .u64 (op.h:Nat), .int .i64 op.a, .int .i64 op.b, .int .u64 (op.v:Nat)] 36)::(b4,cells [.int .i64 0, .int .u64 0, .int .u64 0, .int .i64 0, .int .i64 0, .int .i64 0, .int .i64 0, .bool false] 43)::F)) (fun s=>HpR D (nf+2) 400000000 s.y h9) ?_ ?_
  ·refine zJ ?_
   (first|refine K.seq (K.drawn ((b3,cells [.int .u8 1, .int .u64 (op.h:Nat), .int .i64 op.a, .int .i64 op.b, .int .u64 (op.v:Nat)] 36)::(b5,cells [.nilFunc, .func (.func 153) #[] #[], .func (.func 154) #[] #[], .func (.func 155) #[] #[], .func (.func 156) #[] #[], .func (.func 157) #[] #[], .func (.func 158) #[] #[], .func (.func 159) #[] #[]] 199)::F) [(0,1),(1,1),(2,1),(3,1),(4,1),(5,1),(6,1),(7,3),(8,2),(9,2)] (by kernel_rfl) (by kernel_rfl) (by kernel_rfl) (by kernel_rfl) (by kernel_rfl) (by kernel_rfl) ja ?_)|refine K.seq (K.seq (K.drawn ((b3,cells [.int .u8 1, .int .u64 (op.h:Nat), .int .i64 op.a, .int .i64 op.b, .int .u64 (op.v:Nat)] 36)::(b5,cells [.nilFunc, .func (.func 153) #[] #[], .func (.func 154) #[] #[], .func (.func 155) #[] #[], .func (.func 156) #[] #[], .func (.func 157) #[] #[], .func (.func 158) #[] #[], .func (.func 159) #[] #[]] 199)::F) [(0,1),(1,1),(2,1),(3,1),(4,1),(5,1),(6,1),(7,3),(8,2),(9,2)] (by kernel_rfl) (by kernel_rfl) (by kernel_rfl) (by kernel_rfl) (by kernel_rfl) (by kernel_rfl) ja ?_))|refine K.drawn ((b3,cells [.int .u8 1, .int .u64 (op.h:Nat), .int .i64 op.a, .int .i64 op.b, .int .u64 (op.v:Nat)] 36)::(b5,cells [.nilFunc, .func (.func 153) #[] #[], .func (.func 154) #[] #[], .func (.func 155) #[] #[], .func (.func 156) #[] #[], .func (.func 157) #[] #[], .func (.func 158) #[] #[], .func (.func 159) #[] #[]] 199)::F) [(0,1),(1,1),(2,1),(3,1),(4,1),(5,1),(6,1),(7,3),(8,2),(9,2)] (by rfl) (by rfl) (by kernel_rfl) (by rfl) (by rfl) (by rfl) ja ?_)
   refine zcP ?_;refine zjc ?_;refine zeK ?_;refine zih ?_
   --FORK at region 7:[(7,3),(8,2),(9,2)]
   refine KD.fork2 (x:=7) (y:=8) (o1:=[(8,2),(9,2)]) (o2:=[(7,2),(9,2)]) (by kernel_rfl) rfl rfl (by kernel_rfl) (by kernel_rfl) ?_ ?_
   ·refine zT fun T hT=>?_;refine(CallV.part (CallV.fn (hO _ _)) ja).mono ?_;rintro _ _ ⟨rfl,y1,h2,rfl⟩;refine zi ?_;clear hT T;refine zdd ?_;intro b8;exact zdv
   ·(refine jP.e rfl (Eff.alloc rfl) ?_;rintro _ _ ⟨b8,rfl,rfl⟩;refine⟨ja,?_⟩)
    refine zk fun T hT=>?_;refine(CallV.part (CallV.fn (hO _ _)) ja).mono ?_;rintro _ _ ⟨rfl,y1,h2,rfl⟩;refine zi ?_;clear hT T;refine zbJ ?_;exact zdv
  ·rintro⟨y1,b8⟩ h2;dsimp only at h2⊢;refine zdo ?_;refine zN ?_;refine zaj ?_;refine zK ?_;refine zpw ?_;exact KE.fin je rfl jd ja ⟨rfl,y1,h2,rfl⟩
theorem doesBad_K (h1:HpR D nf 0 y h) (ho:JJ op) (hc:op.c<1∨7<op.c):Call Tryz.prog w0 86 [.pointer (some ⟨D.b,0,none⟩),opV op] (hpH D y h++F) (fun r H'=>r=snV (jD D.C h op).1∧HpQ D (nf+2) 400000000 (jD D.C h op).2 F H'):=by
 have htold:=fun A (e:Int)=>jbE (w0:=w0) (H:=A) (e:=e)
 have hopers:=fun A=>jd9 (w0:=w0) (H:=A)
 unfold opsL at hopers
 have hoc:=ho.c
 unfold jD;rw[if_pos hc];unfold HpQ;unfold opV
 rcases hc with hc|hc
 ·have hc2:((op.c:Nat):Int)=0:=by omega
  rw[hc2];refine zpP ?_;intro b3 b4 b5;refine zty ?_;refine KL.v rfl (Val.eqlFN rfl rfl rfl) ?_;refine za8 ?_;exact zhr
 ·have hc2:((op.c:Nat):Int)≥8:=by omega
  have hc3:0≤((op.c:Nat):Int)∧((op.c:Nat):Int)<256:=by omega
  refine zpP ?_;intro b3 b4 b5;refine zaT ?_;refine zac ?_;refine zcD ?_;refine zbh ?_;exact zhr
theorem does_K (hG:ji w0) (hD:HpDok D) (hI:HeI D.C h) (h1:HpR D nf 0 y h) (hf:nf≤900000) (ho:JJ op):Call Tryz.prog w0 86 [.pointer (some ⟨D.b,0,none⟩),opV op] (hpH D y h++F) (fun r H'=>r=snV (jD D.C h op).1∧HpQ D (nf+2) 400000000 (jD D.C h op).2 F H'):=by
 have hoc:op.c=1∨op.c=2∨op.c=3∨op.c=4∨op.c=5∨op.c=6∨op.c=7∨(op.c<1∨7<op.c):=by omega
 rcases hoc with hc|hc|hc|hc|hc|hc|hc|hc
 ·exact jmo hG hD hI h1 hf ho hc
 ·exact doesRead_K hG hD hI h1 hf ho hc
 ·exact jmn hG hD hI h1 hf ho hc
 ·exact doesRoot_K hG hD hI h1 hf ho hc
 ·exact jl6 hG hD hI h1 hf ho hc
 ·exact doesDrop_K hG hD hI h1 hf ho hc
 ·exact doesFold_K hG hD hI h1 hf ho hc
 ·exact doesBad_K h1 ho hc
theorem min_is (n:Nat):(if (2147483647:Int)<((n:Nat):Int) then 2147483647 else((n:Nat):Int))=((min n 2147483647:Nat):Int):=by
 omega
set_option maxHeartbeats 1000000 in
theorem hpDo_K (hG:ji w0) (hD:HpDok D) (hI:HeI D.C h) (h1:HpR D nf nk y h) (hf:nf≤900000) (ho:JJ op):Call Tryz.prog w0 54 [.pointer (some ⟨D.b,0,none⟩),opV op] (hpH D y h++F) (fun r H'=>r=snV (jS D.C h op).1∧HpQ D (nf+2) 400000000 (jS D.C h op).2 F H'):=by
 have hC:=hD.C
 have hI0:HeI D.C {h with wk:=0}:=hI.mvs hC (HpMv.one (wr:=true) (.free rfl fun h=>h))
 have h10:HpR D nf 0 y {h with wk:=0}:=h1.wk (n:=0) (Nat.le_refl 0)
 have hnone:=fun A=>jiM (w0:=w0) (D:=D) (y:=y) (h:=h) (F:=A)
 have htold:=fun A (e:Int)=>jbE (w0:=w0) (H:=A) (e:=e)
 have hdo:=fun A=>does_K (w0:=w0) (F:=A) hG hD hI0 h10 hf ho
 unfold jS
 obtain⟨h0,hh0⟩: ∃ h0:HpP,{h with wk:=0}=h0:=⟨_,rfl⟩
 have hw0:hpH D y h0=(D.b,cells [oV D.oc D.c.cl.length, .int .i64 D.c.page,oV D.ot D.c.tn.length, .int .i64 D.c.workers, .int .i64 D.c.grey, .int .i64 D.c.gens, .int .i64 (D.C.tn:Nat), .pointer (some ⟨D.yb,0,none⟩), .pointer (some ⟨D.qb,0,none⟩), .int .i64 0] 120)::(paceH ⟨D.qb,D.C.tr,D.C.ast,h.p⟩++(oH iE 3 D.c.cl D.oc++(oH tnE 55 D.c.tn D.ot++cycH y))):=by rw[←hh0];rfl
 simp only[hh0] at hdo⊢
 obtain⟨⟨e,hh,w,addr,us,si,cy,ac⟩,h9,hv⟩: ∃ (q:SnP) (h9:HpP),jD D.C h0 op=(q,h9):=⟨_,_,rfl⟩
 rw[hv] at hdo⊢;dsimp only at hdo⊢;unfold snV at hdo
 have hAr:=fun A (y1:CyM) (h2:HpR D (nf+2) 400000000 y1 h9)=>jif (w0:=w0) (F:=A) h2
 have hUs:=fun A (y1:CyM) (h2:HpR D (nf+2) 400000000 y1 h9)=>jiK (w0:=w0) (F:=A) h2
 have hSi:=fun A (y1:CyM) (h2:HpR D (nf+2) 400000000 y1 h9)=>h2.pace0 (F:=A) (fun A=>pcSince_K (w0:=w0) (F:=A) (h2.pc hD))
 have hCy:=fun A (y1:CyM) (h2:HpR D (nf+2) 400000000 y1 h9)=>h2.pace0 (F:=A) (fun A=>jmI (w0:=w0) (F:=A) (h2.pc hD))
 have hAc:=fun A (y1:CyM) (h2:HpR D (nf+2) 400000000 y1 h9)=>h2.pace0 (F:=A) (fun A=>jmJ (w0:=w0) (F:=A) (h2.pc hD))
 unfold HpQ at hdo⊢;unfold jgn;rw[←min_is,←min_is];unfold opV at hdo⊢
 by_cases he:e=0
 ·rw[if_pos he];refine Call.enter2 (n:=49) (by kernel_rfl) Tryz.func54 rfl rfl rfl ?_;refine zbc ?_;intro b3 b4;refine zbu ?_;refine zn ?_;refine zk2 ?_;simp only[hpH_app];refine zas ?_;refine zbE ?_;refine zgC ?_;refine zcY fun T hT=>?_;refine zsQ ?_;rintro _ _ ⟨rfl,y1,h2,rfl⟩;refine ze ?_;clear hT T;simp only[hpH_app];refine zrC ?_;intro b5;refine zaj ?_;refine zas ?_;refine ze1 ?_;refine zu fun T hT=>?_;refine zqO ?_;rintro _ _ ⟨rfl,rfl⟩;refine ze ?_;clear hT T;refine zu fun T hT=>?_;refine zsR ?_;rintro _ _ ⟨rfl,rfl⟩;refine ze ?_;clear hT T;simp only[hpH_app];refine zds ?_;refine zjX ?_;refine zJ ?_;refine zsS ?_;refine zfb ?_;refine zeO ?_;refine zg6 ?_;refine zoW ?_;refine zcb ?_;refine zg6 ?_;refine zoW ?_;refine zcb ?_;refine zk fun T hT=>?_;refine zsT ?_;rintro _ _ ⟨rfl,rfl⟩;refine zaM ?_;clear hT T;refine KD.v1 rfl rfl (Val.min rfl rfl) ?_;refine zqT ?_;refine zk fun T hT=>?_;refine zsU ?_;rintro _ _ ⟨rfl,rfl⟩;refine zaM ?_;clear hT T;refine KD.v1 rfl rfl (Val.min rfl rfl) ?_;refine zk fun T hT=>?_;refine zsV ?_;rintro _ _ ⟨rfl,rfl⟩;refine zaM ?_;clear hT T;refine zbf ?_;refine zsW ?_;refine zbf ?_;refine zqH ?_;refine zbf ?_;refine zdj ?_;exact ziN
 ·rw[if_neg he];refine Call.enter2 (n:=49) (by kernel_rfl) Tryz.func54 rfl rfl rfl ?_;refine zbc ?_;intro b3 b4;refine zbu ?_;refine zn ?_;refine zk2 ?_;simp only[hpH_app];refine zas ?_;refine zbE ?_;refine zgC ?_;refine zcY fun T hT=>?_;refine zsQ ?_;rintro _ _ ⟨rfl,y1,h2,rfl⟩;refine ze ?_;clear hT T;refine zrC ?_;intro b5;refine zM ?_;refine zak ?_;refine zN ?_;refine zp ?_;refine zsI ?_;simp only[hpH_app];refine zeV ?_;refine zal ?_;refine zcn fun T hT=>?_;refine zqO ?_;rintro _ _ ⟨rfl,rfl⟩;refine ze ?_;clear hT T;refine zu fun T hT=>?_;refine zsR ?_;rintro _ _ ⟨rfl,rfl⟩;refine ze ?_;clear hT T;simp only[hpH_app];refine zds ?_;refine zjX ?_;refine zJ ?_;refine zsS ?_;refine zfb ?_;refine zeO ?_;refine zg6 ?_;refine zoW ?_;refine zcb ?_;refine zg6 ?_;refine zoW ?_;refine zcb ?_;refine zk fun T hT=>?_;refine zsT ?_;rintro _ _ ⟨rfl,rfl⟩;refine zaM ?_;clear hT T;refine KD.v1 rfl rfl (Val.min rfl rfl) ?_;refine zqT ?_;refine zk fun T hT=>?_;refine zsU ?_;rintro _ _ ⟨rfl,rfl⟩;refine zaM ?_;clear hT T;refine KD.v1 rfl rfl (Val.min rfl rfl) ?_;refine zk fun T hT=>?_;refine zsV ?_;rintro _ _ ⟨rfl,rfl⟩;refine zaM ?_;clear hT T;refine zbf ?_;refine zsW ?_;refine zbf ?_;refine zqH ?_;refine zbf ?_;refine zdj ?_;exact ziN
theorem step_is {C:HpC} {k u:Int} (h0:0≤k) (hk:k<(C.nw:Nat)):hpStep C h k u=((stepC C.g C.long C.nw h.s k u).isSome,{h with s:=(stepC C.g C.long C.nw h.s k u).getD h.s}):=by
 unfold hpStep;rw[if_pos ⟨h0,hk⟩]
 cases stepC C.g C.long C.nw h.s k u<;>rfl
theorem hpStep_K {k u:Int} (hG:ji w0) (hD:HpDok D) (h1:HpR D nf nk y h) (hu:0≤u∧u<256):Call Tryz.prog w0 52 [.pointer (some ⟨D.b,0,none⟩), .int .i64 k, .int .u8 u] (hpH D y h++F) (fun r H'=>r= .bool (hpStep D.C h k u).1∧HpQ D nf nk (hpStep D.C h k u).2 F H'):=by
 have hnone:=fun A=>jiM (w0:=w0) (D:=D) (y:=y) (h:=h) (F:=A)
 have hS:=fun A=>h1.lift (F:=A) (fun A=>by have:=cyStep_K (w0:=w0) (F:=A) (hd:=k) hG h1.p hu;rw [h1.b,h1.nw] at this;exact this)
 have hnw:=hD.nw
 by_cases h0:0≤k
 ·have h0':k≥0:=h0
  by_cases hk:k<(D.C.nw:Nat)
  ·have hk':k<D.c.workers:=by omega
   rw[step_is h0 hk];unfold HpQ at hS⊢;refine zoX ?_;refine zbL ?_;refine zk2 ?_;simp only[hpH_app];refine zag ?_;refine zX ?_;refine zac ?_;refine zA ?_;refine zc9 ?_;refine zcJ ?_;refine zl ?_;refine zbU ?_;refine zaD ?_;refine zI ?_;refine zcx ?_;refine zlc ?_;refine zc3 ?_;refine zaD ?_;refine zX ?_;refine zu fun T hT=>?_;refine zmg ?_;rintro _ _ ⟨rfl,y1,h2,rfl⟩;refine ze ?_;clear hT T;refine zdh ?_;exact zkX
  ·have hk': ¬k<D.c.workers:=by omega
   have e9:hpStep D.C h k u=(false,h):=by grind[hpStep]
   rw[e9];unfold HpQ;refine zoX ?_;refine zbL ?_;refine zk2 ?_;simp only[hpH_app];refine zag ?_;refine zX ?_;refine zac ?_;refine zA ?_;refine zc9 ?_;refine zcJ ?_;refine zl ?_;refine zbU ?_;refine zaD ?_;refine zW ?_;refine zA ?_;refine zdJ ?_;refine zcA ?_;exact zkY
 ·have h0': ¬k≥0:=h0
  have e9:hpStep D.C h k u=(false,h):=by grind[hpStep]
  rw[e9];unfold HpQ;refine zoX ?_;refine zbL ?_;refine zk2 ?_;refine zag ?_;refine zX ?_;refine zbS ?_;refine zA ?_;refine zdJ ?_;refine zx ?_;refine zdJ ?_;refine zcA ?_;exact zkY
end
open Go.RowKit
set_option maxRecDepth 10000
section
variable {w0 : World} {f : FmM} {F : jb} {nf t : Nat} {q : TnM}
theorem fmnone_K:Call Tryz.prog w0 53 [.pointer (some ⟨f.b,0,none⟩)] (fmH f++F) (fun r H'=>r= .bool false∧H'=fmH f++F):=by
 refine zqU ?_;simp only[fmH_app];refine zeA ?_;refine zhB ?_;refine zea ?_;exact zdw
theorem jej (ok:FmOk f nf):f.ps.length=f.c.tn.length:=by unfold FmM.ps;rw [List.length_map];exact ok.n
theorem at_some {H:jb} {v:Value} {ps:List Nat} {b:Nat} (hS:Sli w0 H pbE v ps) (hb:ps[t]?=some b):Call Tryz.prog w0 59 [v, .int .i64 (t:Nat)] H (fun r H'=>r= .pointer (some ⟨b,0,none⟩)∧H'=H):=by
 have hl:=jv hb
 have h0:((t:Nat):Int)≥0:=by omega
 have hl':((t:Nat):Int)<((ps.length:Nat):Int):=by omega
 refine zqV ?_;refine zai ?_;refine zac ?_;refine zer ?_;refine zI ?_;refine zA ?_;refine zak ?_;refine zcU ?_;refine zap ?_;exact zq
theorem at_none {H:jb} {v:Value} {ps:List Nat} {i:Int} (hS:Sli w0 H pbE v ps) (hi: ¬(0≤i∧i<((ps.length:Nat):Int))):Call Tryz.prog w0 59 [v, .int .i64 i] H (fun r H'=>r= .pointer none∧H'=H):=by
 by_cases h0:i≥0
 ·have hl': ¬i<((ps.length:Nat):Int):=by omega
  refine zqV ?_;refine zai ?_;refine zac ?_;refine zer ?_;refine zW ?_;refine zA ?_;refine zba ?_;exact zq
 ·refine zqV ?_;refine zai ?_;refine zbS ?_;refine zdT ?_;refine zd1 ?_;exact zq
theorem jiO (ok:FmOk f nf) (hq:f.L[t]?=some q):Call Tryz.prog w0 27 [.pointer (some ⟨f.b,0,none⟩), .int .i64 (t:Nat)] (fmH f++F) (fun r H'=>r= .pointer (some ⟨q.D.b,0,none⟩)∧H'=fmH f++F):=by
 have hb:f.ps[t]?=some q.D.b:=by grind[FmM.ps]
 have ho:=ok.o
 have hS: ∀ A,Sli w0 (oH pbE 64 f.ps f.o++A) pbE (oV f.o f.ps.length) f.ps:=fun A=>Sli.own JA.head ho rfl
 have hat:=fun A (hp:Part A (oH pbE 64 f.ps f.o++ []))=>at_some (w0:=w0) ((hS []).part hp) hb
 clear hS;refine zoY ?_;refine zeb ?_;refine zhG ?_;refine zn ?_;refine jp (hat _ ja) ?_;refine zm ?_;exact zdw
theorem jig {i:Int} (ok:FmOk f nf) (hi: ¬(0≤i∧i<((f.c.tn.length:Nat):Int))):Call Tryz.prog w0 27 [.pointer (some ⟨f.b,0,none⟩), .int .i64 i] (fmH f++F) (fun r H'=>r= .pointer none∧H'=fmH f++F):=by
 have hl:=jej ok
 have ho:=ok.o
 have hS: ∀ A,Sli w0 (oH pbE 64 f.ps f.o++A) pbE (oV f.o f.ps.length) f.ps:=fun A=>Sli.own JA.head ho rfl
 have hat:=fun A (hp:Part A (oH pbE 64 f.ps f.o++ []))=>at_none (w0:=w0) (i:=i) ((hS []).part hp) (by omega)
 clear hS;refine zoY ?_;refine zeb ?_;refine zhG ?_;refine zn ?_;refine jp (hat _ ja) ?_;refine zm ?_;exact zdw
theorem fmDo_K {op:OpP} (hG:ji w0) (ok:FmOk f nf) (hq:f.L[t]?=some q) (hf:nf≤900000) (ho:JJ op):Call Tryz.prog w0 19 [.pointer (some ⟨f.b,0,none⟩), .int .i64 (t:Nat),opV op] (fmH f++F)
  (fun r H'=>r= .tuple [snV (jS q.D.C q.h op).1, .int .i64 0].toArray∧ ∃ f',FmSt f f' t (nf+2) (jS q.D.C q.h op).2∧H'=fmH f'++F):=by
 have hk:=ok.T t q hq
 have hI:=hk.I.mvs hk.ok.C (do_mvs (wr:=true) hk.ok.C hk.I ho.v fun _=>rfl)
 have hdo:=fun A=>ok.lift (F:=A) (P:=fun r=>r=snV (jS q.D.C q.h op).1) hq (by omega:nf≤nf+2) hI fun A=>hpDo_K (w0:=w0) (F:=A) hG hk.ok hk.I hk.R hf ho
 obtain⟨⟨e,hh,w,addr,us,si,cy,ac⟩,h9,hv⟩: ∃ (q0:SnP) (h9:HpP),jS q.D.C q.h op=(q0,h9):=⟨_,_,rfl⟩
 simp only[hv] at hdo⊢
 obtain⟨zc,zh,za,zb,zv⟩:=op
 unfold opV snV at hdo⊢;dsimp only at hdo⊢;clear hv hI;refine zoZ ?_;refine zbc ?_;intro b5 b6;refine ze2 ?_;refine zqW ?_;refine zK ?_;refine zbq ?_;refine jn (jiO ok hq) ja ?_;refine zad ?_;refine zcq ?_;refine zba ?_;refine zcf ?_;refine zgW ?_;rintro _ _ ⟨rfl,f',h2,rfl⟩;refine zpD ?_;exact KE.fin je rfl jd ja ⟨rfl,f',h2,rfl⟩
theorem fmDo_no {op:OpP} {i:Int} (ok:FmOk f nf) (hi: ¬(0≤i∧i<((f.c.tn.length:Nat):Int))):Call Tryz.prog w0 19 [.pointer (some ⟨f.b,0,none⟩), .int .i64 i,opV op] (fmH f++F)
  (fun r H'=>r= .tuple [snV (told 0), .int .i64 2].toArray∧H'=fmH f++F):=by
 unfold opV snV told;dsimp only;refine zoZ ?_;refine zbc ?_;intro b5 b6;refine ze2 ?_;refine zqW ?_;refine zK ?_;refine zbq ?_;refine jn (jig ok hi) ja ?_;refine zad ?_;refine zcq ?_;refine zao ?_;refine zcQ ?_;exact zaL
structure PkP where
 k:Int
 t:Int
 u:Nat
def pkV (p:PkP):Value:= .agg [.int .i64 p.k, .int .i64 p.t, .int .u8 (p.u:Nat)].toArray
theorem jd7 {k:Int} {u:Nat} (hG:ji w0) (ok:FmOk f nf) (hq:f.L[t]?=some q) (hf:nf≤900000) (hu:u<256):Call Tryz.prog w0 18 [.pointer (some ⟨f.b,0,none⟩),pkV ⟨k,(t:Nat),u⟩] (fmH f++F)
  (fun r H'=>r= .bool (hpStep q.D.C q.h k (u:Nat)).1∧ ∃ f',FmSt f f' t nf (hpStep q.D.C q.h k (u:Nat)).2∧H'=fmH f'++F):=by
 have hk:=ok.T t q hq
 have hI:=hk.I.mvs hk.ok.C (ji3 (wr:=true) (k:=k) (u:=(u:Nat)))
 have hdo:=fun A=>ok.lift (F:=A) (P:=fun r=>r= .bool (hpStep q.D.C q.h k (u:Nat)).1) hq (Nat.le_refl nf) hI fun A=>hpStep_K (w0:=w0) (F:=A) (k:=k) (u:=((u:Nat):Int)) hG hk.ok hk.R (by omega)
 obtain⟨b,h9,hv⟩: ∃ (q0:Bool) (h9:HpP),hpStep q.D.C q.h k (u:Nat)=(q0,h9):=⟨_,_,rfl⟩
 simp only[hv] at hdo⊢;unfold pkV;dsimp only at hdo⊢;clear hv hI;refine zo0 ?_;refine zbY ?_;intro b3;refine zU ?_;refine zJ ?_
 (first|refine K.seq (K.drawn ((b3,cells [.int .i64 k, .int .i64 (t:Nat), .int .u8 (u:Nat)] 38)::[]) [(0,0),(1,0),(2,0),(4,1),(5,1),(6,1),(7,1),(3,2),(8,2),(9,0)] (by rfl) (by rfl) (by kernel_rfl) (by rfl) (by rfl) (by rfl) ja ?_)|refine K.seq (K.seq (K.drawn ((b3,cells [.int .i64 k, .int .i64 (t:Nat), .int .u8 (u:Nat)] 38)::[]) [(0,0),(1,0),(2,0),(4,1),(5,1),(6,1),(7,1),(3,2),(8,2),(9,0)] (by kernel_rfl) (by kernel_rfl) (by kernel_rfl) (by kernel_rfl) (by kernel_rfl) (by kernel_rfl) ja ?_))|refine K.drawn ((b3,cells [.int .i64 k, .int .i64 (t:Nat), .int .u8 (u:Nat)] 38)::[]) [(0,0),(1,0),(2,0),(4,1),(5,1),(6,1),(7,1),(3,2),(8,2),(9,0)] (by kernel_rfl) (by kernel_rfl) (by kernel_rfl) (by kernel_rfl) (by kernel_rfl) (by kernel_rfl) ja ?_)
 refine zo ?_;refine zgt ?_;refine zcP ?_;refine zmd ?_;refine zcb ?_;refine zk fun T hT=>?_;refine(CallV.part (CallV.fn (jiO ok hq)) ja).mono ?_;rintro _ _ ⟨rfl,rfl⟩;refine zi ?_;clear hT T;refine zk fun T hT=>?_;refine zbv ?_;rintro _ _ ⟨rfl,f',h2,rfl⟩;refine zi ?_;clear hT T;refine zbp ?_;exact KE.fin je rfl jd ja ⟨rfl,f',h2,rfl⟩
theorem hnil_K {H:jb}:Call Tryz.prog w0 60 [.pointer none] H (fun r H'=>r= .bool true∧H'=H):=by
 refine Call.enter1 (n:=12) (by rfl) Tryz.func60 rfl rfl rfl ?_;refine zpE ?_;refine zcD ?_;exact zbO
theorem jhR {H:jb} {k u:Int}:Call Tryz.prog w0 52 [.pointer none, .int .i64 k, .int .u8 u] H (fun r H'=>r= .bool false∧H'=H):=by
 refine zoX ?_;refine zbL ?_;refine jp hnil_K ?_;refine zy ?_;refine zb1 ?_;refine zdJ ?_;refine zx ?_;refine zdJ ?_;refine zx ?_;exact zq
theorem fmStep_no {p:PkP} (ok:FmOk f nf) (hi: ¬(0≤p.t∧p.t<((f.c.tn.length:Nat):Int))):Call Tryz.prog w0 18 [.pointer (some ⟨f.b,0,none⟩),pkV p] (fmH f++F) (fun r H'=>r= .bool false∧H'=fmH f++F):=by
 obtain⟨k,i,u⟩:=p
 unfold pkV;dsimp only at hi⊢;refine zo0 ?_;refine zes ?_;intro b3;refine zi2 ?_;refine zqX ?_;refine zo ?_;refine zdA ?_;refine zcX ?_;refine zft fun T hT=>?_;refine(CallV.part (CallV.fn (jig ok hi)) ja).mono ?_;rintro _ _ ⟨rfl,rfl⟩;refine zi ?_;clear hT T;refine zk fun T hT=>?_;refine(CallV.fn (jhR)).mono ?_;rintro _ _ ⟨rfl,rfl⟩;refine zi ?_;clear hT T;refine zbp ?_;exact zH
end
end Go.Proofs.YtebiafomiemgbaaGreatDoor.Sw
namespace Go.Proofs.YtebiafomiemgbaaGreatDoor
open Go.RowKit
section
variable {P : Program} {w0 : World} {ro : Option Nat} {n : Nat} {Q : Exit → Act → World → Prop} {ds : List Deferred} {m : jk} {H : jb}
end
end Go.Proofs.YtebiafomiemgbaaGreatDoor
namespace Go.Proofs.YtebiafomiemgbaaGreatDoor.Sw
open Go.Proofs.YtebiafomiemgbaaGreatDoor renaming lo → qL, hi → qH
set_option maxRecDepth 10000
structure FmA (f:FmM) (nf:Nat) (hs:List HpP) (f':FmM):Prop where
 ok:FmOk f' nf
 to_:FmTo f f'
 hs:f'.hs=hs
section
variable {w0 : World} {f : FmM} {F : jb} {nf t : Nat} {q : TnM} {i : Int}
theorem fm_cases (ok:FmOk f nf) (i:Int):(∃ (t:Nat) (q:TnM),i=(t:Nat)∧f.L[t]?=some q∧f.hs[t]?=some q.h∧q.D.C=hC1 f.c t)∨ ¬(0≤i∧i<((f.c.tn.length:Nat):Int)):=by
 by_cases h:0≤i∧i<((f.c.tn.length:Nat):Int)
 ·obtain⟨t,rfl⟩: ∃ t:Nat,i=t:=⟨i.toNat,by omega⟩
  obtain⟨q,hq,_⟩:=ok.at_ (t:=t) (by omega)
  exact .inl ⟨t,q,rfl,hq,ok.hs_at hq,ok.C1 hq⟩
 omega
theorem fmDo_A {op:OpP} (hG:ji w0) (ok:FmOk f nf) (hf:nf≤900000) (ho:JJ op):Call Tryz.prog w0 19 [.pointer (some ⟨f.b,0,none⟩), .int .i64 i,opV op] (fmH f++F)
  (fun r H'=>r= .tuple [snV (faDo f.c f.hs i op).1.1, .int .i64 (faDo f.c f.hs i op).1.2].toArray∧ ∃ f',FmA f (nf+2) (faDo f.c f.hs i op).2 f'∧H'=fmH f'++F):=by
 rcases fm_cases ok i with⟨t,q,rfl,hq,hh,hC⟩|hi
 ·rw[JO hh,←hC];refine(fmDo_K hG ok hq hf ho).mono ?_;rintro _ _ ⟨rfl,f',h2,rfl⟩;exact⟨rfl,f',⟨h2.ok,h2.to_,h2.hs⟩,rfl⟩
 ·rw[jao (by grind[jcv])];refine(fmDo_no ok hi).mono ?_;rintro _ _ ⟨rfl,rfl⟩;exact⟨rfl,f,⟨ok.mono (by omega),FmTo.refl,rfl⟩,rfl⟩
theorem fmStep_A {p:PkP} (hG:ji w0) (ok:FmOk f nf) (hf:nf≤900000) (hu:p.u<256):Call Tryz.prog w0 18 [.pointer (some ⟨f.b,0,none⟩),pkV p] (fmH f++F)
  (fun r H'=>r= .bool (faStep f.c f.hs p.k p.t p.u).1∧ ∃ f',FmA f nf (faStep f.c f.hs p.k p.t p.u).2 f'∧H'=fmH f'++F):=by
 rcases fm_cases ok p.t with⟨t,q,ht,hq,hh,hC⟩|hi
 ·obtain⟨k,i,u⟩:=p
  dsimp only at ht hu⊢;subst ht;rw[jdc hh,←hC];refine(jd7 hG ok hq hf hu).mono ?_;rintro _ _ ⟨rfl,f',h2,rfl⟩;exact⟨rfl,f',⟨h2.ok,h2.to_,h2.hs⟩,rfl⟩
 ·rw[jds (by grind[jcv])];refine(fmStep_no ok hi).mono ?_;rintro _ _ ⟨rfl,rfl⟩;exact⟨rfl,f,⟨ok,FmTo.refl,rfl⟩,rfl⟩
end
open Go.RowKit
set_option maxRecDepth 100000
structure FmZ (b:Nat) (c:Cfg) (hs:List HpP) (nf:Nat) (f:FmM):Prop where
 ok:FmOk f nf
 b:f.b=b
 c:f.c=c
 hs:f.hs=hs
def fxC:Cfg:=⟨[2,4],8,[⟨20,8,4,1⟩,⟨4,1,1,0⟩],1,2,3⟩
theorem fx_ok:okF fxC=true:=by rfl
section
variable {w0 : World} {F : jb} {b nf : Nat} {c : Cfg} {hs hs' : List HpP} {f : FmM} {i : Int}
theorem zDo {op:OpP} {s:SnP × Int} (hG:ji w0) (z:FmZ b c hs nf f) (hf:nf≤900000) (ho:JJ op) (h1:(faDo c hs i op).1=s) (h2:(faDo c hs i op).2=hs'):Call Tryz.prog w0 19 [.pointer (some ⟨b,0,none⟩), .int .i64 i,opV op] (fmH f++F)
  (fun r H'=>r= .tuple [snV s.1, .int .i64 s.2].toArray∧ ∃ f',FmZ b c hs' (nf+2) f'∧H'=fmH f'++F):=by
 obtain⟨ok,rfl,rfl,rfl⟩:=z
 subst h1 h2;refine(fmDo_A hG ok hf ho).mono ?_;rintro _ _ ⟨rfl,f',a,rfl⟩;exact zgX
theorem zStep {p:PkP} {r1:Bool} (hG:ji w0) (z:FmZ b c hs nf f) (hf:nf≤900000) (hu:p.u<256) (h1:(faStep c hs p.k p.t p.u).1=r1) (h2:(faStep c hs p.k p.t p.u).2=hs'):Call Tryz.prog w0 18 [.pointer (some ⟨b,0,none⟩),pkV p] (fmH f++F)
  (fun r H'=>r= .bool r1∧ ∃ f',FmZ b c hs' nf f'∧H'=fmH f'++F):=by
 obtain⟨ok,rfl,rfl,rfl⟩:=z
 subst h1 h2;refine(fmStep_A hG ok hf hu).mono ?_;rintro _ _ ⟨rfl,f',a,rfl⟩;exact zgX
theorem zNew {vc vt:Value} (hG:ji w0) (hR:Jc w0 F c vc vt) (hc:jz c=true):Call Tryz.prog w0 17 [jr c vc vt] F (fun r H'=> ∃ b f,FmZ b c (newHs c) 1 f∧r= .tuple [.pointer (some ⟨b,0,none⟩), .int .i64 0].toArray∧H'=fmH f++F):=by
 refine(fmNew_K hG hR hc).mono ?_;rintro _ _ ⟨f,h1,h2,h3,_,rfl,rfl⟩;exact⟨f.b,f,⟨h1,rfl,h2,h3⟩,rfl,rfl⟩
end
set_option maxRecDepth 10000
section
variable {C : HpC} {h h' : HpP} {op : OpP}
theorem mintW_lt {tn:Nat} {T:List jl} (htn:tn<8) (hT:T.length≤1024) (he: ∀ e∈T,1≤e.gen∧e.gen≤2147483648) (hf:(JM T).isSome=true):jbk tn T<18446744073709551616:=by
 obtain⟨i,hi⟩:=Option.isSome_iff_exists.1 hf
 obtain⟨⟨e,g1,g2⟩,_⟩:=jbg hi
 have hil:=jv g1
 have hge:=he e (List.mem_of_getElem? g1)
 grind[jbk,jbd,hi,g1,capW,jct]
theorem JZ.lt (hC:HpCk C) {w:Nat} (hN:JZ C h h' w):w<18446744073709551616:=by
 obtain⟨T1,t,a,b,_,d,rfl,_⟩:=hN
 exact mintW_lt hC.tn a b d
end
structure Jb (rows:List (List Int)) (i:Nat):Prop where
 r: ∀ r∈rows,JN r∧r.length≤i
section
variable {w0 : World} {F : jb} {rows : List (List Int)} {i w b nf : Nat} {t j : Int} {c : Cfg} {hs : List HpP} {f : FmM} {op : OpP} {x : jM}
theorem Jb.of (h:Jb rows i):JN (ofF rows t):=ofF_u fun r hr=>(h.r r hr).1
theorem Jb.mono {k:Nat} (h:Jb rows i) (hk:i≤k):Jb rows k:=⟨fun r hr=>⟨(h.r r hr).1,Nat.le_trans (h.r r hr).2 hk⟩⟩
theorem Jb.le (h:Jb rows i) (hi:i≤1000): ∀ r∈rows,r.length≤1000:=fun r hr=>Nat.le_trans (h.r r hr).2 hi
theorem Jb.rep (n:Nat):Jb (List.replicate n []) 0:=⟨fun r hr=>by
 obtain rfl:=List.eq_of_mem_replicate hr
 exact⟨fun x hx=>(by grind),Nat.le_refl _⟩⟩
theorem FmZ.len (z:FmZ b c hs nf f):hs.length=c.tn.length:=by obtain⟨ok,_,rfl,rfl⟩:=z;exact jcv ok
theorem FmZ.mono {nf':Nat} (z:FmZ b c hs nf f) (hn:nf≤nf'):FmZ b c hs nf' f:=⟨z.ok.mono hn,z.b,z.c,z.hs⟩
theorem FmZ.I {t:Nat} {h:HpP} (z:FmZ b c hs nf f) (hh:hs[t]?=some h):HpCk (hC1 c t)∧HeI (hC1 c t) h:=by
 obtain⟨ok,_,rfl,rfl⟩:=z
 have hl:=jv hh
 rw[jcv ok] at hl
 obtain⟨q,hq,hk⟩:=ok.at_ hl
 have h1:=ok.hs_at hq
 rw[hh] at h1
 cases h1
 rw[←ok.C1 hq];exact⟨hk.ok.C,hk.I⟩
structure Jv (c o:Cfg) (hs hs':List HpP):Prop where
 len:hs.length=c.tn.length
 len':hs'.length=c.tn.length
 t: ∀ t,t<c.tn.length→TnE c o t hs hs'
theorem Jv.stepL {o:Cfg} {hs':List HpP} {k i:Int} {u:Nat} (e:Jv c o hs hs'):Jv c o (faStep c hs k i u).2 hs':=⟨jev.trans e.len,e.len',fun t ht=>(e.t t ht).stepL⟩
theorem Jv.do_ {o:Cfg} {hs':List HpP} {i:Int} (e:Jv c o hs hs') (hv:op.v<18446744073709551616):(faDo o hs' i op).1=(faDo c hs i op).1∧Jv c o (faDo c hs i op).2 (faDo o hs' i op).2:=by
 rcases fa_cases hs i with⟨j,h,rfl,h1⟩|h1
 ·have hj:j<c.tn.length:=by rw[←e.len];grind
  refine⟨((e.t j hj).do_ hv).1,jf5.trans e.len,jf5.trans e.len',fun t ht=>?_⟩
  by_cases htj:((j:Nat):Int)=(t:Nat)
  ·obtain rfl:j=t:=by omega
   exact((e.t j hj).do_ hv).2
  ·exact((e.t t ht).doL htj).doR htj
 ·rw[jao h1,jao (by rw[e.len',←e.len];omega)]
  grind
theorem Jv.new {o:Cfg} (hc:jz c=true) (ho:jz o=true) (hn:o.tn.length=c.tn.length) (h: ∀ t,t<c.tn.length→jc2 c o t):Jv c o (newHs c) (newHs o):=
 ⟨by simp[newHs],by grind[newHs],fun t ht=>TnE.new hc ho (h t ht)⟩
end
open Go.RowKit
set_option maxRecDepth 10000
section
variable {w0 : World} {F : jb} {c : Cfg} {vc vt v : Value} {l : List jM}
end
set_option maxRecDepth 10000
section
variable {w0 : World} {F : jb} {c : Cfg} {vc vt v : Value} {l : List jM}
end
set_option maxRecDepth 10000
structure AssI (c:Cfg) (a:Int) (k:Nat) (L:List Tn):Prop where
 n:L.length=c.tn.length
 t: ∀ (i:Nat) (x:Tn),c.tn[i]?=some x→L[i]?=some (if i<k then⟨x.quota,x.trigger,x.caps,a⟩ else x)
section
variable {w0 : World} {F : jb} {c : Cfg} {vc vt v : Value} {l : List jM} {L : List Tn} {a : Int} {k : Nat}
theorem AssI.new:AssI c a 0 c.tn:=⟨rfl,fun i x h=>by grind⟩
theorem AssI.next {x:Tn} (h:AssI c a k L) (hx:c.tn[k]?=some x):AssI c a (k+1) (L.set k ⟨x.quota,x.trigger,x.caps,a⟩):=by
 refine⟨by rw[List.length_set];exact h.n,fun i y hy=>?_⟩
 by_cases hi:k=i
 ·subst hi;rw[hx] at hy
  cases hy
  rw[List.getElem?_set_self (by rw[h.n];grind),if_pos (by omega)]
 ·rw[List.getElem?_set_ne hi,h.t i y hy]
  grind
end
open Go.RowKit
set_option maxRecDepth 10000
section
variable {w0 : World} {F : jb} {c : Cfg} {vc vt v u : Value} {l lm : List jM}
end
set_option maxRecDepth 10000
section
variable {w0 : World} {F : jb} {b nf t : Nat} {c : Cfg} {hs : List HpP} {f : FmM} {h : HpP}
theorem FmZ.at_ (z:FmZ b c hs nf f) (hh:hs[t]?=some h): ∃ q,f.L[t]?=some q∧jbz f.c f.m nf t q∧q.h=h∧q.D.C=hC1 c t:=by
 obtain⟨ok,_,rfl,rfl⟩:=z
 have hl:=jv hh
 rw[jcv ok] at hl
 obtain⟨q,hq,hk⟩:=ok.at_ hl
 have h1:=ok.hs_at hq
 rw[hh] at h1
 cases h1
 exact⟨q,hq,hk,rfl,ok.C1 hq⟩
end
set_option maxRecDepth 10000
structure jaF (P:HpC→HpP→Prop) (c:Cfg) (hs:List HpP):Prop where
 len:hs.length=c.tn.length
 t: ∀ (t:Nat) (h:HpP),hs[t]?=some h→HpCk (hC1 c t)∧HeI (hC1 c t) h∧P (hC1 c t) h
def jcb (P:HpC→HpP→Prop):Prop:= ∀ (C:HpC) (h h':HpP),HpCk C→HeI C h→Jh C true h h'→P C h→P C h'
section
variable {P : HpC → HpP → Prop} {c : Cfg} {hs : List HpP} {h h' : HpP} {t j w r : Nat} {k i : Int} {u : Nat} {op : OpP} {C : HpC}
theorem jaF.set (kp:jcb P) (a:jaF P c hs) (h1:hs[j]?=some h) (m:Jh (hC1 c j) true h h'):jaF P c (hs.set j h'):=by
 refine⟨by rw[List.length_set];exact a.len,fun t x hx=>?_⟩
 by_cases e:j=t
 ·subst e;rw[List.getElem?_set_self (jv h1)] at hx
  cases hx
  obtain⟨q1,q2,q3⟩:=a.t j h h1
  exact⟨q1,q2.mvs q1 m,kp _ _ _ q1 q2 m q3⟩
 grind[t]
theorem jaF.do_ (kp:jcb P) (a:jaF P c hs) (hv:op.v<18446744073709551616):jaF P c (faDo c hs i op).2:=by
 rcases fa_cases hs i with⟨j,h,rfl,h1⟩|h1
 ·rw[JO h1]
  obtain⟨q1,q2,_⟩:=a.t j h h1
  exact a.set kp h1 (do_mvs (wr:=true) q1 q2 hv fun _=>rfl)
 grind[jao,h1]
theorem jaF.step (kp:jcb P) (a:jaF P c hs):jaF P c (faStep c hs k i u).2:=by
 rcases fa_cases hs i with⟨j,h,rfl,h1⟩|h1
 ·rw[jdc h1];exact a.set kp h1 ji3
 grind[jds,h1]
theorem jaF.new (hc:jz c=true) (h0: ∀ C,HpCk C→P C (jbe C)):jaF P c (newHs c):=by
 refine⟨by simp[newHs],fun t h ht=>?_⟩
 grind[newHs,jv,jgl,jgp,HeI.new]
theorem jcb.wk:jcb WkI:=fun _ _ _ hC hI m hw=>hw.mvs hC hI m
def jcP (c:Cfg) (hs:List HpP) (us:List Int):Prop:=us.length=c.tn.length∧ ∀ (t:Nat) (h:HpP),hs[t]?=some h→us[t]?=some ((usedL (hC1 c t).g.L h.s.A:Nat):Int)
theorem jgB: ∀ {l:List jq} {n:Nat},usedL l (List.replicate n false)=0
 | [],n=>by rfl
 |p::l,0=>rfl
 |p::l,n+1=>by
  show(if false=true then p.size else 0)+usedL l (List.replicate n false)=0
  rw[jgB];rfl
theorem jcP.new:jcP c (newHs c) (List.replicate c.tn.length 0):=by
 refine⟨List.length_replicate ..,fun t h ht=>?_⟩
 have hl:=jv ht
 rw[show(newHs c).length=c.tn.length by simp[newHs]] at hl;rw[jgl hl] at ht
 cases ht
 rw[List.getElem?_replicate,if_pos hl]
 show some (0:Int)=some ((usedL _ (List.replicate _ false):Nat):Int)
 grind[jgB]
theorem jcP.step {us:List Int} (a:jaF P c hs) (e:jcP c hs us):jcP c (faStep c hs k i u).2 us:=by
 rcases fa_cases hs i with⟨j,h,rfl,h1⟩|h1
 ·rw[jdc h1];refine⟨e.1,fun t x hx=>?_⟩
  by_cases ej:j=t
  ·subst ej;rw[List.getElem?_set_self (jv h1)] at hx
   cases hx
   rw[e.2 j h h1]
   obtain⟨ck,hI,_⟩:=a.t j h h1
   unfold hpStep
   split
   ·cases hs':stepC (hC1 c j).g (hC1 c j).long (hC1 c j).nw h.s k ((u:Nat):Int) with
    |none=>rfl
    |some s'=>dsimp only;rw [step_A ck.g hI.ok hs']
   ·rfl
  ·rw[List.getElem?_set_ne ej] at hx;exact e.2 t x hx
 grind[jds,h1]
theorem jcP.do_ {us:List Int} {q:SnP × Int} {hs':List HpP} (e:jcP c hs us) (hv:faDo c hs i op=(q,hs')):(q.2=0→ ∃ j:Nat,i=(j:Nat)∧j<us.length∧jcP c hs' (us.set j q.1.used))∧(q.2≠0→jcP c hs' us):=by
 rcases fa_cases hs i with⟨j,h,rfl,h1⟩|h1
 ·rw[JO h1] at hv
  cases hv
  refine⟨fun _=>⟨j,rfl,jv (e.2 j h h1),?_⟩,fun e=>absurd rfl e⟩;refine⟨by rw[List.length_set];exact e.1,fun t x hx=>?_⟩
  by_cases ej:j=t
  ·subst ej;rw[List.getElem?_set_self (jv h1)] at hx
   cases hx
   rw[List.getElem?_set_self (jv (e.2 j h h1))]
   rfl
  ·rw[List.getElem?_set_ne ej] at hx⊢;exact e.2 t x hx
 grind[jao,h1]
end
open Go.RowKit
set_option maxRecDepth 10000
section
variable {C : HpC} {h : HpP} {w j v : Nat} {a b : Int} {y : jq} {hd : HdP}
end
set_option maxRecDepth 10000
section
variable {w0 : World} {F : jb} {b nf t : Nat} {c : Cfg} {hs : List HpP} {f : FmM} {h : HpP}
theorem FmZ.R (z:FmZ b c hs nf f):f.m.R=hs.map (·.s.W.x):=by
 obtain⟨ok,_,rfl,rfl⟩:=z
 apply List.ext_getElem?
 intro t
 by_cases ht:t<f.c.tn.length
 ·obtain⟨q,hq,hk⟩:=ok.at_ ht
  rw[hk.row,List.getElem?_map,ok.hs_at hq];rfl
 ·rw[List.getElem?_eq_none (by rw[ok.r];omega),List.getElem?_eq_none (by grind[jcv,ok])]
end
structure SameX (hs hs':List HpP) (j:Int):Prop where
 len:hs'.length=hs.length
 x: ∀ (t:Nat) (h:HpP),hs[t]?=some h→((t:Nat):Int)≠j→ ∃ h',hs'[t]?=some h'∧h'.s.W.x=h.s.W.x
section
variable {c : Cfg} {hs hs' hs'' : List HpP} {i j k : Int} {u w t n : Nat} {op : OpP} {h : HpP} {C : HpC}
theorem SameX.refl:SameX hs hs j:=⟨rfl,fun t h ht _=>⟨h,ht,rfl⟩⟩
theorem SameX.trans (a:SameX hs hs' j) (b:SameX hs' hs'' j):SameX hs hs'' j:=⟨b.len.trans a.len,fun t h ht hn=>by
 obtain⟨h1,e1,f1⟩:=a.x t h ht hn
 obtain⟨h2,e2,f2⟩:=b.x t h1 e1 hn
 grind⟩
theorem SameX.set {h':HpP}:SameX hs (hs.set n h') (n:Nat):=⟨List.length_set,fun t h ht hn=>⟨h,by grind,rfl⟩⟩
theorem SameX.do_:SameX hs (faDo c hs i op).2 i:=by
 rcases fa_cases hs i with⟨j,h,rfl,h1⟩|h1
 ·rw[JO h1];exact .set
 grind[jao,h1,refl]
theorem SameX.step:SameX hs (faStep c hs k i u).2 i:=by
 rcases fa_cases hs i with⟨j,h,rfl,h1⟩|h1
 ·rw[jdc h1];exact .set
 grind[jds,h1,refl]
end
open Go.RowKit
set_option maxRecDepth 10000
section
variable {w0 : World} {F : jb} {c : Cfg} {vc vt v : Value} {l : List jM}
end
set_option maxRecDepth 10000
set_option maxRecDepth 10000
section
variable {w0 : World} {F : jb} {c : Cfg} {vc vt v : Value} {l : List jM}
end
set_option maxRecDepth 10000
structure JI where
 t:Int
 s:SnP
 deriving DecidableEq
structure EnP where
 k:Nat
 t:Int
 o:OpP
 w:Int
 u:Nat
structure McP where
 hs:List HpP
 l:List JI
def op0:OpP:=⟨0,0,0,0,0⟩
def en0:EnP:=⟨0,0,op0,0,0⟩
def sgnP (n:Nat):Int:=if n<2147483648 then(n:Nat) else(n:Nat)-4294967296
def byA (b:List UInt8) (i:Nat):Nat:=((b[i]?).map (·.toNat)).getD 0
def nbA (b:List UInt8) (i n:Nat):Nat:=nb ((b.drop i).take n)
def jo (b:List UInt8):Option EnP:=
 if b.length=3∧b[0]?=some 2 then some ⟨2,0,op0,(byA b 1:Nat),byA b 2⟩
 else if b.length=27∧b[0]?=some 1 then some ⟨1,(byA b 1:Nat),⟨byA b 2,nbA b 3 8,sgnP (nbA b 11 4),sgnP (nbA b 15 4),nbA b 19 8⟩,0,0⟩
 else none
def enA (b:List UInt8):EnP:=(jo b).getD en0
def wrongW (e:Int):JI:=⟨-1,told e⟩
def mcDoes (c:Cfg) (hs:List HpP) (x:EnP):(JI × Bool) × List HpP:=
 if x.k=2 then((⟨0,told 0⟩,false),(faStep c hs x.w ((x.u/8:Nat):Int) (x.u%8)).2)
 else if x.k=1∧(faDo c hs x.t x.o).1.2=0 then((⟨x.t,(faDo c hs x.t x.o).1.1⟩,true),(faDo c hs x.t x.o).2)
 else((wrongW 250,true),hs)
def mcDo (c:Cfg) (m:McP) (b:List UInt8):(JI × Bool) × McP:=
 ((mcDoes c m.hs (enA b)).1,⟨(mcDoes c m.hs (enA b)).2,if (mcDoes c m.hs (enA b)).1.2=true then m.l++ [(mcDoes c m.hs (enA b)).1.1] else m.l⟩)
def newMc (c:Cfg):McP:=⟨newHs c,[]⟩
def ofW (l:List JI) (t:Int):List SnP:=(l.filter fun x=>decide (x.t=t)).map (·.s)
def ja1 (t:Nat) (b:List UInt8):Bool:=match jo b with
 |some x=>decide (x.k=1)&&decide (x.t=(t:Nat))
 |none=>false
structure EnOk (x:EnP):Prop where
 c:x.o.c<256
 h:x.o.h<18446744073709551616
 v:x.o.v<18446744073709551616
 u:x.u<256
 k:x.k=0∨x.k=1∨x.k=2
theorem byA_lt (b:List UInt8) (i:Nat):byA b i<256:=by
 unfold byA
 cases h:b[i]? with
 |none=>decide
 |some x=>exact x.toNat_lt
theorem nbA_lt (b:List UInt8) (i:Nat):nbA b i 8<18446744073709551616:=by
 have:=jb7 ((b.drop i).take 8)
 have h2:((b.drop i).take 8).length≤8:=List.length_take_le _ _
 have h3:256^((b.drop i).take 8).length≤256^8:=Nat.pow_le_pow_right (by omega) h2
 grind[nbA]
theorem jel (b:List UInt8):EnOk (enA b):=by
 unfold enA jo
 split
 ·exact⟨(by decide:0<256),(by decide:0<18446744073709551616),(by decide:0<18446744073709551616),byA_lt b 2, .inr (.inr rfl)⟩
 ·split
  ·exact⟨byA_lt b 2,nbA_lt b 3,nbA_lt b 19,(by decide:0<256), .inr (.inl rfl)⟩
  ·exact⟨(by decide:0<256),(by decide:0<18446744073709551616),(by decide:0<18446744073709551616),(by decide:0<256), .inl rfl⟩
section
variable {c : Cfg} {hs hs' : List HpP} {x : EnP} {b : List UInt8} {l l' : List JI} {m m' : McP} {t : Int} {w : JI}
theorem jcV:ofW (l++l') t=ofW l t++ofW l' t:=by simp[ofW]
theorem jea:ofW [w] t=if w.t=t then [w.s] else []:=by
 grind[ofW]
theorem jc9 (h1:x.k=1) (h2:(faDo c hs x.t x.o).1.2=0):mcDoes c hs x=((⟨x.t,(faDo c hs x.t x.o).1.1⟩,true),(faDo c hs x.t x.o).2):=by
 grind[mcDoes]
theorem je7 (h1:x.k=2):mcDoes c hs x=((⟨0,told 0⟩,false),(faStep c hs x.w ((x.u/8:Nat):Int) (x.u%8)).2):=by
 grind[mcDoes]
theorem jbQ (h1:x.k≠2) (h2:x.k=1→(faDo c hs x.t x.o).1.2≠0):mcDoes c hs x=((wrongW 250,true),hs):=by
 grind[mcDoes]
theorem mc_cases (c:Cfg) (hs:List HpP) (x:EnP):(x.k=2∧mcDoes c hs x=((⟨0,told 0⟩,false),(faStep c hs x.w ((x.u/8:Nat):Int) (x.u%8)).2))∨(∃ (j:Nat) (h:HpP),x.k=1∧x.t=(j:Nat)∧hs[j]?=some h∧mcDoes c hs x=((⟨x.t,(faDo c hs x.t x.o).1.1⟩,true),(faDo c hs x.t x.o).2))∨(x.k≠2∧(x.k=1→ ¬(0≤x.t∧x.t<(hs.length:Nat)))∧mcDoes c hs x=((wrongW 250,true),hs)):=by
 by_cases h2:x.k=2
 ·grind[h2,je7]
 ·by_cases h1:x.k=1
  ·rcases fa_cases hs x.t with⟨j,h,e,g⟩|g
   ·exact .inr (.inl ⟨j,h,h1,e,g,jc9 h1 (by rw[e,JO g])⟩)
   grind[h2,jbQ,jao]
  grind[h2,h1,jbQ]
theorem mcDoes_len:(mcDoes c hs x).2.length=hs.length:=by
 rcases mc_cases c hs x with⟨_,e⟩|⟨_,_,_,_,_,e⟩|⟨_,_,e⟩
 ·grind[jev]
 ·grind[jf5]
 grind
theorem own_iff {t:Nat}:ja1 t b=true↔(enA b).k=1∧(enA b).t=((t:Nat):Int)∧(jo b).isSome=true:=by
 grind[ja1,enA,jo]
theorem own_not {t:Nat} (h:ja1 t b=false) (h1:(enA b).k=1):(enA b).t≠((t:Nat):Int):=fun e=>by
 unfold ja1 enA at*
 cases hb:jo b with
 |none=>rw [hb] at h1;cases h1
 |some x=>
  grind
theorem tn_own {o:Cfg} {t:Nat} (e:TnE c o t hs hs') (hx:EnOk x) (h1:x.k=1) (ht:x.t=((t:Nat):Int)): ∃ s,(mcDoes c hs x).1=(⟨((t:Nat):Int),s⟩,true)∧(mcDoes o hs' x).1=(⟨((t:Nat):Int),s⟩,true)∧TnE c o t (mcDoes c hs x).2 (mcDoes o hs' x).2:=by
 obtain⟨a,b⟩:=e.do_ (op:=x.o) hx.v
 obtain⟨h,h',lg,nw,ai,g1,g2,_⟩:=e.ex
 have e1:(faDo c hs ((t:Nat):Int) x.o).1.2=0:=by rw[JO g1]
 have e2:(faDo o hs' ((t:Nat):Int) x.o).1.2=0:=by grind
 rw[jc9 h1 (by grind),jc9 h1 (by grind),ht,a]
 grind
theorem tn_other {o:Cfg} {t:Nat} (e:TnE c o t hs hs') (h:x.k=1→x.t≠((t:Nat):Int)):TnE c o t (mcDoes c hs x).2 hs'∧((mcDoes c hs x).1.2=true→(mcDoes c hs x).1.1.t≠((t:Nat):Int)):=by
 rcases mc_cases c hs x with⟨_,d⟩|⟨j,y,h1,hj,_,d⟩|⟨_,_,d⟩
 ·rw[d];exact⟨e.stepL,fun q=>by grind⟩
 ·rw[d];exact⟨e.doL (h h1),fun _=>h h1⟩
 ·rw[d];exact⟨e,fun _ q=>by have:(-1:Int)=((t:Nat):Int):=q;omega⟩
def soloS (c:Cfg):List HpP→List (List UInt8)→List SnP × List HpP
 |hs,[]=>([],hs)
 |hs,b::l=>((mcDoes c hs (enA b)).1.1.s::(soloS c (mcDoes c hs (enA b)).2 l).1,(soloS c (mcDoes c hs (enA b)).2 l).2)
theorem jhY: ∀ (p:List (List UInt8)) (hs:List HpP),soloS c hs (p++ [b])=((soloS c hs p).1++ [(mcDoes c (soloS c hs p).2 (enA b)).1.1.s],(mcDoes c (soloS c hs p).2 (enA b)).2)
 | [],hs=>rfl
 |a::p,hs=>by
  show((mcDoes c hs (enA a)).1.1.s::(soloS c (mcDoes c hs (enA a)).2 (p++ [b])).1,(soloS c (mcDoes c hs (enA a)).2 (p++ [b])).2)=_
  rw[jhY p]
  rfl
structure ApI (c:Cfg) (t:Nat) (p:List (List UInt8)) (m:McP):Prop where
 e:TnE c c t m.hs (soloS c (newHs c) p).2
 l:ofW m.l ((t:Nat):Int)=(soloS c (newHs c) p).1
theorem ApI.new {t:Nat} (hc:jz c=true) (ht:t<c.tn.length):ApI c t [] (newMc c):=⟨.new hc hc (jc2.refl ht),rfl⟩
theorem ApI.own {t:Nat} {p:List (List UInt8)} (h:ApI c t p m) (hb:ja1 t b=true):ApI c t (p++ [b]) (mcDo c m b).2:=by
 obtain⟨h1,h2,_⟩:=own_iff.1 hb
 obtain⟨s,a1,a2,a3⟩:=tn_own h.e (jel b) h1 h2
 refine⟨?_,?_⟩
 ·rw[jhY];exact a3
 ·rw[jhY]
  show ofW (if (mcDoes c m.hs (enA b)).1.2=true then m.l++ [(mcDoes c m.hs (enA b)).1.1] else m.l) _=(soloS c (newHs c) p).1++ [(mcDoes c (soloS c (newHs c) p).2 (enA b)).1.1.s]
  rw[a1,a2,if_pos rfl,jcV,jea,if_pos rfl,h.l]
theorem ApI.other {t:Nat} {p:List (List UInt8)} (h:ApI c t p m) (hb:ja1 t b=false):ApI c t p (mcDo c m b).2:=by
 obtain⟨a1,a2⟩:=tn_other h.e (own_not hb)
 refine⟨a1,?_⟩
 show ofW (if (mcDoes c m.hs (enA b)).1.2=true then m.l++ [(mcDoes c m.hs (enA b)).1.1] else m.l) _=_
 split
 ·rename_i q
  rw[jcV,jea,if_neg (a2 q),List.append_nil,h.l]
 ·exact h.l
end
open Go.RowKit
set_option maxRecDepth 10000
section
variable {w0 : World} {F : jb} {c : Cfg} {vc vt v : Value} {l : List jM} {pk pt : Int} {pu : Nat}
end
set_option maxRecDepth 10000
set_option maxRecDepth 10000
structure RdR (w0:World) (A:jb) (v:Value) (l:List UInt8):Prop where
 sl:Sli w0 A bE v (ofB l)
 one:v.cells=[v].toArray
 oc:v.oneCell'=true
 le:l.length≤4294967296
theorem J7 (l:List UInt8):(ofB l).length=l.length:=by simp[ofB]
theorem subW_one {v:Value} {l h n:Nat} (hv:v.cells=[v].toArray):(subV v l h n).cells=[subV v l h n].toArray:=by
 cases v<;>first|rfl|exact hv
theorem jfc {v:Value} {l h n:Nat} (hv:v.oneCell'=true):(subV v l h n).oneCell'=true:=by
 cases v<;>first|rfl|exact hv
section
variable {w0 : World} {A B : jb} {r n : Nat} {v : Value} {l : List UInt8}
theorem RdR.part (h:RdR w0 A v l) (hp:Part B A):RdR w0 B v l:=⟨h.sl.part hp,h.one,h.oc,h.le⟩
theorem RdR.drop (h:RdR w0 A v l) (hn:n≤l.length):RdR w0 A (subV v n (ofB l).length 1) (l.drop n):=by
 refine⟨?_,subW_one h.one,jfc h.oc,by rw[List.length_drop];have:=h.le;omega⟩
 have:=h.sl.sub (l:=n) (h:=(ofB l).length) (by grind[J7]) (Nat.le_refl _)
 rw[List.take_length] at this
 have e:(ofB l).drop n=ofB (l.drop n):=by simp[ofB]
 rw[e] at this;exact this
theorem RdR.take (h:RdR w0 A v l) (hn:n≤l.length):Sli w0 A bE (subV v 0 n 1) (ofB (l.take n)):=by
 have:=h.sl.sub (l:=0) (h:=n) (Nat.zero_le _) (by grind[J7])
 have e:((ofB l).take n).drop 0=ofB (l.take n):=by simp[ofB]
 rw[e] at this;exact this
end
open Go.RowKit
set_option maxRecDepth 10000
section
variable {w0 : World} {A B : jb} {r n : Nat} {v : Value} {l : List UInt8}
end
set_option maxRecDepth 10000
set_option maxRecDepth 10000
def wtL (w:JI):List Value:=[.int .i64 w.t, .int .i64 w.s.e, .int .u64 (w.s.h:Nat), .int .u64 w.s.w, .int .i64 w.s.addr, .int .i64 w.s.used, .int .i64 w.s.since, .int .i64 w.s.cyc, .bool w.s.act]
def wtE:Enc JI:=⟨wtL,9,fun _=>rfl,by intro x v hv;simp[wtL] at hv;rcases hv with rfl|rfl|rfl|rfl|rfl|rfl|rfl|rfl|rfl<;>rfl⟩
section
variable {w0 : World} {H : jb} {v fv : Value} {l : List JI}
end
set_option maxRecDepth 10000
structure McM where
 b:Nat
 f:FmM
 l:List JI
 o:Own
structure McZ (b:Nat) (c:Cfg) (m:McP) (nf:Nat) (M:McM):Prop where
 b:M.b=b
 f:FmZ M.f.b c m.hs nf M.f
 l:M.l=m.l
 o:oOk wtE M.l M.o
section
variable {w0 : World} {F : jb} {b nf : Nat} {c : Cfg} {m : McP} {M : McM} {x : EnP}
theorem McZ.mono {nf':Nat} (z:McZ b c m nf M) (hn:nf≤nf'):McZ b c m nf' M:=⟨z.b,z.f.mono hn,z.l,z.o⟩
end
open Go.RowKit
set_option maxRecDepth 10000
section
variable {w0 : World} {F : jb} {b nf : Nat} {c : Cfg} {m : McP} {M : McM} {x : EnP}
end
set_option maxRecDepth 100000
def e8:List UInt8:=[0,0,0,0,0,0,0,0]
section
variable {w0 : World} {F : jb} {b nf : Nat} {c : Cfg} {m m' : McP} {M : McM} {p : List UInt8}
end
set_option maxRecDepth 10000
section
variable {c : Cfg} {hs hs' : List HpP} {x y : EnP} {p q : OpP} {a b : McP} {u v : List UInt8} {i j : Int}
theorem faDo_comm (h:i≠j):(faDo c (faDo c hs i p).2 j q).1=(faDo c hs j q).1∧(faDo c (faDo c hs i p).2 j q).2=(faDo c (faDo c hs j q).2 i p).2:=by
 rcases fa_cases hs i with⟨m,g,rfl,h1⟩|h1
 ·rcases fa_cases hs j with⟨n,g',rfl,h2⟩|h2
  ·have hne:m≠n:=by omega
   rw[JO h1,JO h2];dsimp only
   have e1:(hs.set m (jS (hC1 c m) g p).2)[n]?=some g':=by grind
   have e2:(hs.set n (jS (hC1 c n) g' q).2)[m]?=some g:=by grind
   rw[JO e1,JO e2];exact⟨rfl,List.set_comm _ _ hne⟩
  grind[jao,h2,jf5]
 grind[jao,h1,jf5]
theorem mc_comm (hx:x.k=1) (hy:y.k=1) (h:x.t≠y.t):(mcDoes c (mcDoes c hs x).2 y).1=(mcDoes c hs y).1∧(mcDoes c (mcDoes c hs x).2 y).2=(mcDoes c (mcDoes c hs y).2 x).2:=by
 grind[faDo_comm,jc9,jbQ]
structure SaI (a b:McP):Prop where
 hs:a.hs=b.hs
 l: ∀ t:Int,0≤t→ofW a.l t=ofW b.l t
theorem SaI.refl:SaI a a:=⟨rfl,fun _ _=>rfl⟩
theorem SaI.same (h:SaI a b):SaI (mcDo c a u).2 (mcDo c b u).2:=by
 refine⟨by show(mcDoes c a.hs _).2=(mcDoes c b.hs _).2;rw [h.hs],fun t ht=>?_⟩
 show ofW (if (mcDoes c a.hs (enA u)).1.2=true then a.l++ [(mcDoes c a.hs (enA u)).1.1] else a.l) t=ofW (if (mcDoes c b.hs (enA u)).1.2=true then b.l++ [(mcDoes c b.hs (enA u)).1.1] else b.l) t
 rw[h.hs]
 split
 ·rw[jcV,jcV,h.l t ht]
 ·exact h.l t ht
theorem op_seen (hx:x.k=1):(mcDoes c hs x).1.2=true∧((mcDoes c hs x).1.1.t=x.t∨(mcDoes c hs x).1.1.t= -1):=by
 rcases mc_cases c hs x with⟨h,_⟩|⟨_,_,_,_,_,d⟩|⟨_,_,d⟩
 ·omega
 ·grind
 ·rw[d];exact⟨rfl, .inr rfl⟩
theorem SaI.swap (h:SaI a b) (hx:(enA u).k=1) (hy:(enA v).k=1) (hne:(enA u).t≠(enA v).t):SaI (mcDo c (mcDo c a u).2 v).2 (mcDo c (mcDo c b v).2 u).2:=by
 obtain⟨e1,e2⟩:=mc_comm (c:=c) (hs:=b.hs) hx hy hne
 obtain⟨e3,e4⟩:=mc_comm (c:=c) (hs:=b.hs) hy hx fun e=>hne e.symm
 obtain⟨s1,t1⟩:=op_seen (c:=c) (hs:=b.hs) hx
 obtain⟨s2,t2⟩:=op_seen (c:=c) (hs:=b.hs) hy
 have ea: ∀ (m:McP) (w:List UInt8),(mcDo c m w).2=⟨(mcDoes c m.hs (enA w)).2,if (mcDoes c m.hs (enA w)).1.2=true then m.l++ [(mcDoes c m.hs (enA w)).1.1] else m.l⟩:=fun _ _=>rfl
 refine⟨?_,fun t ht=>?_⟩
 ·simp only[ea,h.hs];omega
 ·simp only[ea,h.hs];rw[e1,e3,s1,s2,if_pos rfl,if_pos rfl,if_pos rfl,if_pos rfl];simp only[jcV,jea,h.l t ht,List.append_assoc]
  grind
end
section
variable {C : HpC} {h : HpP} {told' : List Nat} {c : Cfg} {m : McP} {b : List UInt8} {x : EnP} {t j w : Nat}
theorem do_lvT (hC:HpCk C) (hI:HeI C h) {op:OpP} (hl:LvT C.tn told' h.s.W.T):LvT C.tn (jcY told' (jS C h op).1.h) (jS C h op).2.s.W.T:=by
 suffices hs:LvT C.tn (jcY told' (if (jD C {h with wk:=0} op).1.e=0 then(jD C {h with wk:=0} op).1.h else 0)) (jD C {h with wk:=0} op).2.s.W.T by
  rw[do_h];exact hs
 have same: ∀ {q:SnP} {T':List jl},q.h=0→jbN h.s.W.T T'→LvT C.tn (jcY told' (if q.e=0 then q.h else 0)) T':=fun hq l=>by
  rw[hq,ite_self];exact hl.le l
 unfold jD
 split
 ·exact same rfl .refl
 ·split
  ·exact(alloc_lv (h:={h with wk:=0}) hC hI.wk0 hl).1
  ·cases hs:hpSlot C.tn h.s.W.T op.h with
   |none=>exact same rfl .refl
   |some sl=>
    dsimp only;unfold hpOp
    split
    ·exact(read_lv (h:={h with wk:=0}) hC hI.wk0 hl).1
    ·split
     ·unfold jaO;dsimp only
      split
      ·exact same rfl .refl
      ·split
       ·exact same rfl .refl
       ·split
        ·exact same rfl .refl
        ·refine same rfl ?_
         show jbN _ (Jd C.g C.long (Jd C.g C.long h.s _) _).W.T
         rw[jei,jei];exact .refl
     ·split
      ·exact same rfl .refl
      ·split
       ·unfold jbo
        split
        ·exact same rfl .refl
        ·refine same rfl ?_
         show jbN _ (shdC C.g C.long h.s _).W.T
         exact ziA
       ·split
        ·refine same rfl ?_
         change jbN h.s.W.T (Jk (shdC C.g C.long h.s sl).W.T (capI op.h:Nat))
         rw[shdC_W];exact drop_lv
        ·exact same rfl .refl
def jdO (l:List JI) (t:Nat):List Nat:=(ofW l ((t:Nat):Int)).map (·.h)
structure FoI (c:Cfg) (m:McP):Prop where
 len:m.hs.length=c.tn.length
 t: ∀ (t:Nat) (h:HpP),m.hs[t]?=some h→HpCk (hC1 c t)∧HeI (hC1 c t) h∧LvT t (jdO m.l t) h.s.W.T
theorem LvT.sub {tn:Nat} {l l':List Nat} {T:List jl} (h:LvT tn l T) (hs: ∀ w∈l,w∈l'):LvT tn l' T:=fun k e h1 h2=>hs _ (h k e h1 h2)
theorem FoI.new (hc:jz c=true):FoI c (newMc c):=by
 refine⟨by simp[newMc,newHs],fun t h ht=>?_⟩
 have ht':(newHs c)[t]?=some h:=ht
 have hl:=jv ht'
 rw[show(newHs c).length=c.tn.length by simp[newHs]] at hl;rw[jgl hl] at ht'
 cases ht'
 have ck:=jgp hc hl
 refine⟨ck,HeI.new ck,fun k e h1 h2=>?_⟩
 have h3:(List.replicate (hC1 c t).caps (⟨0,0,1⟩:jl))[k]?=some e:=h1
 grind
theorem FoI.do_ (h:FoI c m):FoI c (mcDo c m b).2:=by
 refine⟨(mcDoes_len (c:=c) (hs:=m.hs) (x:=enA b)).trans h.len,fun t y hy=>?_⟩
 have hx:=jel b
 have hy':(mcDoes c m.hs (enA b)).2[t]?=some y:=hy
 show HpCk _∧HeI _ y∧LvT t (jdO (if (mcDoes c m.hs (enA b)).1.2=true then m.l++ [(mcDoes c m.hs (enA b)).1.1] else m.l) t) y.s.W.T
 have hmore: ∀ w:JI,∀ n∈jdO m.l t,n∈jdO (m.l++ [w]) t:=fun w n hn=>by
  grind[jdO,jcV]
 rcases mc_cases c m.hs (enA b) with⟨_,d⟩|⟨j,g,h1,hj,hg,d⟩|⟨_,_,d⟩
 ·rw[d] at hy'⊢;dsimp only at hy'⊢;rw[if_neg (by decide)]
  rcases fa_cases m.hs (((enA b).u/8:Nat):Int) with⟨j,g,ej,hg⟩|hg
  ·rw[ej,jdc hg] at hy'
   by_cases e:j=t
   ·subst e;rw[List.getElem?_set_self (jv hg)] at hy'
    cases hy'
    obtain⟨q1,q2,q3⟩:=h.t j g hg
    exact⟨q1,q2.mvs q1 (ji3 (wr:=true)),by grind[jbN.stp]⟩
   grind[t]
  grind[jds,t]
 ·rw[d] at hy'⊢;dsimp only at hy'⊢;rw[if_pos rfl];rw[hj,JO hg] at hy'⊢;dsimp only at hy'⊢
  by_cases e:j=t
  ·subst e;rw[List.getElem?_set_self (jv hg)] at hy'
   cases hy'
   obtain⟨q1,q2,q3⟩:=h.t j g hg
   refine⟨q1,q2.mvs q1 (do_mvs (wr:=true) q1 q2 hx.v fun _=>rfl),?_⟩
   refine(do_lvT q1 q2 (op:=(enA b).o) q3).sub fun w hw=>?_
   grind[jcY,jdO,jcV,jea]
  ·rw[List.getElem?_set_ne e] at hy'
   obtain⟨q1,q2,q3⟩:=h.t t y hy'
   exact⟨q1,q2,q3.sub (hmore _)⟩
 ·rw[d] at hy'⊢;dsimp only at hy'⊢;rw[if_pos rfl]
  obtain⟨q1,q2,q3⟩:=h.t t y hy'
  exact⟨q1,q2,q3.sub (hmore _)⟩
end
open Go.RowKit
set_option maxRecDepth 10000
section
variable {c : Cfg} {m : McP} {b : List UInt8} {t : Nat} {p : List (List UInt8)}
theorem ApI.do_ (h:ApI c t p m):ApI c t (p++(if ja1 t b=true then [b] else [])) (mcDo c m b).2:=by
 cases hb:ja1 t b with
 |true=>rw [if_pos rfl];exact h.own hb
 |false=>rw [if_neg (by decide),List.append_nil];exact h.other hb
end
section
variable {w0 : World} {F : jb} {b nf : Nat} {c : Cfg} {m mb : McP} {M : McM} {x : List UInt8}
end
end Go.Proofs.YtebiafomiemgbaaGreatDoor.Sw
