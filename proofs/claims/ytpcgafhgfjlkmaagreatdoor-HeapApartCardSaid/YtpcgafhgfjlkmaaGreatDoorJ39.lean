/-The walker and the contracts that the law needs,part 39. -/
import Derived.Test.YtpcgafhgfjlkmaaGreatDoorD1
import Derived.ArgAppend
import Derived.ChangeMaps5
import Derived.Deep.Fields
import Derived.Deep.LoopGhost
import Derived.Deep.OwnRows
import Derived.Deep.Quiet
import Derived.Deep.Slices
import Derived.IntWalk
import Derived.Laws.Cells
import Derived.Laws.CopyOwn
import Derived.Laws.Externs
import Derived.Laws.FloatArith
import Derived.Laws.IdiomStrings
import Derived.Laws.NewFold
import Derived.Laws.StructEq
import Derived.Lib.BitFns
import Derived.Lib.Hide
import Derived.Lib.SmallJoins
import Derived.Lib.TrailingZeros
import Derived.Maps.RangeRun
import Derived.OrdersIn
import Derived.ProofKit
import Derived.RangeFuncBound
import Derived.RangeFuncCalls
import Derived.RangeFuncLeaves
import Derived.RangeFuncNested
import Derived.RecoverIn
import Derived.Shelf.Bits.Mul64
import Derived.Shelf.Slices.Turned
import Derived.Shelf.Spec.TrailingZeros
import Derived.Shelf.Strconv.Itoa0
import Derived.SizedLaws
import Derived.Sort.BigQuietIn
import Derived.StillTailTactics
import Derived.Test.YtpcgafhgfjlkmaaGreatDoorProg
import Derived.WalkKit
import Derived.LaidHandle
import Derived.LaidMore
import Derived.Lay
import Derived.OpenShut
import Derived.Test.YtpcgafhgfjlkmaaGreatDoorRows
import Derived.Test.YtpcgafhgfjlkmaaGreatDoorJ36
import Derived.Test.YtpcgafhgfjlkmaaGreatDoorJ38
set_option linter.unusedVariables false set_option linter.unusedSimpArgs false set_option linter.unusedVariables false
set_option linter.unusedSimpArgs false
namespace Go.Proofs.YtpcgafhgfjlkmaaGreatDoor.Sw
set_option maxHeartbeats 8000000
open Go.Proofs.YtpcgafhgfjlkmaaGreatDoor renaming lo → qL, hi → qH
open Go.RowKit
set_option maxRecDepth 10000
set_option maxRecDepth 10000
section
variable {w0 : World} {D : HpD} {nf nk n : Nat} {y y' : CyM} {h : HpP} {s s' : CyP} {F G : jb} {op : OpP} {z : jg}
theorem jlH (hG:js w0) (hD:HpDok D) (hI:HeI D.C h) (h1:HpR D nf 0 y h) (hf:nf≤900000) (ho:JN op) (hc:op.c=1):Call Tryz.prog w0 50 [.pointer (some ⟨D.b,0,none⟩),opV op] (hpH D y h++F) (fun r H'=>r=snV (jt D.C h op).1∧HpQ D (nf+2) 400000000 (jt D.C h op).2 F H'):=by
 have htold:=fun A (e:Int)=>ja0 (w0:=w0) (H:=A) (e:=e)
 have hopers:=fun A=>jcZ (w0:=w0) (H:=A)
 unfold opsL at hopers
 have hsl:=fun A=>jcW (w0:=w0) (F:=A) ho.h h1
 unfold jt;rw[if_neg (by rw[hc];decide),if_pos hc]
 have hO:=fun A (sl:Int)=>jdI (nf':=nf+2) (nk':=400000000) (by omega) (by omega) (hpalloc_K (w0:=w0) (F:=A) (op:=op) (sl:=sl) hG hD hI h1 hf)
 have hc2:((op.c:Nat):Int)=1:=by omega
 obtain⟨⟨e,hh,w,addr,us,si,cy,ac⟩,h9,hv⟩: ∃ (q:SnP) (h9:HpP),jE D.C h op.a op.b=(q,h9):=⟨_,_,rfl⟩
 rw[hv] at hO⊢;dsimp only at hO⊢;unfold HpQ;unfold opV snV at hO;unfold opV;simp only[hc2] at hO;rw[hc2]
 obtain⟨sl,hsl1⟩: ∃ sl,(hpSlot D.C.tn h.s.W.T op.h).getD 0=sl:=⟨_,rfl⟩
 obtain⟨bb,hsl2⟩: ∃ bb,(hpSlot D.C.tn h.s.W.T op.h).isSome=bb:=⟨_,rfl⟩
 simp only[hsl1,hsl2] at hsl;refine zjW ?_;intro b3 b4 b5;refine zmM ?_;refine zcw ?_;refine zaY ?_;refine K.cutT (σ:=Unit) [(0,_),(3,_),(4,_),(5,_)] jj (fun s kp_=>(6, .int .i64 sl)::kp_) (fun s=>hpH D y h++((b3,cells [.int .u8 1, .int .u64 (op.h:Nat), .int .i64 op.a, .int .i64 op.b, .int .u64 (op.v:Nat)] 35)::(b5,cells [.nilFunc, .func (.func 132) #[] #[], .func (.func 133) #[] #[], .func (.func 134) #[] #[], .func (.func 135) #[] #[], .func (.func 136) #[] #[], .func (.func 137) #[] #[], .func (.func 138) #[] #[]] 157)::(b4,cells [.int .i64 0, .int .u64 0, .int .u64 0, .int .i64 0, .int .i64 0, .int .i64 0, .int .i64 0, .bool false] 42)::F)) (fun s=>True) ?_ ?_
 ·cases bb with
  |false=>
   refine za7 ?_;refine zU ?_;refine zbg ?_;refine zaE ?_;refine zw ?_;refine zbq ?_;exact zgX
  |true=>
   refine za7 ?_;refine zE ?_;refine zax ?_;refine zbq ?_;exact zgX
 ·rintro⟨⟩-
  skip
  refine K.cutT (σ:=DsS) [(0,_),(3,_),(4,_)] jj (fun s kp_=>(6, .int .i64 sl)::(8, .pointer (some ⟨s.b,0,none⟩))::kp_) (fun s=>hpH D s.y h9++((s.b,cells [.int .i64 e, .int .u64 (hh:Nat), .int .u64 w, .int .i64 addr, .int .i64 us, .int .i64 si, .int .i64 cy, .bool ac] 42)::(b3,cells [.int .u8 1, .int .u64 (op.h:Nat), .int .i64 op.a, .int .i64 op.b, .int .u64 (op.v:Nat)] 35)::(b4,cells [.int .i64 0, .int .u64 0, .int .u64 0, .int .i64 0, .int .i64 0, .int .i64 0, .int .i64 0, .bool false] 42)::F)) (fun s=>HpR D (nf+2) 400000000 s.y h9) ?_ ?_
  ·refine zar ?_
   (first|refine K.seq (K.drawn ((b3,cells [.int .u8 1, .int .u64 (op.h:Nat), .int .i64 op.a, .int .i64 op.b, .int .u64 (op.v:Nat)] 35)::(b5,cells [.nilFunc, .func (.func 132) #[] #[], .func (.func 133) #[] #[], .func (.func 134) #[] #[], .func (.func 135) #[] #[], .func (.func 136) #[] #[], .func (.func 137) #[] #[], .func (.func 138) #[] #[]] 157)::F) [(0,1),(1,1),(2,1),(3,1),(4,1),(5,1),(6,1),(7,3),(8,2),(9,2)] (by kernel_rfl) (by kernel_rfl) (by kernel_rfl) (by kernel_rfl) (by kernel_rfl) (by kernel_rfl) ja ?_)|refine K.seq (K.seq (K.drawn ((b3,cells [.int .u8 1, .int .u64 (op.h:Nat), .int .i64 op.a, .int .i64 op.b, .int .u64 (op.v:Nat)] 35)::(b5,cells [.nilFunc, .func (.func 132) #[] #[], .func (.func 133) #[] #[], .func (.func 134) #[] #[], .func (.func 135) #[] #[], .func (.func 136) #[] #[], .func (.func 137) #[] #[], .func (.func 138) #[] #[]] 157)::F) [(0,1),(1,1),(2,1),(3,1),(4,1),(5,1),(6,1),(7,3),(8,2),(9,2)] (by kernel_rfl) (by kernel_rfl) (by kernel_rfl) (by kernel_rfl) (by kernel_rfl) (by kernel_rfl) ja ?_))|refine K.drawn ((b3,cells [.int .u8 1, .int .u64 (op.h:Nat), .int .i64 op.a, .int .i64 op.b, .int .u64 (op.v:Nat)] 35)::(b5,cells [.nilFunc, .func (.func 132) #[] #[], .func (.func 133) #[] #[], .func (.func 134) #[] #[], .func (.func 135) #[] #[], .func (.func 136) #[] #[], .func (.func 137) #[] #[], .func (.func 138) #[] #[]] 157)::F) [(0,1),(1,1),(2,1),(3,1),(4,1),(5,1),(6,1),(7,3),(8,2),(9,2)] (by kernel_rfl) (by kernel_rfl) (by kernel_rfl) (by kernel_rfl) (by kernel_rfl) (by kernel_rfl) ja ?_)
   refine zcU ?_;refine zgG ?_;refine zcm ?_;refine zfc ?_;refine zH ?_
   --FORK at region 7:[(7,3),(8,2),(9,2)]
   refine KD.fork2 (x:=7) (y:=8) (o1:=[(8,2),(9,2)]) (o2:=[(7,2),(9,2)]) (by kernel_rfl) rfl rfl (by kernel_rfl) (by kernel_rfl) ?_ ?_
   ·refine zcM fun T hT=>?_;refine(CallV.part (CallV.fn (hO _ _)) ja).mono ?_;rintro _ _ ⟨rfl,y1,h2,rfl⟩;refine zg ?_;clear hT T;refine zb7 ?_;intro b8;exact zcz
   ·(refine JK.e rfl (Eff.alloc rfl) ?_;rintro _ _ ⟨b8,rfl,rfl⟩;refine⟨ja,?_⟩)
    refine zl fun T hT=>?_;refine(CallV.part (CallV.fn (hO _ _)) ja).mono ?_;rintro _ _ ⟨rfl,y1,h2,rfl⟩;refine zg ?_;clear hT T;exact zcz
  ·rintro⟨y1,b8⟩ h2;dsimp only at h2⊢;refine zc3 ?_;refine zB ?_;refine zaE ?_;refine zz ?_;refine zlh ?_;exact KE.fin je rfl jd ja ⟨rfl,y1,h2,rfl⟩
theorem doesBad_K (h1:HpR D nf 0 y h) (ho:JN op) (hc:op.c<1∨7<op.c):Call Tryz.prog w0 50 [.pointer (some ⟨D.b,0,none⟩),opV op] (hpH D y h++F) (fun r H'=>r=snV (jt D.C h op).1∧HpQ D (nf+2) 400000000 (jt D.C h op).2 F H'):=by
 have htold:=fun A (e:Int)=>ja0 (w0:=w0) (H:=A) (e:=e)
 have hopers:=fun A=>jcZ (w0:=w0) (H:=A)
 unfold opsL at hopers
 have hoc:=ho.c
 unfold jt;rw[if_pos hc];unfold HpQ;unfold opV
 rcases hc with hc|hc
 ·have hc2:((op.c:Nat):Int)=0:=by omega
  rw[hc2];refine zjW ?_;intro b3 b4 b5;refine zmK ?_;refine KL.v rfl (Val.eqlFN rfl rfl rfl) ?_;refine zC ?_;exact zfA
 ·have hc2:((op.c:Nat):Int)≥8:=by omega
  have hc3:0≤((op.c:Nat):Int)∧((op.c:Nat):Int)<256:=by omega
  refine zjW ?_;intro b3 b4 b5;refine zeo ?_;refine zaz ?_;refine zdc ?_;refine zfZ ?_;exact zfA
theorem does_K (hG:js w0) (hD:HpDok D) (hI:HeI D.C h) (h1:HpR D nf 0 y h) (hf:nf≤900000) (ho:JN op):Call Tryz.prog w0 50 [.pointer (some ⟨D.b,0,none⟩),opV op] (hpH D y h++F) (fun r H'=>r=snV (jt D.C h op).1∧HpQ D (nf+2) 400000000 (jt D.C h op).2 F H'):=by
 have hoc:op.c=1∨op.c=2∨op.c=3∨op.c=4∨op.c=5∨op.c=6∨op.c=7∨(op.c<1∨7<op.c):=by omega
 rcases hoc with hc|hc|hc|hc|hc|hc|hc|hc
 ·exact jlH hG hD hI h1 hf ho hc
 ·exact jmo hG hD hI h1 hf ho hc
 ·exact jlG hG hD hI h1 hf ho hc
 ·exact jmn hG hD hI h1 hf ho hc
 ·exact jlp hG hD hI h1 hf ho hc
 ·exact jmq hG hD hI h1 hf ho hc
 ·exact jmp hG hD hI h1 hf ho hc
 ·exact doesBad_K h1 ho hc
theorem min_is (n:Nat):(if (2147483647:Int)<((n:Nat):Int) then 2147483647 else((n:Nat):Int))=((min n 2147483647:Nat):Int):=by
 by_cases c:(2147483647:Int)<((n:Nat):Int)
 ·rw[if_pos c];omega
 ·rw[if_neg c];omega
set_option maxHeartbeats 1000000 in
theorem jcf (hG:js w0) (hD:HpDok D) (hI:HeI D.C h) (h1:HpR D nf nk y h) (hf:nf≤900000) (ho:JN op):Call Tryz.prog w0 16 [.pointer (some ⟨D.b,0,none⟩),opV op] (hpH D y h++F) (fun r H'=>r=snV (hpDo D.C h op).1∧HpQ D (nf+2) 400000000 (hpDo D.C h op).2 F H'):=by
 have hC:=hD.C
 have hI0:HeI D.C {h with wk:=0}:=hI.mvs hC (HpMv.one (wr:=true) (.free rfl fun h=>h))
 have h10:HpR D nf 0 y {h with wk:=0}:=h1.wk (n:=0) (Nat.le_refl 0)
 have hnone:=fun A=>jb5 (w0:=w0) (D:=D) (y:=y) (h:=h) (F:=A)
 have htold:=fun A (e:Int)=>ja0 (w0:=w0) (H:=A) (e:=e)
 have hdo:=fun A=>does_K (w0:=w0) (F:=A) hG hD hI0 h10 hf ho
 unfold hpDo
 obtain⟨h0,hh0⟩: ∃ h0:HpP,{h with wk:=0}=h0:=⟨_,rfl⟩
 have hw0:hpH D y h0=(D.b,cells [oV D.oc D.c.cl.length, .int .i64 D.c.page,oV D.ot D.c.tn.length, .int .i64 D.c.workers, .int .i64 D.c.grey, .int .i64 D.c.gens, .int .i64 (D.C.tn:Nat), .pointer (some ⟨D.yb,0,none⟩), .pointer (some ⟨D.qb,0,none⟩), .int .i64 0] 84)::(paceH ⟨D.qb,D.C.tr,D.C.ast,h.p⟩++(oH iE 3 D.c.cl D.oc++(oH tnE 57 D.c.tn D.ot++cycH y))):=by rw[←hh0];rfl
 simp only[hh0] at hdo⊢
 obtain⟨⟨e,hh,w,addr,us,si,cy,ac⟩,h9,hv⟩: ∃ (q:SnP) (h9:HpP),jt D.C h0 op=(q,h9):=⟨_,_,rfl⟩
 rw[hv] at hdo⊢;dsimp only at hdo⊢;unfold snV at hdo
 have hAr:=fun A (y1:CyM) (h2:HpR D (nf+2) 400000000 y1 h9)=>jeF (w0:=w0) (F:=A) h2
 have hUs:=fun A (y1:CyM) (h2:HpR D (nf+2) 400000000 y1 h9)=>jhG (w0:=w0) (F:=A) h2
 have hSi:=fun A (y1:CyM) (h2:HpR D (nf+2) 400000000 y1 h9)=>h2.pace0 (F:=A) (fun A=>pcSince_K (w0:=w0) (F:=A) (h2.pc hD))
 have hCy:=fun A (y1:CyM) (h2:HpR D (nf+2) 400000000 y1 h9)=>h2.pace0 (F:=A) (fun A=>jl2 (w0:=w0) (F:=A) (h2.pc hD))
 have hAc:=fun A (y1:CyM) (h2:HpR D (nf+2) 400000000 y1 h9)=>h2.pace0 (F:=A) (fun A=>jl3 (w0:=w0) (F:=A) (h2.pc hD))
 unfold HpQ at hdo⊢;unfold ja1;rw[←min_is,←min_is];unfold opV at hdo⊢
 by_cases he:e=0
 ·rw[if_pos he];refine zkO ?_;refine ze0 ?_;intro b3 b4;refine zo ?_;refine zli ?_;refine zaL ?_;refine zaw ?_;refine ze ?_;refine zc2 fun T hT=>?_;refine zme ?_;rintro _ _ ⟨rfl,y1,h2,rfl⟩;refine zd ?_;clear hT T;simp only[hpH_app];refine zgM ?_;intro b5;refine zaE ?_;refine zR ?_;refine za2 ?_;refine za5 fun T hT=>?_;refine zkL ?_;rintro _ _ ⟨rfl,rfl⟩;refine zd ?_;clear hT T;refine zq fun T hT=>?_;refine zmf ?_;rintro _ _ ⟨rfl,rfl⟩;refine zd ?_;clear hT T;simp only[hpH_app];refine zah ?_;refine zO ?_;refine zcW ?_;refine zmg ?_;refine zfv ?_;refine zmh ?_;refine zS ?_;refine zH ?_;refine zdT ?_;refine zjK ?_;refine zcm ?_;refine zdT ?_;refine zjK ?_;refine zc6 ?_;refine zl fun T hT=>?_;refine zmi ?_;rintro _ _ ⟨rfl,rfl⟩;refine zak ?_;clear hT T;refine KD.v1 rfl rfl (Val.min rfl rfl) ?_;refine zmj ?_;refine zl fun T hT=>?_;refine zmk ?_;rintro _ _ ⟨rfl,rfl⟩;refine zak ?_;clear hT T;refine KD.v1 rfl rfl (Val.min rfl rfl) ?_;refine zl fun T hT=>?_;refine zml ?_;rintro _ _ ⟨rfl,rfl⟩;refine zak ?_;clear hT T;refine zbv ?_;refine zmm ?_;refine zbv ?_;refine zgD ?_;refine zbv ?_;refine zeS ?_;exact zgk
 ·rw[if_neg he];refine zkO ?_;refine ze0 ?_;intro b3 b4;refine zo ?_;refine zli ?_;refine zaL ?_;refine zaw ?_;refine ze ?_;refine zc2 fun T hT=>?_;refine zme ?_;rintro _ _ ⟨rfl,y1,h2,rfl⟩;refine zd ?_;clear hT T;refine zgM ?_;intro b5;refine zd5 ?_;refine zB ?_;refine zn ?_;refine zl7 ?_;simp only[hpH_app];refine zbb ?_;refine zW ?_;refine zbC fun T hT=>?_;refine zkL ?_;rintro _ _ ⟨rfl,rfl⟩;refine zd ?_;clear hT T;refine zq fun T hT=>?_;refine zmf ?_;rintro _ _ ⟨rfl,rfl⟩;refine zd ?_;clear hT T;simp only[hpH_app];refine zah ?_;refine zO ?_;refine zcW ?_;refine zmg ?_;refine zfv ?_;refine zmh ?_;refine zS ?_;refine zH ?_;refine zdT ?_;refine zjK ?_;refine zcm ?_;refine zdT ?_;refine zjK ?_;refine zc6 ?_;refine zl fun T hT=>?_;refine zmi ?_;rintro _ _ ⟨rfl,rfl⟩;refine zak ?_;clear hT T;refine KD.v1 rfl rfl (Val.min rfl rfl) ?_;refine zmj ?_;refine zl fun T hT=>?_;refine zmk ?_;rintro _ _ ⟨rfl,rfl⟩;refine zak ?_;clear hT T;refine KD.v1 rfl rfl (Val.min rfl rfl) ?_;refine zl fun T hT=>?_;refine zml ?_;rintro _ _ ⟨rfl,rfl⟩;refine zak ?_;clear hT T;refine zbv ?_;refine zmm ?_;refine zbv ?_;refine zgD ?_;refine zbv ?_;refine zeS ?_;exact zgk
theorem step_is {C:HpC} {k u:Int} (h0:0≤k) (hk:k<(C.nw:Nat)):jay C h k u=((stepC C.g C.long C.nw h.s k u).isSome,{h with s:=(stepC C.g C.long C.nw h.s k u).getD h.s}):=by
 unfold jay;rw[if_pos ⟨h0,hk⟩]
 cases stepC C.g C.long C.nw h.s k u<;>rfl
theorem jdq {k u:Int} (hG:js w0) (hD:HpDok D) (h1:HpR D nf nk y h) (hu:0≤u∧u<256):Call Tryz.prog w0 14 [.pointer (some ⟨D.b,0,none⟩), .int .i64 k, .int .u8 u] (hpH D y h++F) (fun r H'=>r= .bool (jay D.C h k u).1∧HpQ D nf nk (jay D.C h k u).2 F H'):=by
 have hnone:=fun A=>jb5 (w0:=w0) (D:=D) (y:=y) (h:=h) (F:=A)
 have hS:=fun A=>h1.lift (F:=A) (fun A=>by have:=cyStep_K (w0:=w0) (F:=A) (hd:=k) hG h1.p hu;rw [h1.b,h1.nw] at this;exact this)
 have hnw:=hD.nw
 by_cases h0:0≤k
 ·have h0':k≥0:=h0
  by_cases hk:k<(D.C.nw:Nat)
  ·have hk':k<D.c.workers:=by rw[hnw];exact hk
   rw[step_is h0 hk];unfold HpQ at hS⊢;refine zjL ?_;refine zbB ?_;refine zjJ ?_;simp only[hpH_app];refine zU ?_;refine zA ?_;refine zaz ?_;refine zw ?_;refine zci ?_;refine zaZ ?_;refine zi ?_;refine zd9 ?_;refine zjU ?_;refine zan ?_;refine zfw ?_;refine zA ?_;refine zq fun T hT=>?_;refine zig ?_;rintro _ _ ⟨rfl,y1,h2,rfl⟩;refine zd ?_;clear hT T;refine zcE ?_;exact zhj
  ·have hk': ¬k<D.c.workers:=by rw[hnw];exact hk
   have e9:jay D.C h k u=(false,h):=by unfold jay;rw [if_neg (fun q=>hk q.2)]
   rw[e9];unfold HpQ;refine zjL ?_;refine zbB ?_;refine zjJ ?_;simp only[hpH_app];refine zU ?_;refine zA ?_;refine zaz ?_;refine zw ?_;refine zci ?_;refine zaZ ?_;refine zi ?_;refine zd9 ?_;refine zT ?_;refine zw ?_;refine zfx ?_;refine zf ?_;exact zhk
 ·have h0': ¬k≥0:=h0
  have e9:jay D.C h k u=(false,h):=by unfold jay;rw [if_neg (fun q=>h0 q.1)]
  rw[e9];unfold HpQ;refine zjL ?_;refine zbB ?_;refine zjJ ?_;refine zU ?_;refine zA ?_;refine zbO ?_;refine zw ?_;refine zfx ?_;refine zfx ?_;refine zf ?_;exact zhk
end
open Go.RowKit
set_option maxRecDepth 10000
def capsS (c:Cfg) (t:Nat):Int:=((c.tn[t]?).map (·.caps)).getD 61
def okS (c:Cfg) (t:Nat):Bool:=jdG c&&(decide ((totalP c).1≤2000)&&(jX c&&decide (capsS c t≤60)))
section
variable {w0 : World} {F : jb} {c : Cfg} {vc vt : Value} {t : Nat}
theorem jlb (hR:Jo w0 F c vc vt):Call Tryz.prog w0 44 [jw c vc vt, .int .i64 (t:Nat)] F (fun r H'=>r= .bool (okS c t)∧H'=F):=by
 have htot:=fun A (hp:Part A F)=>rTotal_K (hR.part hp)
 have hsm:=fun A (hp:Part A F)=>Small_K (hR.part hp)
 have hck:=fun A (hp:Part A F)=>jiG (hR.part hp)
 obtain⟨tt,te,htt⟩: ∃ tt te,totalP c=(tt,te):=⟨_,_,rfl⟩
 obtain⟨hS,hT',o1,o2,l1,l2⟩:=hR
 unfold okS capsS;rw[htt];simp only[htt] at htot
 obtain⟨cp,hcp⟩: ∃ cp,cp=jX c:=⟨_,rfl⟩
 obtain⟨sp,hsp⟩: ∃ sp,sp=jdG c:=⟨_,rfl⟩
 simp only[←hcp] at hck⊢;simp only[←hsp] at hsm⊢;clear hcp hsp htt
 obtain⟨cl,page,tn,workers,grey,gens⟩:=c
 dsimp only at hS hT' l1 l2⊢;simp only[jw,jT,prV] at htot hsm hck⊢
 have ht0:((t:Nat):Int)≥0:=by omega
 cases sp with
 |false=>
  refine zho ?_;refine zcX ?_;intro b2;refine zgF ?_;refine zQ ?_;refine zhB ?_;refine zaO ?_;refine zax ?_;refine zaO ?_;refine zdo ?_;refine zfx ?_;exact zt
 |true=>
  by_cases ht:tt≤2000
  ·rw[decide_eq_true ht]
   cases cp with
   |false=>
    unfold jbe at hck;simp only[Bool.false_eq_true,if_false] at hck;refine zho ?_;refine zcX ?_;intro b2;refine zgF ?_;refine zQ ?_;refine zhB ?_;refine zA ?_;refine zam ?_;refine zbw ?_;refine z3 ?_;refine zj3 ?_;refine zi ?_;refine zG ?_;refine zw ?_;refine zaO ?_;refine zdo ?_;refine zfx ?_;exact zt
   |true=>
    unfold jbe at hck;simp only[if_true] at hck
    cases hx:tn[t]? with
    |none=>
     have hge: ¬((t:Nat):Int)<((tn.length:Nat):Int):=by have:=List.getElem?_eq_none_iff.1 hx;omega
     refine zho ?_;refine zcX ?_;intro b2;refine zgF ?_;refine zQ ?_;refine zhB ?_;refine zA ?_;refine zam ?_;refine zbw ?_;refine z3 ?_;refine zj3 ?_;refine zi ?_;refine zhA ?_;refine zaz ?_;refine zb1 ?_;refine zga ?_;refine zT ?_;refine zw ?_;refine zfx ?_;exact zt
    |some x=>
     obtain⟨x1,x2,x3,x4⟩:=x
     have hlt:=jx hx
     have hlt':((t:Nat):Int)<((tn.length:Nat):Int):=by omega
     have hx':tn[((t:Nat):Int).toNat]?=some ⟨x1,x2,x3,x4⟩:=hx
     by_cases hc:x3≤60
     ·have hd:decide (((some (⟨x1,x2,x3,x4⟩:Tn)).map (·.caps)).getD 61≤60)=true:=decide_eq_true hc
      rw[hd];refine zho ?_;refine zcX ?_;intro b2;refine zgF ?_;refine zQ ?_;refine zhB ?_;refine zA ?_;refine zam ?_;refine zbw ?_;refine z3 ?_;refine zj3 ?_;refine zi ?_;refine zhA ?_;refine zaz ?_;refine zb1 ?_;refine zga ?_;refine zab ?_;refine zcR ?_;refine zL ?_;refine zbr ?_;refine zi ?_;refine zgA ?_;refine zfm ?_;refine zi ?_;refine zam ?_;exact zdl
     ·have hd:decide (((some (⟨x1,x2,x3,x4⟩:Tn)).map (·.caps)).getD 61≤60)=false:=decide_eq_false hc
      rw[hd];refine zho ?_;refine zcX ?_;intro b2;refine zgF ?_;refine zQ ?_;refine zhB ?_;refine zA ?_;refine zam ?_;refine zbw ?_;refine z3 ?_;refine zj3 ?_;refine zi ?_;refine zhA ?_;refine zaz ?_;refine zb1 ?_;refine zga ?_;refine zab ?_;refine zcR ?_;refine zL ?_;refine zbr ?_;refine zi ?_;refine zgA ?_;refine zfm ?_;refine zi ?_;refine zcr ?_;exact zdl
  ·have hgt:tt>2000:=by omega
   rw[decide_eq_false ht];refine zho ?_;refine zcX ?_;intro b2;refine zgF ?_;refine zQ ?_;refine zhB ?_;refine zA ?_;refine zcr ?_;refine zgb ?_;refine zaO ?_;refine zdo ?_;refine zfx ?_;exact zt
theorem jf1 (hR:Jo w0 F c vc vt) (hno:okS c t=false):Call Tryz.prog w0 12 [jw c vc vt, .int .i64 (t:Nat)] F (fun r H'=>r= .tuple [.pointer none, .pointer none].toArray∧H'=F):=by
 have hs:=fun A (hp:Part A F)=>jlb (t:=t) (hR.part hp)
 simp only[hno] at hs;simp only[jw,jT] at hs⊢;refine Call.enter2 (n:=28) (by kernel_rfl) Tryz.func12 rfl rfl rfl ?_;refine zeg ?_;intro b2;refine jq (hs _ ja) ?_;exact zfB
structure HMade (c:Cfg) (t:Nat) (D:HpD) (y:CyM):Prop where
 ok:HpDok D
 R:HpR D 1 0 y (newH D.C)
 ec:D.c=c
 eC: ∃ x,c.tn[t]?=some x∧D.C=hC0 c t x
 R0:D.R0=mR (fun t=>wordsP c (t:Nat)) c.tn.length
theorem okS_cfg (h:okS c t=true):jX c=true∧(totalP c).1≤2000∧ ∃ x,c.tn[t]?=some x∧x.caps≤60:=by
 unfold okS capsS at h;simp only[Bool.and_eq_true,decide_eq_true_eq] at h;refine⟨h.2.2.1,h.2.1,?_⟩
 cases hx:c.tn[t]? with
 |none=>rw [hx] at h;exact absurd h.2.2.2 (by decide)
 |some x=>rw [hx] at h;exact⟨x,rfl,h.2.2.2⟩
theorem je8 (hG:js w0) (hR:Jo w0 F c vc vt) (hok:okS c t=true):Call Tryz.prog w0 12 [jw c vc vt, .int .i64 (t:Nat)] F (fun r H'=> ∃ D y,HMade c t D y∧r= .tuple [.pointer (some ⟨D.b,0,none⟩), .pointer (some ⟨D.mb,0,none⟩)].toArray∧H'=hpH D y (newH D.C)++F):=by
 obtain⟨hc,htw,x,hx,hxc⟩:=okS_cfg hok
 have hs:=fun A (hp:Part A F)=>jlb (t:=t) (hR.part hp)
 simp only[hok] at hs
 have hmn:=fun A (hp:Part A F)=>mNew_K (hR.part hp) hc
 have hcfg:=ja2 hc
 have htl:=jx hx
 have hx0r:List.replicate (wordsP c ((t:Nat):Int)).toNat (0:Int)=List.replicate (gOf c (t:Nat)).words 0:=by
  have ht:j9 c t 0=true:=jb4 (i:=t) (j:=0) hc htl (by have:=hcfg.cl;omega)
  have h1:=(g_at ht).region
  have h3:jaw c ((t:Nat):Int)=(wordsP c ((t:Nat):Int),0):=by unfold jaw;rw [if_pos ht]
  rw[h3] at h1;rw[(Prod.mk.inj h1).1]
  rfl
 have hn:=fun A (m:Js) (hp:Part A F) okm (hm:m.R=mR (fun t=>wordsP c (t:Nat)) c.tn.length)=>hpNew_K (w0:=w0) (F:=A) (m:=m) hG (hR.part hp) hc hx okm (by rw[hm,mR_get htl];exact congrArg some hx0r)
 obtain⟨hS,hT',o1,o2,l1,l2⟩:=hR
 simp only[jw,jT] at hs hmn hn⊢;refine Call.enter2 (n:=28) (by kernel_rfl) Tryz.func12 rfl rfl rfl ?_;refine zeg ?_;intro b2;refine jq (hs _ ja) ?_;refine zeX ?_;refine zbx ?_;refine jat (hmn _ ja) ?_;rintro _ _ ⟨m,okm,hmR,rfl,rfl⟩;refine zQ ?_;refine zcG ?_;refine j4 (hn ((b2,cells [vc, .int .i64 c.page,vt, .int .i64 c.workers, .int .i64 c.grey, .int .i64 c.gens] 25)::F) m ja okm hmR) ja ?_;rintro _ _ ⟨D,y,k1,k2,e1,e2,e3,e4,rfl,rfl⟩;refine zQ ?_;refine zm ?_;refine zaI ?_;rw[←e4];exact KE.fin je rfl jd ja ⟨D,y,⟨k1,k2,e1,⟨x,hx,e2⟩,e3.trans hmR⟩,rfl,rfl⟩
end
set_option maxRecDepth 100000
def hxC:Cfg:=⟨[2,4],8,[⟨20,8,4,1⟩,⟨4,1,1,0⟩],1,2,3⟩
def hxT:Tn:=⟨20,8,4,1⟩
def hxH:HpC:=hC0 hxC 0 hxT
def hx0:HpP:=newH hxH
def hx1:HpP:=(hpDo hxH hx0 ⟨1,0,1,1,0⟩).2
def hx2:HpP:=(hpDo hxH hx1 ⟨1,0,0,1,0⟩).2
def hx3:HpP:=(hpDo hxH hx2 ⟨3,1,0,0,4294967297⟩).2
def hx4:HpP:=(hpDo hxH hx3 ⟨6,4294967297,0,0,0⟩).2
def hx5:HpP:=(hpDo hxH hx4 ⟨2,1,0,0,0⟩).2
def hx6:HpP:=(hpDo hxH hx5 ⟨1,0,0,1,0⟩).2
theorem hx_ok:okS hxC 0=true:=by kernel_rfl
theorem hx_a:(hpDo hxH hx0 ⟨1,0,1,1,0⟩).1=⟨0,1,0,24,4,4,0,false⟩:=by kernel_rfl
theorem hx_b:(hpDo hxH hx1 ⟨1,0,0,1,0⟩).1=⟨0,4294967297,0,0,6,6,0,false⟩:=by kernel_rfl
theorem hx_c:(hpDo hxH hx2 ⟨3,1,0,0,4294967297⟩).1=⟨0,0,0,24,6,6,0,false⟩:=by kernel_rfl
theorem hx_d:(hpDo hxH hx3 ⟨6,4294967297,0,0,0⟩).1=⟨0,0,0,0,6,6,0,false⟩:=by kernel_rfl
theorem hx_e:(hpDo hxH hx4 ⟨2,1,0,0,0⟩).1=⟨0,8589934593,0,24,6,6,0,false⟩:=by kernel_rfl
theorem hx_f:(hpDo hxH hx5 ⟨1,0,0,1,0⟩).1=⟨0,12884901889,0,2,8,0,0,true⟩:=by kernel_rfl
theorem hx_g:(hpDo hxH hx6 ⟨2,1,0,0,0⟩).1=⟨0,4294967298,0,24,8,0,1,false⟩:=by kernel_rfl
theorem HeI.new {C:HpC} (hC:jk C):HeI C (newH C):=by
 refine⟨newC_ok hC.long hC.nw,fun _=>newC_t hC.g,fun e=>absurd rfl e,rfl,⟨Nat.zero_le _,Nat.zero_le _,Nat.zero_le _,Nat.zero_le _⟩,fun e he=>?_,List.length_replicate ..⟩
 have:=List.eq_of_mem_replicate he
 subst this;exact⟨Int.le_refl 1,hC.gn.1⟩
open Go.RowKit
set_option maxRecDepth 10000
structure jU where
 o:OpP
 H:Int
 V:Int
 work:Bool
 k:Int
 u:Nat
def acL (x:jU):List Value:=[.int .u8 (x.o.c:Nat), .int .u64 (x.o.h:Nat), .int .i64 x.o.a, .int .i64 x.o.b, .int .u64 (x.o.v:Nat), .int .i64 x.H, .int .i64 x.V, .bool x.work, .int .i64 x.k, .int .u8 (x.u:Nat)]
structure J7 (x:jU):Prop where
 o:JN x.o
 u:x.u<256
def u64s (T:List Int):Prop:= ∀ x∈T,0≤x∧x<18446744073709551616
def pickT (T:List Int) (i:Int) (d:Nat):Nat:=if 0≤i∧0<T.length then((T[(i%(T.length:Nat)).toNat]?).getD 0).toNat else d
def opA (x:jU) (T:List Int):OpP:={x.o with h:=pickT T x.H x.o.h,v:=pickT T x.V x.o.v}
theorem pick_at {T:List Int} {i:Int} (hT:u64s T) (h1:0≤i) (h2:0<T.length) (d:Nat): ∃ (k:Nat) (e:Nat),i%((T.length:Nat):Int)=((k:Nat):Int)∧k<T.length∧T[k]?=some ((e:Nat):Int)∧pickT T i d=e:=by
 have h3:=Int.emod_nonneg i (b:=((T.length:Nat):Int)) (by omega)
 have h4:=Int.emod_lt_of_pos i (b:=((T.length:Nat):Int)) (by omega)
 obtain⟨k,hk⟩: ∃ k:Nat,i%((T.length:Nat):Int)=k:=⟨(i%((T.length:Nat):Int)).toNat,by omega⟩
 have hkl:k<T.length:=by omega
 obtain⟨e,he⟩:=jA hkl
 have heb:=hT e (List.mem_of_getElem? he)
 obtain⟨n,rfl⟩: ∃ n:Nat,e=n:=⟨e.toNat,by omega⟩
 refine⟨k,n,hk,hkl,he,?_⟩;unfold pickT;rw[if_pos ⟨h1,h2⟩,hk,Int.toNat_natCast,he]
 rfl
theorem pick_lt {T:List Int} {i:Int} {d:Nat} (hT:u64s T) (hd:d<18446744073709551616):pickT T i d<18446744073709551616:=by
 by_cases h:0≤i∧0<T.length
 ·obtain⟨k,e,_,_,h3,h4⟩:=pick_at hT h.1 h.2 d
  have:=hT _ (List.mem_of_getElem? h3)
  rw[h4];omega
 ·unfold pickT;rw [if_neg h];exact hd
theorem jc3 {x:jU} {T:List Int} (hx:J7 x) (hT:u64s T):JN (opA x T):=⟨hx.o.c,pick_lt hT hx.o.h,pick_lt hT hx.o.v⟩
section
variable {w0 : World} {F : jb} {x : jU} {T : List Int} {v : Value}
theorem example_K {H:jb}:Call Tryz.prog w0 46 [] H (fun r H'=> ∃ b1 b2,r=jw hxC (.slice (some ⟨b1,0,none⟩) 2 2) (.slice (some ⟨b2,0,none⟩) 2 2)∧H'=(b1,cells [.int .i64 2, .int .i64 4] 3)::(b2,cells [.int .i64 20, .int .i64 8, .int .i64 4, .int .i64 1, .int .i64 4, .int .i64 1, .int .i64 1, .int .i64 0] 57)::H):=by
 refine Call.enter0 (n:=6) (by kernel_rfl) Tryz.func46 rfl rfl rfl ?_;refine zy ?_;refine zee ?_;intro b0;refine zaj ?_;intro b1;refine zM ?_;refine zM ?_;refine zaj ?_;intro b4;refine zfz ?_;exact KE.fin je rfl jd ja ⟨b1,b4,rfl,rfl⟩
theorem do_at {D:HpD} {nf nk:Nat} {y:CyM} {h:HpP} {op:OpP} {q:SnP} {h':HpP} (hG:js w0) (hD:HpDok D) (hI:HeI D.C h) (h1:HpR D nf nk y h) (hf:nf≤900000) (ho:JN op) (e1:(hpDo D.C h op).1=q) (e2:(hpDo D.C h op).2=h'):Call Tryz.prog w0 16 [.pointer (some ⟨D.b,0,none⟩),opV op] (hpH D y h++F) (fun r H'=>r=snV q∧ ∃ y',HpR D (nf+2) 400000000 y' h'∧H'=hpH D y' h'++F):=by
 subst e1 e2;exact jcf hG hD hI h1 hf ho
theorem do_I {C:HpC} {h:HpP} {op:OpP} (hC:jk C) (hI:HeI C h) (ho:JN op):HeI C (hpDo C h op).2:=hI.mvs hC (jdN (wr:=true) hC hI ho.v fun _=>rfl)
set_option maxHeartbeats 4000000 in
theorem jgd (hG:js w0):Call Tryz.prog w0 13 [] F (fun r H'=>r= .bool true∧H'=F):=by
 have hex:=fun A=>example_K (w0:=w0) (H:=A)
 have hmd: ∀ A b1 b2,Call Tryz.prog w0 12 [jw hxC (.slice (some ⟨b1,0,none⟩) 2 2) (.slice (some ⟨b2,0,none⟩) 2 2), .int .i64 0] ((b1,cells [.int .i64 2, .int .i64 4] 3)::(b2,cells [.int .i64 20, .int .i64 8, .int .i64 4, .int .i64 1, .int .i64 4, .int .i64 1, .int .i64 1, .int .i64 0] 57)::A) (fun r H'=> ∃ D y,HMade hxC 0 D y∧r= .tuple [.pointer (some ⟨D.b,0,none⟩), .pointer (some ⟨D.mb,0,none⟩)].toArray∧H'=hpH D y (newH D.C)++((b1,cells [.int .i64 2, .int .i64 4] 3)::(b2,cells [.int .i64 20, .int .i64 8, .int .i64 4, .int .i64 1, .int .i64 4, .int .i64 1, .int .i64 1, .int .i64 0] 57)::A)):=fun A b1 b2=>by
  have hC:Sli w0 [(b1,cells [.int .i64 2, .int .i64 4] 3)] iE (.slice (some ⟨b1,0,none⟩) 2 2) hxC.cl:=Sli.blk j3.head rfl (by decide) (by decide) rfl
  have hT:Sli w0 [(b2,cells (jD tnE hxC.tn) 57)] tnE (.slice (some ⟨b2,0,none⟩) 2 2) hxC.tn:=Sli.blk j3.head rfl (by decide) (by decide) rfl
  have hR:Jo w0 ((b1,cells [.int .i64 2, .int .i64 4] 3)::(b2,cells (jD tnE hxC.tn) 57)::A) hxC (.slice (some ⟨b1,0,none⟩) 2 2) (.slice (some ⟨b2,0,none⟩) 2 2):=⟨hC.part ja,hT.part ja,rfl,rfl,by decide,by decide⟩
  exact je8 (t:=0) hG hR hx_ok
 unfold jw jT at hex hmd;refine Call.enter0 (n:=71) (by kernel_rfl) Tryz.func13 rfl rfl rfl ?_;refine z7 ?_;refine zn ?_;refine jat (hex _) ?_;rintro _ _ ⟨b1,b2,rfl,rfl⟩;refine zq fun T hT=>?_;refine(CallV.fn (hmd _ b1 b2)).mono ?_;rintro _ _ ⟨D,y0,hM,rfl,rfl⟩
 obtain⟨x,hx,hDC⟩:=hM.eC
 have hxe:x=hxT:=by injection hx.symm
 subst hxe
 have hD:=hM.ok
 have hC:=hD.C
 have hC0:D.C=hxH:=hDC
 have hI0:HeI D.C hx0:=by have:=HeI.new hC;rw [hC0] at this⊢;exact this
 have hR0:HpR D 1 0 y0 hx0:=by have:=hM.R;rw [hC0] at this;exact this
 have ho: ∀ (c h:Nat) (a b:Int) (v:Nat),c<256→h<18446744073709551616→v<18446744073709551616→JN ⟨c,h,a,b,v⟩:=fun c h a b v h1 h2 h3=>⟨h1,h2,h3⟩
 have st: ∀ {h:HpP} {op:OpP} {q:SnP} {h':HpP},HeI D.C h→JN op→(hpDo hxH h op).1=q→(hpDo hxH h op).2=h'→HeI D.C h'∧ ∀ A nf nk (y:CyM),HpR D nf nk y h→nf≤900000→Call Tryz.prog w0 16 [.pointer (some ⟨D.b,0,none⟩),opV op] (hpH D y h++A) (fun r H'=>r=snV q∧ ∃ y',HpR D (nf+2) 400000000 y' h'∧H'=hpH D y' h'++A):=fun hI ho e1 e2=>by
  rw[←hC0] at e1 e2;exact⟨e2▸do_I hC hI ho,fun A nf nk y h1 hf=>do_at hG hD hI h1 hf ho e1 e2⟩
 obtain⟨hI1,d0⟩:=st hI0 (ho 1 0 1 1 0 (by decide) (by decide) (by decide)) hx_a (h':=hx1) rfl
 obtain⟨hI2,d1⟩:=st hI1 (ho 1 0 0 1 0 (by decide) (by decide) (by decide)) hx_b (h':=hx2) rfl
 obtain⟨hI3,d2⟩:=st hI2 (ho 3 1 0 0 4294967297 (by decide) (by decide) (by decide)) hx_c (h':=hx3) rfl
 obtain⟨hI4,d3⟩:=st hI3 (ho 6 4294967297 0 0 0 (by decide) (by decide) (by decide)) hx_d (h':=hx4) rfl
 obtain⟨hI5,d4⟩:=st hI4 (ho 2 1 0 0 0 (by decide) (by decide) (by decide)) hx_e (h':=hx5) rfl
 obtain⟨hI6,d5⟩:=st hI5 (ho 1 0 0 1 0 (by decide) (by decide) (by decide)) hx_f (h':=hx6) rfl
 obtain⟨_,d6⟩:=st hI6 (ho 2 1 0 0 0 (by decide) (by decide) (by decide)) hx_g rfl
 clear hI0 hI1 hI2 hI3 hI4 hI5 hI6 st
 have e0:newH D.C=hx0:=by rw[hC0];rfl
 rw[e0];refine zd ?_;clear hT T;refine zfG ?_;refine zaG ?_;refine zM ?_;refine zn ?_;refine j4 (d0 _ _ _ y0 hR0 (by decide)) ja ?_;rintro _ _ ⟨rfl,y1,hR1,rfl⟩;refine zaH ?_;intro b3;refine zco ?_;refine zn ?_;refine j4 (d1 _ _ _ y1 hR1 (by decide)) ja ?_;rintro _ _ ⟨rfl,y2,hR2,rfl⟩;refine zaH ?_;intro b4;refine zco ?_;refine zn ?_;refine j4 (d2 _ _ _ y2 hR2 (by decide)) ja ?_;rintro _ _ ⟨rfl,y3,hR3,rfl⟩;refine zaH ?_;intro b5;refine zco ?_;refine zn ?_;refine j4 (d3 _ _ _ y3 hR3 (by decide)) ja ?_;rintro _ _ ⟨rfl,y4,hR4,rfl⟩;refine zaH ?_;intro b6;refine zco ?_;refine zn ?_;refine j4 (d4 _ _ _ y4 hR4 (by decide)) ja ?_;rintro _ _ ⟨rfl,y5,hR5,rfl⟩;refine zaH ?_;intro b7;refine zco ?_;refine zn ?_;refine j4 (d5 _ _ _ y5 hR5 (by decide)) ja ?_;rintro _ _ ⟨rfl,y6,hR6,rfl⟩;refine zaH ?_;intro b8;refine zco ?_;refine zn ?_;refine j4 (d6 _ _ _ y6 hR6 (by decide)) ja ?_;rintro _ _ ⟨rfl,y7,hR7,rfl⟩;refine zaH ?_;intro b9;refine z3 ?_;refine zM ?_;refine zgH ?_;refine zL ?_;refine z3 ?_;refine zi ?_;refine zM ?_;refine zi ?_;refine zgH ?_;refine zbw ?_;refine zaq ?_;refine KL.v rfl (Val.eql rfl rfl) ?_;refine zbw ?_;refine zaq ?_;refine KL.v rfl (Val.eql rfl rfl) ?_;refine zbw ?_;refine z3 ?_;refine zi ?_;refine zM ?_;refine zi ?_;refine zgH ?_;refine zbw ?_;refine z3 ?_;refine zi ?_;refine zM ?_;refine zi ?_;refine zgH ?_;refine zbw ?_;refine z3 ?_;refine zi ?_;refine zM ?_;refine zi ?_;refine zgH ?_;exact zdl
end
open Go.RowKit
set_option maxRecDepth 10000
section
variable {C : HpC} {h h' : HpP} {T G : List Int} {op : OpP}
theorem mintW_lt {tn:Nat} {T:List jh} (htn:tn<8) (hT:T.length≤1024) (he: ∀ e∈T,1≤e.gen∧e.gen≤2147483648) (hf:(Ju T).isSome=true):JG tn T<18446744073709551616:=by
 obtain⟨i,hi⟩:=Option.isSome_iff_exists.1 hf
 obtain⟨⟨e,g1,g2⟩,_⟩:=ja7 hi
 have hil:=jx g1
 have hge:=he e (List.mem_of_getElem? g1)
 unfold JG jar;rw[hi];dsimp only;rw[jcd g1];unfold capW
 omega
theorem NewW.lt (hC:jk C) {w:Nat} (hN:NewW C h h' w):w<18446744073709551616:=by
 obtain⟨T1,t,a,b,_,d,rfl,_⟩:=hN
 exact mintW_lt hC.tn a b d
structure StI (C:HpC) (h:HpP) (T G:List Int):Prop where
 I:HeI C h
 t: ∀ x∈T,∃ w:Nat,x=(w:Nat)∧w<18446744073709551616∧OldH h.s.W.T w
 g: ∀ x∈G,∃ w:Nat,x=(w:Nat)∧w<18446744073709551616∧jbY h.s.W.T w
theorem StI.u (hS:StI C h T G):u64s T:=fun x hx=>by obtain⟨w,rfl,h1,_⟩:=hS.t x hx;omega
theorem StI.mvs (hC:jk C) (hS:StI C h T G) (m:j8 C true h h'):StI C h' T G:=
 ⟨hS.I.mvs hC m,fun x hx=>by obtain⟨w,e,h1,h2⟩:=hS.t x hx;exact⟨w,e,h1,h2.le (je7 hC hS.I m)⟩,fun x hx=>by obtain⟨w,e,h1,h2⟩:=hS.g x hx;exact⟨w,e,h1,h2.le (je7 hC hS.I m)⟩⟩
theorem StI.do_ (hC:jk C) (hS:StI C h T G) (ho:JN op):StI C (hpDo C h op).2 T G:=hS.mvs hC (jdN hC hS.I ho.v fun _=>rfl)
theorem StI.stp (hC:jk C) (hS:StI C h T G) {k u:Int}:StI C (jay C h k u).2 T G:=hS.mvs hC jfW
theorem StI.old (hC:jk C) (hS:StI C h T G) (ho:JN op) (h0:(hpDo C h op).1.h≠0):StI C (hpDo C h op).2 (T++ [(((hpDo C h op).1.h:Nat):Int)]) G:=by
 have hS':=hS.do_ hC ho
 refine⟨hS'.I,fun x hx=>?_,hS'.g⟩
 rcases List.mem_append.1 hx with hx|hx
 ·exact hS'.t x hx
 ·obtain rfl:=List.mem_singleton.1 hx
  have hN:=jel hC hS.I h0
  refine⟨_,rfl,hN.lt hC,?_⟩
  obtain⟨T1,t,a,b,cc,d,e',f⟩:=hN
  rw[e'];exact(jg8 a b d).1.le f
end
open Go.RowKit
set_option maxRecDepth 10000
section
variable {w0 : World} {F : jb} {c : Cfg} {vc vt v : Value} {l : List jU} {tn : Nat}
end
open Go.RowKit Go.ChangeShapes Go.WideShapes Go.ChangeAt Go.Deep Go.Joins
set_option maxRecDepth 100000
theorem jiB {H:Type} {P:Program} {e:TypeId} {n:Nat} {d:DataW H}: ∀ {l:List (DataW H)},d∈l→n∈d.weights P e→n∈DataW.weightsAll P e l
 |a::l,h,hn=>by
  simp only[DataW.weightsAll,List.mem_append]
  rcases List.mem_cons.1 h with rfl|h
  ·grind
  ·exact .inr (jiB h hn)
theorem jgW {P:Program} {α:Type} {E:Enc α} {H:Type} {enc:TypeId × Value→H} {W:World} {t e:TypeId} (ht:P.underlying t=some (.slice e)) (hk:P.cellsOf e=E.sz) (hk0:0<E.sz) {fuel:Nat} {cs:List Value} {x:DataW H × List MemPlace}
  (hf:DataW.trod enc P W 0 (fun _=>true) true fuel t cs=some x) (hz: ∀ n∈x.1.weights P t,n≤reachBytes) (Ok:α→Prop)
  (hR: ∀ fuel cs x,DataW.trod enc P W 0 (fun _=>true) true fuel e cs=some x→(∀ n∈x.1.weights P e,n≤reachBytes)→cs.length=E.sz→ ∃ y,cs=E.enc y∧Ok y):
  ∃ a n c ys,cs=[.slice a n c]∧SlW W E (.slice a n c) ys∧(∀ y∈ys,Ok y)∧ys.length*P.bytesOf e≤reachBytes:=by
 rcases open_slice ht hf with⟨hcs,_⟩|⟨a',len',cap',m,n,D,Pl,hcs,_,hl,hm,hmm,hxd,hx⟩
 ·exact⟨none,0,0,[],hcs,SlW.nil W E,(fun y hy=>by grind),by simp⟩
 ·simp only[if_true] at hmm;subst hmm;subst hxd;simp only[DataW.weights,ht] at hz
  have key: ∀ i,i<len'→ ∃ y,Ok y∧ ∀ j,j<E.sz→W.cell? (a'.add (i*E.sz+j))=(E.enc y)[j]? :=by
   intro i hi
   obtain⟨cs',h1,h2⟩:=hx i (by omega)
   rw[hk] at h1
   obtain⟨_,hlen,hat⟩:=World.cells?_some h1
   obtain⟨y,rfl,hy⟩:=hR _ _ _ h2 (fun n hn=>hz n (by
    refine List.mem_cons_of_mem _ (List.mem_append_left _ (jiB (d:=D i) ?_ hn))
    exact List.mem_map_of_mem (List.mem_range.2 hi))) hlen
   exact zkP
  obtain⟨ys,hys,hall⟩:=jgC len' (fun i y=>Ok y∧ ∀ j,j<E.sz→W.cell? (a'.add (i*E.sz+j))=(E.enc y)[j]?) key
  subst hys
  have hspot:0<ys.length→ ∃ b off,a'=⟨b,off,none⟩:=by
   intro hpos
   obtain⟨b,off,spot⟩:=a'
   obtain⟨y0,_,hc0⟩:=key 0 hpos
   have h1:=hc0 0 hk0
   rw[List.getElem?_eq_getElem (by rw[E.len];exact hk0)] at h1
   have hsp:spot=none:=by simpa [Addr.add] using World.cell?_spot h1
   subst hsp;exact⟨b,off,rfl⟩
  refine⟨some a',ys.length,_,ys,hcs,⟨⟨some a',_,rfl,hl,hm,fun hne=>?_⟩,?_⟩,?_,?_⟩
  ·obtain⟨b,off,rfl⟩:=hspot (List.length_pos_iff.2 hne)
   exact⟨b,off,rfl⟩
  ·intro i y hy j u hu
   have hi:=(List.getElem?_eq_some_iff.1 hy).1
   obtain⟨b,off,rfl⟩:=hspot (by omega)
   have hj:j<E.sz:=by have:=(List.getElem?_eq_some_iff.1 hu).1;rwa[E.len] at this
   have:=(hall i y hy).2 j hj
   rw[jbb,hu] at this
   simpa [adr] using this
  ·intro y hy
   obtain⟨i,hi⟩:=List.getElem?_of_mem hy
   exact(hall i y hi).1
  ·have:=hz _ (List.mem_cons_self ..)
   simp only[List.length_map,List.length_range] at this;refine Nat.le_trans (Nat.mul_le_mul_right _ ?_) this
   omega
section
variable {H : Type} {enc : TypeId × Value → H} {W : World}
theorem tn_in {fuel:Nat} {cs:List Value} {x:DataW H × List MemPlace} (hx:DataW.trod enc Tryz.prog W 0 (fun _=>true) true fuel 57 cs=some x) (hlen:cs.length=4): ∃ y:Tn,cs=tnE.enc y∧True:=by
 obtain⟨c0,c1,c2,c3,rfl⟩: ∃ c0 c1 c2 c3,cs=[c0,c1,c2,c3]:=by
  match cs,hlen with
  | [c0,c1,c2,c3],_=>grind
 obtain⟨xs,n,_,rfl,hl,hxl,hf⟩:=DataW.trod_struct Tryz.underlying57 hx
 have ki:(Tryz.prog).cellsOf 3=1:=by rfl
 match xs,hxl with
 | [y0,y1,y2,y3],_=>
  have h0:=hf 0 _ rfl
  have h1:=hf 1 _ rfl
  have h2:=hf 2 _ rfl
  have h3:=hf 3 _ rfl
  obtain⟨a0,e0,-,w0⟩:=DataW.trod_int Tryz.underlying3 (by simpa [ki] using h0)
  obtain⟨a1,e1,-,w1⟩:=DataW.trod_int Tryz.underlying3 (by simpa [ki] using h1)
  obtain⟨a2,e2,-,w2⟩:=DataW.trod_int Tryz.underlying3 (by simpa [ki] using h2)
  obtain⟨a3,e3,-,w3⟩:=DataW.trod_int Tryz.underlying3 (by simpa [ki] using h3)
  simp at e0 e1 e2 e3
  subst e0 e1 e2 e3;exact⟨⟨a0,a1,a2,a3⟩,rfl,trivial⟩
theorem jcF {base:Nat} {v:Value} {d:DataW H} {p:List MemPlace} (ho:Value.okWide Tryz.prog W .any base 25 v) (h:DataW.Trod enc Tryz.prog W 0 (fun _=>true) true 25 v d p) (hz: ∀ n∈d.weights Tryz.prog 25,n≤reachBytes):
  ∃ (c:Cfg) (vc vt:Value),v=jw c vc vt∧SlW W iE vc c.cl∧Jo W [] c vc vt∧vc.oneCell'=true:=by
 obtain⟨cs,rfl,hs⟩:=okWide_struct Tryz.underlying25 ho
 have k6:(Tryz.prog).cellsOf 25=6:=by kernel_rfl
 rw[k6] at hs
 obtain⟨fuel,hf⟩:=h
 obtain⟨c0,c1,c2,c3,c4,c5,hcs⟩: ∃ c0 c1 c2 c3 c4 c5,cs=[c0,c1,c2,c3,c4,c5].toArray:=by
  obtain⟨l⟩:=cs
  match l,hs with
  | [c0,c1,c2,c3,c4,c5],_=>exact⟨c0,c1,c2,c3,c4,c5,rfl⟩
 subst hcs
 obtain⟨xs,n,_,hx,hl,hxl,hfl⟩:=DataW.trod_struct Tryz.underlying25 hf
 obtain⟨rfl,rfl⟩:=Prod.mk.inj hx
 have ks:(Tryz.prog).cellsOf 22=1:=by kernel_rfl
 have kt:(Tryz.prog).cellsOf 23=1:=by kernel_rfl
 have ki:(Tryz.prog).cellsOf 3=1:=by kernel_rfl
 have b1:(Tryz.prog).bytesOf 3=8:=by kernel_rfl
 have b2:(Tryz.prog).bytesOf 57=32:=by kernel_rfl
 match xs,hxl with
 | [y0,y1,y2,y3,y4,y5],_=>
  have h0:=hfl 0 _ rfl
  have h1:=hfl 1 _ rfl
  have h2:=hfl 2 _ rfl
  have h3:=hfl 3 _ rfl
  have h4:=hfl 4 _ rfl
  have h5:=hfl 5 _ rfl
  simp only[DataW.weights,Tryz.underlying25] at hz
  obtain⟨a0,n0,m0,ys,e0,hS,_,hb⟩:=jgW (P:=Tryz.prog) (E:=iE) (x:=y0) Tryz.underlying22 (by kernel_rfl) (by decide) (by simpa [ks,Value.cells] using h0) (fun n hn=>hz n (DataW.weights_mem_each (j:=0) (t:=22) (d:=y0.1) rfl rfl n hn)) i64ok (fun fuel cs x hx _ hl=>int_in hx)
  obtain⟨a1,e1,-,w1⟩:=DataW.trod_int Tryz.underlying3 (by simpa [ki,Value.cells] using h1)
  obtain⟨a2,n2,m2,ts,e2,hT,_,hb2⟩:=jgW (P:=Tryz.prog) (E:=tnE) (x:=y2) Tryz.underlying23 (by kernel_rfl) (by decide) (by simpa [kt,Value.cells] using h2) (fun n hn=>hz n (DataW.weights_mem_each (j:=2) (t:=23) (d:=y2.1) rfl rfl n hn)) (fun _=>True) (fun fuel cs x hx _ hl=>tn_in hx hl)
  obtain⟨a3,e3,-,w3⟩:=DataW.trod_int Tryz.underlying3 (by simpa [ki,Value.cells] using h3)
  obtain⟨a4,e4,-,w4⟩:=DataW.trod_int Tryz.underlying3 (by simpa [ki,Value.cells] using h4)
  obtain⟨a5,e5,-,w5⟩:=DataW.trod_int Tryz.underlying3 (by simpa [ki,Value.cells] using h5)
  simp[Value.cells,ks,kt,ki] at e0 e1 e2 e3 e4 e5
  subst e0 e1 e2 e3 e4 e5;rw[b1] at hb;rw[b2] at hb2;unfold reachBytes at hb hb2;exact⟨⟨ys,a1,ts,a3,a4,a5⟩,_,_,rfl,hS,⟨Sli.old hS,Sli.old hT,rfl,rfl,by show ys.length≤_;omega,by show ts.length≤_;omega⟩,rfl⟩
end
set_option maxRecDepth 100000
section
variable {H : Type} {enc : TypeId × Value → H} {W : World}
end
open Go.RowKit
set_option maxRecDepth 10000
def tell (T:List Int) (w:Nat):List Int:=if w=0 then T else T++ [((w:Nat):Int)]
structure RunI (C:HpC) (l:List jU) (I:HpP→List Int→Prop):Prop where
 ok: ∀ h T,I h T→HeI C h∧u64s T
 s: ∀ h T k u,I h T→I (jay C h k u).2 T
 d: ∀ h T x,I h T→x∈l→x.work=false→I (hpDo C h (opA x T)).2 (tell T (hpDo C h (opA x T)).1.h)
section
variable {w0 : World} {F : jb} {v : Value} {l : List jU} {D : HpD} {y : CyM} {h : HpP} {f0 : Nat} {I : HpP → List Int → Prop}
end
set_option maxRecDepth 10000
section
variable {w0 : World} {F : jb} {D : HpD} {y : CyM} {h : HpP} {nf nk : Nat}
theorem StI.run {C:HpC} {l:List jU} (hC:jk C) (hlo: ∀ x∈l,J7 x):RunI C l (fun h T=>StI C h T []):=by
 refine⟨fun h T hS=>⟨hS.I,hS.u⟩,fun h T k u hS=>hS.stp hC,fun h T x hS hx _=>?_⟩
 have ho:=jc3 (hlo x hx) hS.u
 unfold tell
 split
 ·exact hS.do_ hC ho
 ·rename_i h0;exact hS.old hC ho h0
variable {c : Cfg} {vc vt v : Value} {l : List jU} {x : jU}
end
open Go.RowKit
set_option maxRecDepth 10000
structure EqI (g:PlG) (long:Nat) (S0:Nat→Prop) (A0:List Bool) (z z':CyP):Prop where
 ok:jr g long z
 ok':jr g long z'
 p:1≤z.ph
 p':1≤z'.ph
 I:CyI g S0 A0 z
 I':CyI g S0 A0 z'
 e:EqW g (NwP S0 A0 z.A) z z'
section
variable {g : PlG} {long nw : Nat} {z z' z'' s1 s1' : CyP} {x x' : List Int} {S0 : Nat → Prop} {A0 : List Bool} {t n : Nat} {y : jg}
theorem jJ.symm (h:jJ g x x' t):jJ g x' x t:=fun y hy j hj=>(h y hy j hj).symm
theorem EqI.symm (h:EqI g long S0 A0 z z'):EqI g long S0 A0 z' z:=⟨h.ok',h.ok,h.p',h.p,h.I',h.I,⟨h.e.A.symm,h.e.T.symm,h.e.N.symm,fun t ht=>(h.e.x t (by rw[←h.e.A];omega)).symm,fun a ha=>(h.e.out a ha).symm⟩⟩
theorem EqI.refl (h:jr g long z) (hp:1≤z.ph) (hI:CyI g S0 A0 z):EqI g long S0 A0 z z:=⟨h,h,hp,hp,hI,hI,⟨rfl,rfl,rfl,fun _ _=>jJ.refl,fun _ _=>rfl⟩⟩
theorem EqW.step (h:EqW g (NwP S0 A0 z.A) z z') (hw:ja4 g S0 A0 z' z''):EqW g (NwP S0 A0 z.A) z z'':=
 ⟨hw.A.trans h.A,hw.T.trans h.T,hw.N.trans h.N,fun t ht=>(h.x t ht).trans (hw.w t (by rw[h.A];omega)),fun a ha=>(hw.o a ha).trans (h.out a ha)⟩
theorem EqI.fin1 (ok:jc g) (h:EqI g long S0 A0 z z'):EqI g long S0 A0 z (finC g long z').2:=by
 have hr:=jds.ok ok h.ok'
 exact⟨h.ok,hr.ok,h.p,Nat.le_trans h.p' hr.ph,h.I,hr.I h.I',h.e.step (fin_W ok h.ok' h.I')⟩
theorem EqI.fin (ok:jc g) (h:EqI g long S0 A0 z z'):EqI g long S0 A0 (finC g long z).2 (finC g long z').2:=((h.fin1 ok).symm.fin1 ok).symm
theorem jek (t:Int):(shdC g long z t).A=z.A:=by grind[shdC]
theorem shdO_A (t:Int):(jM g long z t).A=z.A:=by
 grind[jM,jek]
theorem jks (ok:jc g) (hx:x.length=g.words) (hy:g.L[n]?=some y) {hd:HdP} {a:Nat} (ha: ¬(y.addr≤a∧a<y.addr+y.size)):wAt (makeP x y hd).2 a=wAt x a:=by
 have f1:=ok.fits hy
 grind[makeP,jaj,ja8]
theorem ji0 (ok:jc g) (hy:g.L[n]?=some y) {i v:Int} {a:Nat} (ha: ¬(y.addr≤a∧a<y.addr+y.size)):wAt (Jl x g.slots y i v).2 a=wAt x a:=by
 unfold Jl
 split
 ·rfl
 ·split
  ·rename_i hf
   have:=JQ hf
   grind[jaj]
  ·rfl
theorem eq_of (h:EqI g long S0 A0 z z') (a1:s1.A=z.A) (x1:s1.W.x=z.W.x) (a1':s1'.A=z'.A) (x1':s1'.W.x=z'.W.x) (hT:s1'.W.T=s1.W.T) (hN:s1'.W.N=s1.W.N):EqW g (NwP S0 A0 s1.A) s1 s1':=by
 refine⟨by rw[a1',a1];exact h.e.A,hT,hN,fun t ht=>?_,fun b hb=>?_⟩
 ·rw[a1] at ht;rw [x1,x1'];exact h.e.x t ht
 ·rw[x1,x1'];exact h.e.out b hb
theorem put_eq (ok:jc g) (h:EqI g long S0 A0 z z') (a1:s1.A=z.A) (w1:s1.W=z.W) (a1':s1'.A=z'.A) (w1':s1'.W=z'.W) (hy:g.L[n]?=some y) {i to:Int}:
  EqW g (NwP S0 A0 (jbZ g s1 (n:Nat) i to).A) (jbZ g s1 (n:Nat) i to) (jbZ g s1' (n:Nat) i to):=by
 unfold jbZ;rw[jC hy,w1,w1'];refine⟨a1'.trans (h.e.A.trans a1.symm),h.e.T,h.e.N,fun t ht=>?_,fun b hb=>?_⟩
 ·have ht':NwP S0 A0 s1.A t:=ht
  rw[a1] at ht'
  by_cases e:n=t
  ·subst e;exact jly ok h.ok.w.x h.ok'.w.x (h.e.x _ ht') hy
  ·exact(jfe ok hy e).symm.trans ((h.e.x t ht').trans (jfe ok hy e))
 ·exact(ji0 ok hy (hb _ _ hy)).trans ((h.e.out b hb).trans (ji0 ok hy (hb _ _ hy)).symm)
theorem EqI.sets (ok:jc g) (h:EqI g long S0 A0 z z') {a:jaB}:EqW g (NwP S0 A0 (jaU g long z a).A) (jaU g long z a) (jaU g long z' a):=by
 have e:=h.e
 unfold jaU;rw[e.T]
 cases hs:slotT z.W.T a.n with
 |none=>omega
 |some sl=>
  obtain⟨n,rfl,hn⟩:=jaT (J8 h.ok.w hs)
  obtain⟨y,hy⟩:=jY hn
  have hPn:NwP S0 A0 z.A n:=h.I.cl.slot hs
  have hrf:refP z'.W.x g.slots (ju g (n:Nat)) a.i=refP z.W.x g.slots (ju g (n:Nat)) a.i:=by
   rw[jC hy];exact jg3 ok (e.x n hPn) hy
  grind[e,put_eq,ok,shdO_A,jb6]
theorem EqI.acts (ok:jc g) (h:EqI g long S0 A0 z z') {a:jaB} (ha:2≤a.w%6):EqI g long S0 A0 (doesC g long z a) (doesC g long z' a):=by
 refine⟨jim ok h.ok,jim ok h.ok',by rw[jhN];exact h.p,by rw[jhN];exact h.p',h.I.does ok h.ok h.p,h.I'.does ok h.ok' h.p',?_⟩
 have e:=h.e
 unfold doesC
 ·have hn: ¬a.w%6<2:=by omega
  rw[if_neg hn,if_neg hn]
  by_cases h2:a.w%6=2
  ·rw[if_pos h2,if_pos h2];exact h.sets ok
  ·rw[if_neg h2,if_neg h2,e.T]
   cases hs:slotT z.W.T a.n with
   |none=>exact e
   |some sl=>
    dsimp only
    by_cases h3:a.w%6=3
    ·rw[if_pos h3,if_pos h3];exact eq_of h (jek _) (by show(shdC g long z _).W.x=_;rw [Jh]) (jek _) (by show(shdC g long z' _).W.x=_;rw [Jh]) (by show Jm (shdC g long z' _).W.T _=Jm (shdC g long z _).W.T _;rw [Jh,Jh,e.T]) (by show(shdC g long z' _).W.N=(shdC g long z _).W.N;rw [Jh,Jh,e.N])
    ·rw[if_neg h3,if_neg h3]
     by_cases h4:a.w%6=4
     ·rw[if_pos h4,if_pos h4];exact eq_of h rfl rfl rfl rfl e.T (by show JA z'.W.N _=JA z.W.N _;rw [e.N])
     ·rw[if_neg h4,if_neg h4];exact eq_of h (jek _) (by show(shdC g long z _).W.x=_;rw [Jh]) (jek _) (by show(shdC g long z' _).W.x=_;rw [Jh]) (by show(shdC g long z' _).W.T=(shdC g long z _).W.T;rw [Jh,Jh,e.T]) (by show J0 (shdC g long z' _).W.N _=J0 (shdC g long z _).W.N _;rw [Jh,Jh,e.N])
theorem bits_eq {l l':List Bool} (hl:l'.length=l.length) (h: ∀ t:Nat,l'[t]?=some true↔l[t]?=some true):l'=l:=List.ext_getElem? fun t=>by
 grind[bit_some]
theorem words_eq {x x':List Int} (hl:x'.length=x.length) (h: ∀ a,wAt x' a=wAt x a):x'=x:=List.ext_getElem? fun t=>by
 by_cases ht:t<x.length
 ·have:=h t
  grind[wAt]
 grind
theorem EqI.publish (h:EqI g long S0 A0 z z') (h3:z.ph=3) (h3':z'.ph=3) (gens:Int):(publishC g gens z').A=(publishC g gens z).A∧(publishC g gens z').W=(publishC g gens z).W∧z'.D.count true=z.D.count true∧recyN gens z'.W.T=recyN gens z.W.T:=by
 have e:=h.e
 obtain⟨a,b,c⟩:=h.ok.p3 h3
 obtain⟨a',b',c'⟩:=h.ok'.p3 h3'
 have hD:z'.D=z.D:=bits_eq (h.ok'.D.trans h.ok.D.symm) fun t=>by rw[h.I.D t,h.I'.D t,h3,h3',c,c']
 have hA:(publishC g gens z').A=(publishC g gens z).A:=by show(jaZ z'.A z'.D).2=(jaZ z.A z.D).2;rw [e.A,hD]
 obtain⟨k1,k2⟩:=h.I.publish h.ok h3 gens
 obtain⟨k1',k2'⟩:=h.I'.publish h.ok' h3' gens
 have hpl:=(jfi h.ok h3 gens).A
 have hx:z'.W.x=z.W.x:=words_eq (h.ok'.w.x.trans h.ok.w.x.symm) fun w=>by
  by_cases hin: ∃ (t:Nat) (y:jg),g.L[t]?=some y∧y.addr≤w∧w<y.addr+y.size
  ·obtain⟨t,y,hy,w1,w2⟩:=hin
   obtain⟨j,hj⟩: ∃ j,w=y.addr+j:=⟨w-y.addr,by omega⟩
   subst hj
   have ht:t<(publishC g gens z).A.length:=by rw[hpl];have:=jx hy;rwa[jbX] at this
   rcases bit_some ht with q|q
   ·exact e.x t ((k1 t).1 q) y hy j (by omega)
   ·rw[show wAt z'.W.x (y.addr+j)=0 from k2'.zr t (by rw[hA];exact q) y hy j (by omega),show wAt z.W.x (y.addr+j)=0 from k2.zr t q y hy j (by omega)]
  ·exact e.out w fun t y hy hw=>hin ⟨t,y,hy,hw⟩
 refine⟨hA,?_,by rw[hD],by rw[e.T]⟩
 show(⟨z'.W.x,Ji gens z'.W.T,z'.W.N⟩:MwP)=⟨z.W.x,Ji gens z.W.T,z.W.N⟩
 rw[e.T,e.N,hx]
end
section
variable {g : PlG} {long nw : Nat} {z z' z1 : CyP} {S0 : Nat → Prop} {A0 : List Bool} {n t : Nat} {y : jg}
theorem EqI.help (ok:jc g) (h:EqI g long S0 A0 z z') (hs:jZ g long z=some z1):EqI g long S0 A0 z1 z':=by
 have hw:=je9 ok h.ok h.I hs
 have hp:=(jf5 hs).2
 exact(EqI.mk h.ok' (jf6 ok h.ok hs) h.p' (Nat.le_trans h.p hp) h.I' (h.I.help ok h.ok hs) (h.symm.e.step hw)).symm
theorem EqI.step (ok:jc g) (h:EqI g long S0 A0 z z') {k u:Int} (hs:stepC g long nw z k u=some z1):EqI g long S0 A0 z1 z':=by
 have hw:=jgh ok h.ok h.I hs
 have hp:=(jh4 hs).2
 exact(EqI.mk h.ok' (jla ok h.ok hs) h.p' (Nat.le_trans h.p hp) h.I' (h.I.step ok h.ok hs) (h.symm.e.step hw)).symm
theorem jiM (ok:jc g) {x:List Int} (hy:g.L[n]?=some y) {i v:Int} {a:Nat} (ha: ¬(y.addr≤a∧a<y.addr+y.size)):wAt (Jk x y i v).2 a=wAt x a:=by
 unfold Jk
 split
 ·rename_i hf
  have:=JQ hf
  grind[jaj]
 ·rfl
theorem jlj (ok:jc g) {x x':List Int} (hx:x.length=g.words) (hx':x'.length=g.words) (h:jJ g x x' t) (hy:g.L[t]?=some y) {i v:Int}:jJ g (Jk x y i v).2 (Jk x' y i v).2 t:=fun z hz j hj=>by
 rw[hy] at hz;cases hz
 have f1:=ok.fits hy
 unfold Jk;rw[jeP ok h hy]
 split
 ·rename_i hf
  have hin:=JQ hf
  rw[jeK (by omega),jeK (by omega),h y hy j hj]
 ·exact h y hy j hj
theorem EqI.word (ok:jc g) (h:EqI g long S0 A0 z z') {k i w:Int} (hs:slotT z.W.T k=some ((n:Nat):Int)) (hw:0≤w∧w<18446744073709551616):EqI g long S0 A0 (JT g z (n:Nat) i w) (JT g z' (n:Nat) i w):=by
 have hs':slotT z'.W.T k=some ((n:Nat):Int):=by rw[h.e.T];omega
 have hin:=J8 h.ok.w hs
 have hn:n<g.slots:=by have:=hin.2;omega
 obtain⟨y,hy⟩:=jY hn
 refine⟨jfV ok h.ok hn hw,jfV ok h.ok' hn hw,h.p,h.p',h.I.act (jgf ok h.ok h.I.cl hs),h.I'.act (jgf ok h.ok' h.I'.cl hs'),?_⟩;unfold JT;rw[jC hy];refine⟨h.e.A,h.e.T,h.e.N,fun t ht=>?_,fun a ha=>?_⟩
 ·by_cases e:n=t
  ·subst e;exact jlj ok h.ok.w.x h.ok'.w.x (h.e.x _ ht) hy
  ·exact(jgx ok hy e).symm.trans ((h.e.x t ht).trans (jgx ok hy e))
 ·exact(jiM ok hy (ha _ _ hy)).trans ((h.e.out a ha).trans (jiM ok hy (ha _ _ hy)).symm)
theorem EqI.read (ok:jc g) (h:EqI g long S0 A0 z z') (hn:n<g.slots) (hP:NwP S0 A0 z.A n):EqI g long S0 A0 (jbJ g long z (n:Nat)) (jbJ g long z' (n:Nat)):=by
 have hP':NwP S0 A0 z'.A n:=by rw[h.e.A];exact hP
 have a1: ∀ q:CyP,(jbJ g long q (n:Nat)).A=q.A:=fun q=>jek _
 have p1: ∀ q:CyP,(jbJ g long q (n:Nat)).ph=q.ph:=fun q=>by
  show(shdC _ _ _ _).ph=_
  unfold shdC;split<;>rfl
 refine⟨jh9 ok h.ok hn,jh9 ok h.ok' hn,by rw[p1];exact h.p,by rw[p1];exact h.p',h.I.act (jgk ok h.ok h.I.cl hn hP),h.I'.act (jgk ok h.ok' h.I'.cl hn hP'),?_⟩;refine eq_of h (a1 _) (by show(shdC _ _ _ _).W.x=_;rw [Jh]) (a1 _) (by show(shdC _ _ _ _).W.x=_;rw [Jh]) ?_ ?_
 ·show jK (shdC _ _ z' _).W.T _=jK (shdC _ _ z _).W.T _
  rw[Jh,Jh,h.e.T]
 ·show(shdC _ _ z' _).W.N=(shdC _ _ z _).W.N
  rw[Jh,Jh,h.e.N]
theorem EqI.make (ok:jc g) (h:EqI g long S0 A0 z z') {k:Int} {hd:HdP} (ht:(takeP g z.A k).2.1=0):EqI g long S0 A0 (mkC g z k hd) (mkC g z' k hd):=by
 have e:=h.e
 have ht':(takeP g z'.A k).2.1=0:=by rw[e.A];exact ht
 obtain⟨j,ej,hm⟩:=mk_N ok h.ok (hd:=hd) ht
 obtain⟨j',ej',hm'⟩:=mk_N ok h.ok' (hd:=hd) ht'
 refine⟨mk_cy ok h.ok ht,mk_cy ok h.ok' ht',by rw[hm.ph];exact h.p,by rw[hm'.ph];exact h.p',h.I.make ok h.ok h.p hm,h.I'.make ok h.ok' h.p' hm',?_⟩
 obtain⟨k',i,_,_,hf,et,_⟩:=jdh ht
 obtain⟨_,_,h3,_⟩:=jcP hf
 have hl:=jx h3
 rw[h.ok.A] at hl
 obtain⟨y,hy⟩:=jY hl
 have hz:=h.I.zr i h3
 have hz':=h.I'.zr i (by rw[e.A];exact h3)
 have hs:jJ g z.W.x z'.W.x i:=fun q hq j hj=>by rw[hz' q hq j hj,hz q hq j hj]
 unfold mkC;rw[e.A,e.T,et];dsimp only;rw[jC hy];refine⟨rfl,rfl,e.N,fun t ht=>?_,fun b hb=>?_⟩
 ·by_cases etj:t=i
  ·subst etj;exact(make_cong ok h.ok.w.x h.ok'.w.x hs hy).2
  ·have hP:NwP S0 A0 z.A t:=by
    rcases ht with q|⟨q1,q2⟩
    ·exact .inl q
    ·have q1':(z.A.set i true)[t]?=some true:=q1
     rw[List.getElem?_set_ne (by omega)] at q1';exact .inr ⟨q1',q2⟩
   exact(jcM ok h.ok.w.x hy _ (fun e=>etj e.symm)).symm.trans ((e.x t hP).trans (jcM ok h.ok'.w.x hy _ (fun e=>etj e.symm)))
 ·exact(jks ok h.ok'.w.x hy (hb _ _ hy)).trans ((e.out b hb).trans (jks ok h.ok.w.x hy (hb _ _ hy)).symm)
end
structure HpE (C:HpC) (h h':HpP):Prop where
 I:HeI C h
 I':HeI C h'
 si:h'.p.since=h.p.since
 cy:h'.p.cyc=h.p.cyc
 ac:h'.p.act=h.p.act
 r:(h.s.ph=0∧h'.s.ph=0∧h'.s.A=h.s.A∧h'.s.W=h.s.W)∨ ∃ S0 A0,EqI C.g C.long S0 A0 h.s h'.s
section
variable {C : HpC} {h h' : HpP} {s s' : CyP} {n t : Nat}
theorem HpE.symm (e:HpE C h h'):HpE C h' h:=⟨e.I',e.I,e.si.symm,e.cy.symm,e.ac.symm,by
 rcases e.r with⟨a,b,c,d⟩|⟨S0,A0,a⟩
 ·grind
 ·exact .inr ⟨S0,A0,a.symm⟩⟩
theorem HpE.A (e:HpE C h h'):h'.s.A=h.s.A:=by
 rcases e.r with⟨a,b,c,d⟩|⟨S0,A0,a⟩
 ·omega
 ·exact a.e.A
theorem HpE.T (e:HpE C h h'):h'.s.W.T=h.s.W.T:=by
 rcases e.r with⟨a,b,c,d⟩|⟨S0,A0,a⟩
 ·rw[d]
 ·exact a.e.T
theorem HpE.N (e:HpE C h h'):h'.s.W.N=h.s.W.N:=by
 rcases e.r with⟨a,b,c,d⟩|⟨S0,A0,a⟩
 ·rw[d]
 ·exact a.e.N
theorem HpE.x (e:HpE C h h') (ht:RchM C.g h.s.W t):jJ C.g h.s.W.x h'.s.W.x t:=by
 rcases e.r with⟨a,b,c,d⟩|⟨S0,A0,a⟩
 ·grind[jJ.refl]
 ·exact a.e.x t (a.I.cl.rch ht)
theorem HpE.wk (e:HpE C h h') (n n':Nat):HpE C {h with wk:=n} {h' with wk:=n'}:=⟨⟨e.I.ok,e.I.t0,e.I.i1,e.I.pa,e.I.pb,e.I.e,e.I.n⟩,⟨e.I'.ok,e.I'.t0,e.I'.i1,e.I'.pa,e.I'.pb,e.I'.e,e.I'.n⟩,e.si,e.cy,e.ac,e.r⟩
theorem HpE.ph (e:HpE C h h'):h.s.ph=0↔h'.s.ph=0:=by
 rcases e.r with⟨a,b,c,d⟩|⟨S0,A0,a⟩
 ·omega
 ·have:=a.p;have:=a.p';omega
theorem HpE.one (hC:jk C) (e:HpE C h h') {p:PaP} {wk:Nat} (hs:jZ C.g C.long h.s=some s∨ ∃ k u,stepC C.g C.long C.nw h.s k u=some s) (h1:p.since=h.p.since) (h2:p.cyc=h.p.cyc) (h3:p.act=h.p.act) (hb:PaB p):HpE C ⟨s,p,wk⟩ h':=by
 have m:j8 C true h ⟨s,p,wk⟩:=by
  rcases hs with hs|⟨k,u,hs⟩
  ·exact(HpMv.one (.help hs)).tail (.free (h:={h with s:=s}) h3 fun _=>hb)
  ·exact(HpMv.one (.step hs)).tail (.free (h:={h with s:=s}) h3 fun _=>hb)
 refine⟨e.I.mvs hC m,e.I',e.si.trans h1.symm,e.cy.trans h2.symm,e.ac.trans h3.symm,?_⟩
 rcases e.r with⟨a,_⟩|⟨S0,A0,a⟩
 ·grind[jdA,jed]
 ·rcases hs with hs|⟨k,u,hs⟩
  ·exact .inr ⟨S0,A0,a.help hC.g hs⟩
  ·exact .inr ⟨S0,A0,a.step hC.g hs⟩
theorem HpE.stp (hC:jk C) (e:HpE C h h') (k u:Int):HpE C (jay C h k u).2 h':=by
 unfold jay
 split
 ·cases hs:stepC C.g C.long C.nw h.s k u with
  |none=>omega
  |some s=>exact e.one hC (.inr ⟨k,u,hs⟩) rfl rfl rfl e.I.pb
 omega
theorem HpE.begin (hC:jk C) (e:HpE C h h') (h0:h.s.ph=0):HpE C (jaE C h) (jaE C h'):=by
 have h0':=e.ph.1 h0
 have hI:=e.I.mv hC (wr:=true) (.begin h0)
 have hI':=e.I'.mv hC (wr:=true) (.begin h0')
 rcases e.r with⟨_,_,c,d⟩|⟨S0,A0,a⟩
 ·have i1:=CyI.begin e.I.ok h0 (e.I.t0 h0)
  have i2:=CyI.begin e.I'.ok h0' (e.I'.t0 h0')
  rw[d,c] at i2;refine⟨hI,hI',?_,?_,?_, .inr ⟨_,_,⟨hI.ok,hI'.ok,Nat.le_refl 1,Nat.le_refl 1,i1,i2,⟨c,by show h'.s.W.T=h.s.W.T;rw [d],by show h'.s.W.N=h.s.W.N;rw [d],fun t _=>by show jJ _ h.s.W.x h'.s.W.x t;rw [d];exact jJ.refl,fun b _=>by show wAt h'.s.W.x b=wAt h.s.W.x b;rw [d]⟩⟩⟩⟩
  all_goals
   unfold jaE jaH;dsimp only;rw[e.ac]
   split
   ·first|exact e.si|exact e.cy|exact e.ac
   ·first|rfl|exact e.cy
 ·have:=a.p;omega
theorem HpE.end_ (hC:jk C) (e:HpE C h h') (h0:h.s.ph≠0):HpE C (jas C h) (jas C h'):=by
 have h0':h'.s.ph≠0:=fun q=>h0 (e.ph.2 q)
 have hI:=e.I.mvs hC (jeh (wr:=true) hC e.I h0)
 have hI':=e.I'.mvs hC (jeh (wr:=true) hC e.I' h0')
 rcases e.r with⟨a,_⟩|⟨S0,A0,a⟩
 ·exact absurd a h0
 ·have f:=a.fin hC.g
  obtain⟨q1,q2,_⟩:=f.publish (jeY hC.g e.I.ok h0) (jeY hC.g e.I'.ok h0') C.gn
  refine⟨hI,hI',?_,?_,?_, .inl ⟨rfl,rfl,q1,q2⟩⟩
  all_goals
   unfold jas jaH;dsimp only;rw[e.ac]
   split
   ·first|exact e.si|exact e.cy|exact e.ac
   ·first|rfl|(rw [e.cy])
theorem HpE.act (hC:jk C) (e:HpE C h h') (m:HpMv C true h {h with s:=s}) (m':HpMv C true h' {h' with s:=s'})
  (h1:h.s.ph=0→s.ph=0∧s'.ph=0∧s'.A=s.A∧s'.W=s.W) (h2: ∀ S0 A0,EqI C.g C.long S0 A0 h.s h'.s→EqI C.g C.long S0 A0 s s'):HpE C {h with s:=s} {h' with s:=s'}:=
 ⟨e.I.mv hC m,e.I'.mv hC m',e.si,e.cy,e.ac,by
  rcases e.r with⟨a,_⟩|⟨S0,A0,a⟩
  ·grind
  grind⟩
end
open Go.RowKit
set_option maxRecDepth 10000
section
variable {C : HpC} {h h' : HpP} {s s' : CyP} {n t : Nat}
theorem jiA {g:PlG} {long:Nat} (h0:s.ph=0) (t:Int):shdC g long s t=s:=by grind[shdC]
theorem shdO_0 {g:PlG} {long:Nat} (h0:s.ph=0) (t:Int):jM g long s t=s:=by
 grind[jM,jiA]
theorem HpE.acts (hC:jk C) (e:HpE C h h') {a:jaB} (ha:2≤a.w%6):HpE C {h with s:=doesC C.g C.long h.s a} {h' with s:=doesC C.g C.long h'.s a}:=by
 refine e.act hC (.acts ha fun q=>by grind) (.acts ha fun q=>by grind) (fun h0=>?_) fun S0 A0 q=>q.acts hC.g ha
 rcases e.r with⟨_,h0',c,d⟩|⟨S0,A0,q⟩
 ·grind[doesC,jaU,jbZ,h2,shdO_0,jiA]
 ·have:=q.p;omega
theorem HpE.word (hC:jk C) (e:HpE C h h') {k i w:Int} (hs:slotT h.s.W.T k=some ((n:Nat):Int)) (hw:0≤w∧w<18446744073709551616):HpE C {h with s:=JT C.g h.s (n:Nat) i w} {h' with s:=JT C.g h'.s (n:Nat) i w}:=by
 refine e.act hC (.word rfl hs hw) (.word rfl (by rw[e.T];exact hs) hw) (fun h0=>?_) fun S0 A0 q=>q.word hC.g hs hw
 rcases e.r with⟨_,h0',c,d⟩|⟨S0,A0,q⟩
 ·grind[JT]
 ·have:=q.p;omega
theorem HpE.read (hC:jk C) (e:HpE C h h') {k i:Int} (hs:slotT h.s.W.T k=some ((n:Nat):Int)) (hr:refO C.g h.s.W.x ((n:Nat):Int) i=some ((t:Nat):Int)) (hf:(Ju h.s.W.T).isSome=true):HpE C {h with s:=jbJ C.g C.long h.s (t:Nat)} {h' with s:=jbJ C.g C.long h'.s (t:Nat)}:=by
 have hrn:RchM C.g h.s.W n:=jax.slot hs
 refine e.act hC (.read hs hr hf) (.read (by rw[e.T];exact hs) (by rw[jbA hC.g (e.x hrn)];exact hr) (by rw[e.T];omega)) (fun h0=>?_) fun S0 A0 q=>q.read hC.g (jf0 hr) (q.I.cl.edge (q.I.cl.slot hs) hr)
 rcases e.r with⟨_,h0',c,d⟩|⟨S0,A0,q⟩
 ·grind[jbJ,jiA]
 ·have:=q.p;omega
theorem HpE.make (hC:jk C) (e:HpE C h h') {k:Int} {hd:HdP} (ht:(takeP C.g h.s.A k).2.1=0) (hf:(Ju h.s.W.T).isSome=true) (hu:usedL C.g.L (takeP C.g h.s.A k).2.2≤C.g.q) (hl:jad (ju C.g (takeP C.g h.s.A k).1) hd=true):HpE C {h with s:=mkC C.g h.s k hd} {h' with s:=mkC C.g h'.s k hd}:=by
 refine e.act hC (.make ht hf hu hl) (.make (by rw[e.A];omega) (by rw[e.T];omega) (by rw[e.A];omega) (by rw[e.A];omega)) (fun h0=>?_) fun S0 A0 q=>q.make hC.g ht
 rcases e.r with⟨_,h0',c,d⟩|⟨S0,A0,q⟩
 ·grind[takeP,mkC]
 ·have:=q.p;omega
theorem HpE.head (hC:jk C) (e:HpE C h h') {k:Int} {y:jg} (hs:slotT h.s.W.T k=some ((n:Nat):Int)) (hy:C.g.L[n]?=some y):jJ C.g h.s.W.x h'.s.W.x n:=e.x (jax.slot hs)
end
set_option maxRecDepth 10000
section
variable {w0 : World} {F : jb} {c : Cfg} {vc vt v u : Value} {l m : List jU}
theorem HpE.new {C:HpC} (hC:jk C):HpE C (newH C) (newH C):=⟨HeI.new hC,HeI.new hC,rfl,rfl,rfl, .inl ⟨rfl,rfl,rfl,rfl⟩⟩
theorem HpE.same {C:HpC} {h h':HpP} (e:HpE C h h') (h0:h.s.ph=0):h'.s.W.x=h.s.W.x:=by
 rcases e.r with⟨_,_,_,d⟩|⟨S0,A0,a⟩
 ·rw[d]
 ·have:=a.p;omega
theorem u64s.app {T:List Int} (hT:u64s T) {n:Nat} (hn:n<18446744073709551616):u64s (T++ [((n:Nat):Int)]):=fun x hx=>by
 rcases List.mem_append.1 hx with hx|hx
 ·exact hT x hx
 ·obtain rfl:=List.mem_singleton.1 hx;omega
end
open Go.RowKit
set_option maxRecDepth 10000
section
variable {C : HpC} {h h' : HpP} {z n : Nat} {T : List Int}
theorem DqI.wk0 (d:DqI C z n h):DqI C z n {h with wk:=0}:=⟨d.I.wk0,d.u,d.N,d.nd,d.n,d.o⟩
structure DrI (C:HpC) (h:HpP) (T:List Int):Prop where
 I:HeI C h
 t:u64s T
 u:UsI C h
 l:LvT C.tn (T.map Int.toNat) h.s.W.T
 N: ∀ v∈h.s.W.N,v=0
theorem DrI.new (hC:jk C):DrI C (newH C) []:=by
 refine⟨HeI.new hC,fun x hx=>(by grind),?_,fun k e h1 h2=>?_,fun v hv=>List.eq_of_mem_replicate hv⟩
 ·unfold UsI;rw[jgS]
  ·omega
  ·intro t ht
   have h9:(List.replicate C.g.slots false)[t]?=some true:=ht
   grind
 ·have h9:(List.replicate C.caps (⟨0,0,1⟩:jh))[k]?=some e:=h1
  grind
theorem tell_map {T:List Int} {w:Nat}:(tell T w).map Int.toNat=jbT (T.map Int.toNat) w:=by
 grind[tell,jbT]
theorem DrI.run {l:List jU} (hC:jk C) (hlo: ∀ x∈l,J7 x) (h4: ∀ x∈l,x.work=false→x.o.c≠4):RunI C l (DrI C):=by
 refine⟨fun h T d=>⟨d.I,d.t⟩,fun h T k u d=>?_,fun h T x d hx hw=>?_⟩
 ·obtain⟨a,b⟩:=jbg.stp hC d.I (k:=k) (u:=u)
  exact⟨d.I.mvs hC (jfW (wr:=true)),d.t,d.u.mvs hC d.I (jfW (wr:=true)),by rw[a];exact d.l,by rw[b];exact d.N⟩
 ·have ho:=jc3 (hlo x hx) d.t
  have hm:j8 C true h (hpDo C h (opA x T)).2:=jdN hC d.I ho.v fun _=>rfl
  obtain⟨a,b⟩:=do_lv hC d.I (op:=opA x T) (h4 x hx hw) d.N d.l
  refine⟨d.I.mvs hC hm,?_,d.u.mvs hC d.I hm,by grind[tell_map],b⟩;unfold tell
  split
  ·exact d.t
  ·rename_i h0
   intro y hy
   rcases List.mem_append.1 hy with hy|hy
   ·exact d.t y hy
   ·obtain rfl:=List.mem_singleton.1 hy
    have:=(jel hC d.I h0).lt hC
    omega
theorem DrI.drop (hC:jk C) {x:Int} {R:List Int} (d:DrI C h (x::R)): ∃ w:Nat,x=(w:Nat)∧w<18446744073709551616∧DrI C (hpDo C h ⟨6,w,0,0,0⟩).2 R:=by
 have hx:=d.t x (.head _)
 obtain⟨w,rfl⟩: ∃ w:Nat,x=w:=⟨x.toNat,by omega⟩
 have hl:LvT C.tn (w::R.map Int.toNat) h.s.W.T:=by have:=d.l;grind
 have hm:j8 C true h (hpDo C h ⟨6,w,0,0,0⟩).2:=jdN hC d.I (show(0:Nat)<18446744073709551616 by decide) fun _=>rfl
 obtain⟨_,b⟩:=do_lv hC d.I (op:=⟨6,w,0,0,0⟩) (by grind) d.N d.l
 exact⟨w,rfl,by omega,d.I.mvs hC hm,fun y hy=>d.t y (List.mem_cons_of_mem _ hy),d.u.mvs hC d.I hm,drop_told hC d.I hl,b⟩
theorem DrI.nil (d:DrI C h []):DqI C z 0 h:=by
 have hl:JM h.s.W.T=[]:=LvT.nil d.l
 exact⟨d.I,d.u,d.N,by grind,by grind,fun t ht=>by grind⟩
end
end Go.Proofs.YtpcgafhgfjlkmaaGreatDoor.Sw
namespace Go.Proofs.YtpcgafhgfjlkmaaGreatDoor
open Go.RowKit
section
variable {P : Program} {w0 : World} {m : jl} {H F : jb} {ty : TypeId} {α : Type} {E : Enc α} {v : Value} {xs ys : List α} {o : Own} {e : TypeId}
end
end Go.Proofs.YtpcgafhgfjlkmaaGreatDoor
namespace Go.Proofs.YtpcgafhgfjlkmaaGreatDoor.Sw
open Go.Proofs.YtpcgafhgfjlkmaaGreatDoor renaming lo → qL, hi → qH
set_option maxRecDepth 100000
section
variable {w0 : World} {F : jb} {D : HpD} {y : CyM} {h : HpP} {nf nk : Nat}
variable {c : Cfg} {vc vt v : Value} {l : List jU}
end
set_option maxRecDepth 10000
section
variable {g : PlG} {k d j : Nat}
end
open Go.RowKit
set_option maxRecDepth 10000
section
variable {w0 : World} {F : jb} {D : HpD} {y : CyM} {h : HpP} {nf nk : Nat}
end
set_option maxRecDepth 100000
section
variable {w0 : World} {F : jb} {c : Cfg} {vc vt v : Value} {l : List jU} {tn : Nat}
theorem WkI.new {C:HpC}:WkI C (newH C):=⟨fun q=>absurd rfl q⟩
theorem NewO.wk0 {C:HpC} {h:HpP} {w:Nat} {a b:Int} (hN:NewO C h w a b):NewO C {h with wk:=0} w a b:=⟨hN.ex⟩
end
set_option maxRecDepth 10000
section
variable {C : HpC} {h : HpP} {w j v : Nat} {a b : Int} {y : jg} {hd : HdP}
end
open Go.RowKit
set_option maxRecDepth 10000
section
variable {C : HpC} {h : HpP} {w v j : Nat} {y : jg}
end
set_option maxRecDepth 10000
section
variable {w0 : World} {F : jb}
end
set_option maxRecDepth 10000
section
variable {w0 : World} {F : jb} {D : HpD} {y : CyM} {h : HpP} {nf nk n : Nat} {z : jg}
end
open Go.RowKit
set_option maxRecDepth 100000
section
variable {w0 : World} {F : jb} {c : Cfg} {vc vt v : Value} {l : List jU} {tn : Nat}
theorem UsI.new {C:HpC}:UsI C (newH C):=by
 show usedL C.g.L (List.replicate C.g.slots false)≤C.g.q
 rw[jfD];exact Nat.zero_le _
end
set_option maxRecDepth 100000
section
variable {w0 : World} {F : jb} {c : Cfg} {vc vt v : Value} {l : List jU} {wv : Nat}
end
set_option maxRecDepth 10000
set_option maxRecDepth 100000
theorem HdI.new {C:HpC} (hC:jk C):HdI C (newH C):=fun t ht=>by
 have h1:=(HeI.new hC).rch ht
 have h2:(List.replicate C.g.slots false)[t]?=some true:=h1
 rw[List.getElem?_replicate] at h2
 split at h2<;>cases h2
theorem WrI.run {C:HpC} {l:List jU} (hC:jk C) (hlo: ∀ x∈l,J7 x):RunI C l (fun h T=>StI C h T []∧HdI C h):=by
 refine⟨fun h T hS=>⟨hS.1.I,hS.1.u⟩,fun h T k u hS=>⟨hS.1.stp hC,hS.2.mvs hC hS.1.I (jfW (wr:=true))⟩,fun h T x hS hx hw=>⟨(StI.run hC hlo).d h T x hS.1 hx hw,hS.2.mvs hC hS.1.I (jdN (wr:=true) hC hS.1.I (jc3 (hlo x hx) hS.1.u).v fun _=>rfl)⟩⟩
section
variable {w0 : World} {F : jb} {c : Cfg} {vc vt v : Value} {l : List jU} {x : jU}
end
open Go.RowKit
set_option maxRecDepth 100000
section
variable {w0 : World} {F : jb} {c : Cfg} {vc vt v : Value} {op : OpP} {x : jU}
end
end Go.Proofs.YtpcgafhgfjlkmaaGreatDoor.Sw
