/-The walker and the contracts that the law needs,part 38. -/
import Derived.Test.YtpcgafhgfjlkmaaGreatDoorD1
import Derived.ArgAppend
import Derived.ChangeMaps5
import Derived.Deep.Fields
import Derived.Deep.LoopGhost
import Derived.Deep.OwnRows
import Derived.Deep.Quiet
import Derived.Deep.Slices
import Derived.IntWalk
import Derived.Laws.Cells
import Derived.Laws.CopyOwn
import Derived.Laws.Externs
import Derived.Laws.FloatArith
import Derived.Laws.IdiomStrings
import Derived.Laws.NewFold
import Derived.Laws.StructEq
import Derived.Lib.BitFns
import Derived.Lib.Hide
import Derived.Lib.SmallJoins
import Derived.Lib.TrailingZeros
import Derived.Maps.RangeRun
import Derived.OrdersIn
import Derived.ProofKit
import Derived.RangeFuncBound
import Derived.RangeFuncCalls
import Derived.RangeFuncLeaves
import Derived.RangeFuncNested
import Derived.RecoverIn
import Derived.Shelf.Bits.Mul64
import Derived.Shelf.Slices.Turned
import Derived.Shelf.Spec.TrailingZeros
import Derived.Shelf.Strconv.Itoa0
import Derived.SizedLaws
import Derived.Sort.BigQuietIn
import Derived.StillTailTactics
import Derived.Test.YtpcgafhgfjlkmaaGreatDoorProg
import Derived.WalkKit
import Derived.Test.YtpcgafhgfjlkmaaGreatDoorJ37
set_option linter.unusedVariables false set_option linter.unusedSimpArgs false namespace Go.Proofs.YtpcgafhgfjlkmaaGreatDoor.Sw
set_option maxHeartbeats 8000000
open Go.Proofs.YtpcgafhgfjlkmaaGreatDoor renaming lo → qL, hi → qH
open Go.RowKit
set_option linter.unusedVariables false
set_option linter.unusedSimpArgs false
set_option maxRecDepth 10000
def opsL:List Value:=[.nilFunc, .func (.func 132) #[] #[], .func (.func 133) #[] #[], .func (.func 134) #[] #[], .func (.func 135) #[] #[], .func (.func 136) #[] #[], .func (.func 137) #[] #[], .func (.func 138) #[] #[]]
theorem jcZ {w0:World} {H:jb}:Call Tryz.prog w0 88 [] H (fun r H'=>r= .agg opsL.toArray∧H'=H):=by
 refine Call.enter0 (n:=2) (by kernel_rfl) Tryz.func88 rfl rfl rfl ?_;refine zy ?_;refine zee ?_;intro b0;refine zfz ?_;exact zZ
section
variable {w0 : World} {D : HpD} {nf nk n : Nat} {y y' : CyM} {h : HpP} {s s' : CyP} {F G : jb} {op : OpP} {z : jg}
structure JN (op:OpP):Prop where
 c:op.c<256
 h:op.h<18446744073709551616
 v:op.v<18446744073709551616
theorem jmC {x:List Int} {z:jg}:(jaG x z).length≤1000000:=by
 unfold jaG
 cases hh:headP x z with
 |none=>exact Nat.zero_le _
 |some q=>
  have:=jbm (jaD (jaY hh).2).1
  simp only[List.length_map,List.length_range]
  omega
structure DsS where
 y:CyM
 b:Nat
theorem jdI {v:SnP × HpP} {nf' nk':Nat} {A:jb} {f:FuncId} {args:List Value} {H:jb} (hf:nf≤nf') (hk:nk≤nk') (hc:Call Tryz.prog w0 f args H (fun r H'=>r=snV v.1∧HpQ D nf nk v.2 A H')):Call Tryz.prog w0 f args H (fun r H'=>r=snV v.1∧ ∃ y',HpR D nf' nk' y' v.2∧H'=hpH D y' v.2++A):=
 hc.mono fun r H' ⟨h1,y',h2,h3⟩=>⟨h1,y',h2.mono hf hk,h3⟩
theorem jmo (hG:js w0) (hD:HpDok D) (hI:HeI D.C h) (h1:HpR D nf 0 y h) (hf:nf≤900000) (ho:JN op) (hc:op.c=2):Call Tryz.prog w0 50 [.pointer (some ⟨D.b,0,none⟩),opV op] (hpH D y h++F) (fun r H'=>r=snV (jt D.C h op).1∧HpQ D (nf+2) 400000000 (jt D.C h op).2 F H'):=by
 have htold:=fun A (e:Int)=>ja0 (w0:=w0) (H:=A) (e:=e)
 have hopers:=fun A=>jcZ (w0:=w0) (H:=A)
 unfold opsL at hopers
 have hsl:=fun A=>jcW (w0:=w0) (F:=A) ho.h h1
 unfold jt;rw[if_neg (by rw[hc];decide),if_neg (by rw[hc];decide)]
 have hop: ∀ sl,hpOp D.C h op sl=JF D.C h sl op.a:=fun sl=>by unfold hpOp;rw [if_pos hc]
 simp only[hop];unfold HpQ
 have hc2:((op.c:Nat):Int)=2:=by omega
 cases hs:hpSlot D.C.tn h.s.W.T op.h with
 |none=>
  simp only[hs,Option.getD_none,Option.isSome_none] at hsl;dsimp only;unfold opV;rw[hc2];refine zdG ?_;intro b3 b4 b5;refine zU ?_;refine zbg ?_;refine zag ?_;refine zw ?_;exact zfA
 |some sl=>
  obtain⟨n,rfl,hn⟩:=jaT (J8 hI.ok.w (jai hs))
  obtain⟨z,hz⟩:=jY hn
  simp only[hs,Option.getD_some,Option.isSome_some] at hsl;dsimp only;rw[jC hz]
  have hO:=fun A=>jdI (nf':=nf+2) (nk':=400000000) (by omega) (by omega) (hpread_K (w0:=w0) (F:=A) (op:=op) hG hD hI h1 hn (by omega) (by omega))
  have hP:=fun A (y1:CyM) (q:HpP) (h2:HpR D (nf+2) 400000000 y1 q)=>jcv (w0:=w0) (F:=A) h2
  have hA:=fun A (y1:CyM) (q:HpP) (h2:HpR D (nf+2) 400000000 y1 q)=>jdp (w0:=w0) (F:=A) h2 hz
  obtain⟨⟨e,hh,w,addr,us,si,cy,ac⟩,h9,hv⟩: ∃ (q:SnP) (h9:HpP),JF D.C h ((n:Nat):Int) op.a=(q,h9):=⟨_,_,rfl⟩
  rw[hv] at hO⊢;dsimp only at hO⊢;unfold opV snV at hO;unfold opV;simp only[hc2] at hO;rw[hc2];refine zdG ?_;intro b3 b4 b5;refine zE ?_;refine zax ?_;refine zaR ?_;refine K.cutT (σ:=DsS) [(0,_),(3,_),(4,_)] jj (fun s kp_=>(6, .int .i64 (n:Nat))::(8, .pointer (some ⟨s.b,0,none⟩))::kp_) (fun s=>hpH D s.y h9++((s.b,cells [.int .i64 e, .int .u64 (hh:Nat), .int .u64 w, .int .i64 addr, .int .i64 us, .int .i64 si, .int .i64 cy, .bool ac] 42)::(b3,cells [.int .u8 2, .int .u64 (op.h:Nat), .int .i64 op.a, .int .i64 op.b, .int .u64 (op.v:Nat)] 35)::(b4,cells [.int .i64 0, .int .u64 0, .int .u64 0, .int .i64 0, .int .i64 0, .int .i64 0, .int .i64 0, .bool false] 42)::F)) (fun s=>HpR D (nf+2) 400000000 s.y h9) ?_ ?_
  ·refine zar ?_
   (first|refine K.seq (K.drawn ((b3,cells [.int .u8 2, .int .u64 (op.h:Nat), .int .i64 op.a, .int .i64 op.b, .int .u64 (op.v:Nat)] 35)::(b5,cells [.nilFunc, .func (.func 132) #[] #[], .func (.func 133) #[] #[], .func (.func 134) #[] #[], .func (.func 135) #[] #[], .func (.func 136) #[] #[], .func (.func 137) #[] #[], .func (.func 138) #[] #[]] 157)::F) [(0,1),(1,1),(2,1),(3,1),(4,1),(5,1),(6,1),(7,3),(8,2),(9,2)] (by kernel_rfl) (by kernel_rfl) (by kernel_rfl) (by kernel_rfl) (by kernel_rfl) (by kernel_rfl) ja ?_)|refine K.seq (K.seq (K.drawn ((b3,cells [.int .u8 2, .int .u64 (op.h:Nat), .int .i64 op.a, .int .i64 op.b, .int .u64 (op.v:Nat)] 35)::(b5,cells [.nilFunc, .func (.func 132) #[] #[], .func (.func 133) #[] #[], .func (.func 134) #[] #[], .func (.func 135) #[] #[], .func (.func 136) #[] #[], .func (.func 137) #[] #[], .func (.func 138) #[] #[]] 157)::F) [(0,1),(1,1),(2,1),(3,1),(4,1),(5,1),(6,1),(7,3),(8,2),(9,2)] (by kernel_rfl) (by kernel_rfl) (by kernel_rfl) (by kernel_rfl) (by kernel_rfl) (by kernel_rfl) ja ?_))|refine K.drawn ((b3,cells [.int .u8 2, .int .u64 (op.h:Nat), .int .i64 op.a, .int .i64 op.b, .int .u64 (op.v:Nat)] 35)::(b5,cells [.nilFunc, .func (.func 132) #[] #[], .func (.func 133) #[] #[], .func (.func 134) #[] #[], .func (.func 135) #[] #[], .func (.func 136) #[] #[], .func (.func 137) #[] #[], .func (.func 138) #[] #[]] 157)::F) [(0,1),(1,1),(2,1),(3,1),(4,1),(5,1),(6,1),(7,3),(8,2),(9,2)] (by kernel_rfl) (by kernel_rfl) (by kernel_rfl) (by kernel_rfl) (by kernel_rfl) (by kernel_rfl) ja ?_)
   refine zcU ?_;refine zgG ?_;refine zcm ?_;refine zfc ?_;refine zH ?_
   --FORK at region 7:[(7,3),(8,2),(9,2)]
   refine KD.fork2 (x:=7) (y:=8) (o1:=[(8,2),(9,2)]) (o2:=[(7,2),(9,2)]) (by kernel_rfl) rfl rfl (by kernel_rfl) (by kernel_rfl) ?_ ?_
   ·refine zcM fun T hT=>?_;refine zda ?_;rintro _ _ ⟨rfl,y1,h2,rfl⟩;refine zg ?_;clear hT T;refine zb7 ?_;intro b8;exact zcz
   ·(refine JK.e rfl (Eff.alloc rfl) ?_;rintro _ _ ⟨b8,rfl,rfl⟩;refine⟨ja,?_⟩)
    refine zl fun T hT=>?_;refine zda ?_;rintro _ _ ⟨rfl,y1,h2,rfl⟩;refine zg ?_;clear hT T;exact zcz
  ·rintro⟨y1,b8⟩ h2;dsimp only at h2⊢;refine zfk ?_;refine zB ?_;refine zd5 ?_;refine zbC fun T hT=>?_;refine zhm ?_;rintro _ _ ⟨rfl,rfl⟩;refine zd ?_;clear hT T;refine zx fun T hT=>?_;refine zhn ?_;rintro _ _ ⟨rfl,rfl⟩;refine zd ?_;clear hT T;refine za3 ?_;refine zct ?_;refine zaw ?_;exact zgk
theorem jlG (hG:js w0) (hD:HpDok D) (hI:HeI D.C h) (h1:HpR D nf 0 y h) (hf:nf≤900000) (ho:JN op) (hc:op.c=3):Call Tryz.prog w0 50 [.pointer (some ⟨D.b,0,none⟩),opV op] (hpH D y h++F) (fun r H'=>r=snV (jt D.C h op).1∧HpQ D (nf+2) 400000000 (jt D.C h op).2 F H'):=by
 have htold:=fun A (e:Int)=>ja0 (w0:=w0) (H:=A) (e:=e)
 have hopers:=fun A=>jcZ (w0:=w0) (H:=A)
 unfold opsL at hopers
 have hsl:=fun A=>jcW (w0:=w0) (F:=A) ho.h h1
 unfold jt;rw[if_neg (by rw[hc];decide),if_neg (by rw[hc];decide)]
 have hop: ∀ sl,hpOp D.C h op sl=JZ D.C h sl op.a op.v:=fun sl=>by unfold hpOp;rw [if_neg (by rw[hc];decide),if_pos hc]
 simp only[hop];unfold HpQ
 have hc2:((op.c:Nat):Int)=3:=by omega
 cases hs:hpSlot D.C.tn h.s.W.T op.h with
 |none=>
  simp only[hs,Option.getD_none,Option.isSome_none] at hsl;dsimp only;unfold opV;rw[hc2];refine zdG ?_;intro b3 b4 b5;refine zU ?_;refine zbg ?_;refine zag ?_;refine zw ?_;exact zfA
 |some sl=>
  obtain⟨n,rfl,hn⟩:=jaT (J8 hI.ok.w (jai hs))
  obtain⟨z,hz⟩:=jY hn
  simp only[hs,Option.getD_some,Option.isSome_some] at hsl;dsimp only;rw[jC hz]
  have hO:=fun A=>jdI (nf':=nf+2) (nk':=400000000) (by omega) (by omega) (hpwrite_K (w0:=w0) (F:=A) (op:=op) hG hD hI h1 hn ho.v)
  have hP:=fun A (y1:CyM) (q:HpP) (h2:HpR D (nf+2) 400000000 y1 q)=>jcv (w0:=w0) (F:=A) h2
  have hA:=fun A (y1:CyM) (q:HpP) (h2:HpR D (nf+2) 400000000 y1 q)=>jdp (w0:=w0) (F:=A) h2 hz
  obtain⟨⟨e,hh,w,addr,us,si,cy,ac⟩,h9,hv⟩: ∃ (q:SnP) (h9:HpP),JZ D.C h ((n:Nat):Int) op.a op.v=(q,h9):=⟨_,_,rfl⟩
  rw[hv] at hO⊢;dsimp only at hO⊢;unfold opV snV at hO;unfold opV;simp only[hc2] at hO;rw[hc2];refine zdG ?_;intro b3 b4 b5;refine zE ?_;refine zax ?_;refine zaR ?_;refine K.cutT (σ:=DsS) [(0,_),(3,_),(4,_)] jj (fun s kp_=>(6, .int .i64 (n:Nat))::(8, .pointer (some ⟨s.b,0,none⟩))::kp_) (fun s=>hpH D s.y h9++((s.b,cells [.int .i64 e, .int .u64 (hh:Nat), .int .u64 w, .int .i64 addr, .int .i64 us, .int .i64 si, .int .i64 cy, .bool ac] 42)::(b3,cells [.int .u8 3, .int .u64 (op.h:Nat), .int .i64 op.a, .int .i64 op.b, .int .u64 (op.v:Nat)] 35)::(b4,cells [.int .i64 0, .int .u64 0, .int .u64 0, .int .i64 0, .int .i64 0, .int .i64 0, .int .i64 0, .bool false] 42)::F)) (fun s=>HpR D (nf+2) 400000000 s.y h9) ?_ ?_
  ·refine zar ?_
   (first|refine K.seq (K.drawn ((b3,cells [.int .u8 3, .int .u64 (op.h:Nat), .int .i64 op.a, .int .i64 op.b, .int .u64 (op.v:Nat)] 35)::(b5,cells [.nilFunc, .func (.func 132) #[] #[], .func (.func 133) #[] #[], .func (.func 134) #[] #[], .func (.func 135) #[] #[], .func (.func 136) #[] #[], .func (.func 137) #[] #[], .func (.func 138) #[] #[]] 157)::F) [(0,1),(1,1),(2,1),(3,1),(4,1),(5,1),(6,1),(7,3),(8,2),(9,2)] (by kernel_rfl) (by kernel_rfl) (by kernel_rfl) (by kernel_rfl) (by kernel_rfl) (by kernel_rfl) ja ?_)|refine K.seq (K.seq (K.drawn ((b3,cells [.int .u8 3, .int .u64 (op.h:Nat), .int .i64 op.a, .int .i64 op.b, .int .u64 (op.v:Nat)] 35)::(b5,cells [.nilFunc, .func (.func 132) #[] #[], .func (.func 133) #[] #[], .func (.func 134) #[] #[], .func (.func 135) #[] #[], .func (.func 136) #[] #[], .func (.func 137) #[] #[], .func (.func 138) #[] #[]] 157)::F) [(0,1),(1,1),(2,1),(3,1),(4,1),(5,1),(6,1),(7,3),(8,2),(9,2)] (by kernel_rfl) (by kernel_rfl) (by kernel_rfl) (by kernel_rfl) (by kernel_rfl) (by kernel_rfl) ja ?_))|refine K.drawn ((b3,cells [.int .u8 3, .int .u64 (op.h:Nat), .int .i64 op.a, .int .i64 op.b, .int .u64 (op.v:Nat)] 35)::(b5,cells [.nilFunc, .func (.func 132) #[] #[], .func (.func 133) #[] #[], .func (.func 134) #[] #[], .func (.func 135) #[] #[], .func (.func 136) #[] #[], .func (.func 137) #[] #[], .func (.func 138) #[] #[]] 157)::F) [(0,1),(1,1),(2,1),(3,1),(4,1),(5,1),(6,1),(7,3),(8,2),(9,2)] (by kernel_rfl) (by kernel_rfl) (by kernel_rfl) (by kernel_rfl) (by kernel_rfl) (by kernel_rfl) ja ?_)
   refine zcU ?_;refine zgG ?_;refine zcm ?_;refine zfc ?_;refine zH ?_
   --FORK at region 7:[(7,3),(8,2),(9,2)]
   refine KD.fork2 (x:=7) (y:=8) (o1:=[(8,2),(9,2)]) (o2:=[(7,2),(9,2)]) (by kernel_rfl) rfl rfl (by kernel_rfl) (by kernel_rfl) ?_ ?_
   ·refine zcM fun T hT=>?_;refine zda ?_;rintro _ _ ⟨rfl,y1,h2,rfl⟩;refine zg ?_;clear hT T;refine zb7 ?_;intro b8;exact zcz
   ·(refine JK.e rfl (Eff.alloc rfl) ?_;rintro _ _ ⟨b8,rfl,rfl⟩;refine⟨ja,?_⟩)
    refine zl fun T hT=>?_;refine zda ?_;rintro _ _ ⟨rfl,y1,h2,rfl⟩;refine zg ?_;clear hT T;exact zcz
  ·rintro⟨y1,b8⟩ h2;dsimp only at h2⊢;refine zfk ?_;refine zB ?_;refine zd5 ?_;refine zbC fun T hT=>?_;refine zhm ?_;rintro _ _ ⟨rfl,rfl⟩;refine zd ?_;clear hT T;refine zx fun T hT=>?_;refine zhn ?_;rintro _ _ ⟨rfl,rfl⟩;refine zd ?_;clear hT T;refine za3 ?_;refine zct ?_;refine zaw ?_;exact zgk
theorem jmn (hG:js w0) (hD:HpDok D) (hI:HeI D.C h) (h1:HpR D nf 0 y h) (hf:nf≤900000) (ho:JN op) (hc:op.c=4):Call Tryz.prog w0 50 [.pointer (some ⟨D.b,0,none⟩),opV op] (hpH D y h++F) (fun r H'=>r=snV (jt D.C h op).1∧HpQ D (nf+2) 400000000 (jt D.C h op).2 F H'):=by
 have htold:=fun A (e:Int)=>ja0 (w0:=w0) (H:=A) (e:=e)
 have hopers:=fun A=>jcZ (w0:=w0) (H:=A)
 unfold opsL at hopers
 have hsl:=fun A=>jcW (w0:=w0) (F:=A) ho.h h1
 unfold jt;rw[if_neg (by rw[hc];decide),if_neg (by rw[hc];decide)]
 have hop: ∀ sl,hpOp D.C h op sl=jc6 h sl:=fun sl=>by unfold hpOp;rw [if_neg (by rw[hc];decide),if_neg (by rw[hc];decide),if_pos hc]
 simp only[hop];unfold HpQ
 have hc2:((op.c:Nat):Int)=4:=by omega
 cases hs:hpSlot D.C.tn h.s.W.T op.h with
 |none=>
  simp only[hs,Option.getD_none,Option.isSome_none] at hsl;dsimp only;unfold opV;rw[hc2];refine zdG ?_;intro b3 b4 b5;refine zU ?_;refine zbg ?_;refine zag ?_;refine zw ?_;exact zfA
 |some sl=>
  obtain⟨n,rfl,hn⟩:=jaT (J8 hI.ok.w (jai hs))
  obtain⟨z,hz⟩:=jY hn
  simp only[hs,Option.getD_some,Option.isSome_some] at hsl;dsimp only;rw[jC hz]
  have hO:=fun A=>jdI (nf':=nf+2) (nk':=400000000) (by omega) (by omega) (hproot_K (w0:=w0) (F:=A) (op:=op) h1 hn)
  have hP:=fun A (y1:CyM) (q:HpP) (h2:HpR D (nf+2) 400000000 y1 q)=>jcv (w0:=w0) (F:=A) h2
  have hA:=fun A (y1:CyM) (q:HpP) (h2:HpR D (nf+2) 400000000 y1 q)=>jdp (w0:=w0) (F:=A) h2 hz
  obtain⟨⟨e,hh,w,addr,us,si,cy,ac⟩,h9,hv⟩: ∃ (q:SnP) (h9:HpP),jc6 h ((n:Nat):Int)=(q,h9):=⟨_,_,rfl⟩
  rw[hv] at hO⊢;dsimp only at hO⊢;unfold opV snV at hO;unfold opV;simp only[hc2] at hO;rw[hc2];refine zdG ?_;intro b3 b4 b5;refine zE ?_;refine zax ?_;refine zaR ?_;refine K.cutT (σ:=DsS) [(0,_),(3,_),(4,_)] jj (fun s kp_=>(6, .int .i64 (n:Nat))::(8, .pointer (some ⟨s.b,0,none⟩))::kp_) (fun s=>hpH D s.y h9++((s.b,cells [.int .i64 e, .int .u64 (hh:Nat), .int .u64 w, .int .i64 addr, .int .i64 us, .int .i64 si, .int .i64 cy, .bool ac] 42)::(b3,cells [.int .u8 4, .int .u64 (op.h:Nat), .int .i64 op.a, .int .i64 op.b, .int .u64 (op.v:Nat)] 35)::(b4,cells [.int .i64 0, .int .u64 0, .int .u64 0, .int .i64 0, .int .i64 0, .int .i64 0, .int .i64 0, .bool false] 42)::F)) (fun s=>HpR D (nf+2) 400000000 s.y h9) ?_ ?_
  ·refine zar ?_
   (first|refine K.seq (K.drawn ((b3,cells [.int .u8 4, .int .u64 (op.h:Nat), .int .i64 op.a, .int .i64 op.b, .int .u64 (op.v:Nat)] 35)::(b5,cells [.nilFunc, .func (.func 132) #[] #[], .func (.func 133) #[] #[], .func (.func 134) #[] #[], .func (.func 135) #[] #[], .func (.func 136) #[] #[], .func (.func 137) #[] #[], .func (.func 138) #[] #[]] 157)::F) [(0,1),(1,1),(2,1),(3,1),(4,1),(5,1),(6,1),(7,3),(8,2),(9,2)] (by kernel_rfl) (by kernel_rfl) (by kernel_rfl) (by kernel_rfl) (by kernel_rfl) (by kernel_rfl) ja ?_)|refine K.seq (K.seq (K.drawn ((b3,cells [.int .u8 4, .int .u64 (op.h:Nat), .int .i64 op.a, .int .i64 op.b, .int .u64 (op.v:Nat)] 35)::(b5,cells [.nilFunc, .func (.func 132) #[] #[], .func (.func 133) #[] #[], .func (.func 134) #[] #[], .func (.func 135) #[] #[], .func (.func 136) #[] #[], .func (.func 137) #[] #[], .func (.func 138) #[] #[]] 157)::F) [(0,1),(1,1),(2,1),(3,1),(4,1),(5,1),(6,1),(7,3),(8,2),(9,2)] (by kernel_rfl) (by kernel_rfl) (by kernel_rfl) (by kernel_rfl) (by kernel_rfl) (by kernel_rfl) ja ?_))|refine K.drawn ((b3,cells [.int .u8 4, .int .u64 (op.h:Nat), .int .i64 op.a, .int .i64 op.b, .int .u64 (op.v:Nat)] 35)::(b5,cells [.nilFunc, .func (.func 132) #[] #[], .func (.func 133) #[] #[], .func (.func 134) #[] #[], .func (.func 135) #[] #[], .func (.func 136) #[] #[], .func (.func 137) #[] #[], .func (.func 138) #[] #[]] 157)::F) [(0,1),(1,1),(2,1),(3,1),(4,1),(5,1),(6,1),(7,3),(8,2),(9,2)] (by kernel_rfl) (by kernel_rfl) (by kernel_rfl) (by kernel_rfl) (by kernel_rfl) (by kernel_rfl) ja ?_)
   refine zcU ?_;refine zgG ?_;refine zcm ?_;refine zfc ?_;refine zH ?_
   --FORK at region 7:[(7,3),(8,2),(9,2)]
   refine KD.fork2 (x:=7) (y:=8) (o1:=[(8,2),(9,2)]) (o2:=[(7,2),(9,2)]) (by kernel_rfl) rfl rfl (by kernel_rfl) (by kernel_rfl) ?_ ?_
   ·refine zcM fun T hT=>?_;refine zda ?_;rintro _ _ ⟨rfl,y1,h2,rfl⟩;refine zg ?_;clear hT T;refine zb7 ?_;intro b8;exact zcz
   ·(refine JK.e rfl (Eff.alloc rfl) ?_;rintro _ _ ⟨b8,rfl,rfl⟩;refine⟨ja,?_⟩)
    refine zl fun T hT=>?_;refine zda ?_;rintro _ _ ⟨rfl,y1,h2,rfl⟩;refine zg ?_;clear hT T;exact zcz
  ·rintro⟨y1,b8⟩ h2;dsimp only at h2⊢;refine zfk ?_;refine zB ?_;refine zd5 ?_;refine zbC fun T hT=>?_;refine zhm ?_;rintro _ _ ⟨rfl,rfl⟩;refine zd ?_;clear hT T;refine zx fun T hT=>?_;refine zhn ?_;rintro _ _ ⟨rfl,rfl⟩;refine zd ?_;clear hT T;refine za3 ?_;refine zct ?_;refine zaw ?_;exact zgk
theorem jlp (hG:js w0) (hD:HpDok D) (hI:HeI D.C h) (h1:HpR D nf 0 y h) (hf:nf≤900000) (ho:JN op) (hc:op.c=5):Call Tryz.prog w0 50 [.pointer (some ⟨D.b,0,none⟩),opV op] (hpH D y h++F) (fun r H'=>r=snV (jt D.C h op).1∧HpQ D (nf+2) 400000000 (jt D.C h op).2 F H'):=by
 have htold:=fun A (e:Int)=>ja0 (w0:=w0) (H:=A) (e:=e)
 have hopers:=fun A=>jcZ (w0:=w0) (H:=A)
 unfold opsL at hopers
 have hsl:=fun A=>jcW (w0:=w0) (F:=A) ho.h h1
 unfold jt;rw[if_neg (by rw[hc];decide),if_neg (by rw[hc];decide)]
 have hop: ∀ sl,hpOp D.C h op sl=jbj D.C h sl:=fun sl=>by unfold hpOp;rw [if_neg (by rw[hc];decide),if_neg (by rw[hc];decide),if_neg (by rw[hc];decide),if_pos hc]
 simp only[hop];unfold HpQ
 have hc2:((op.c:Nat):Int)=5:=by omega
 cases hs:hpSlot D.C.tn h.s.W.T op.h with
 |none=>
  simp only[hs,Option.getD_none,Option.isSome_none] at hsl;dsimp only;unfold opV;rw[hc2];refine zdG ?_;intro b3 b4 b5;refine zU ?_;refine zbg ?_;refine zag ?_;refine zw ?_;exact zfA
 |some sl=>
  obtain⟨n,rfl,hn⟩:=jaT (J8 hI.ok.w (jai hs))
  obtain⟨z,hz⟩:=jY hn
  simp only[hs,Option.getD_some,Option.isSome_some] at hsl;dsimp only;rw[jC hz]
  have hO:=fun A=>jdI (nf':=nf+2) (nk':=400000000) (by omega) (by omega) (jmh (w0:=w0) (F:=A) (op:=op) h1 hn)
  have hP:=fun A (y1:CyM) (q:HpP) (h2:HpR D (nf+2) 400000000 y1 q)=>jcv (w0:=w0) (F:=A) h2
  have hA:=fun A (y1:CyM) (q:HpP) (h2:HpR D (nf+2) 400000000 y1 q)=>jdp (w0:=w0) (F:=A) h2 hz
  obtain⟨⟨e,hh,w,addr,us,si,cy,ac⟩,h9,hv⟩: ∃ (q:SnP) (h9:HpP),jbj D.C h ((n:Nat):Int)=(q,h9):=⟨_,_,rfl⟩
  rw[hv] at hO⊢;dsimp only at hO⊢;unfold opV snV at hO;unfold opV;simp only[hc2] at hO;rw[hc2];refine zdG ?_;intro b3 b4 b5;refine zE ?_;refine zax ?_;refine zaR ?_;refine K.cutT (σ:=DsS) [(0,_),(3,_),(4,_)] jj (fun s kp_=>(6, .int .i64 (n:Nat))::(8, .pointer (some ⟨s.b,0,none⟩))::kp_) (fun s=>hpH D s.y h9++((s.b,cells [.int .i64 e, .int .u64 (hh:Nat), .int .u64 w, .int .i64 addr, .int .i64 us, .int .i64 si, .int .i64 cy, .bool ac] 42)::(b3,cells [.int .u8 5, .int .u64 (op.h:Nat), .int .i64 op.a, .int .i64 op.b, .int .u64 (op.v:Nat)] 35)::(b4,cells [.int .i64 0, .int .u64 0, .int .u64 0, .int .i64 0, .int .i64 0, .int .i64 0, .int .i64 0, .bool false] 42)::F)) (fun s=>HpR D (nf+2) 400000000 s.y h9) ?_ ?_
  ·refine zar ?_
   (first|refine K.seq (K.drawn ((b3,cells [.int .u8 5, .int .u64 (op.h:Nat), .int .i64 op.a, .int .i64 op.b, .int .u64 (op.v:Nat)] 35)::(b5,cells [.nilFunc, .func (.func 132) #[] #[], .func (.func 133) #[] #[], .func (.func 134) #[] #[], .func (.func 135) #[] #[], .func (.func 136) #[] #[], .func (.func 137) #[] #[], .func (.func 138) #[] #[]] 157)::F) [(0,1),(1,1),(2,1),(3,1),(4,1),(5,1),(6,1),(7,3),(8,2),(9,2)] (by kernel_rfl) (by kernel_rfl) (by kernel_rfl) (by kernel_rfl) (by kernel_rfl) (by kernel_rfl) ja ?_)|refine K.seq (K.seq (K.drawn ((b3,cells [.int .u8 5, .int .u64 (op.h:Nat), .int .i64 op.a, .int .i64 op.b, .int .u64 (op.v:Nat)] 35)::(b5,cells [.nilFunc, .func (.func 132) #[] #[], .func (.func 133) #[] #[], .func (.func 134) #[] #[], .func (.func 135) #[] #[], .func (.func 136) #[] #[], .func (.func 137) #[] #[], .func (.func 138) #[] #[]] 157)::F) [(0,1),(1,1),(2,1),(3,1),(4,1),(5,1),(6,1),(7,3),(8,2),(9,2)] (by kernel_rfl) (by kernel_rfl) (by kernel_rfl) (by kernel_rfl) (by kernel_rfl) (by kernel_rfl) ja ?_))|refine K.drawn ((b3,cells [.int .u8 5, .int .u64 (op.h:Nat), .int .i64 op.a, .int .i64 op.b, .int .u64 (op.v:Nat)] 35)::(b5,cells [.nilFunc, .func (.func 132) #[] #[], .func (.func 133) #[] #[], .func (.func 134) #[] #[], .func (.func 135) #[] #[], .func (.func 136) #[] #[], .func (.func 137) #[] #[], .func (.func 138) #[] #[]] 157)::F) [(0,1),(1,1),(2,1),(3,1),(4,1),(5,1),(6,1),(7,3),(8,2),(9,2)] (by kernel_rfl) (by kernel_rfl) (by kernel_rfl) (by kernel_rfl) (by kernel_rfl) (by kernel_rfl) ja ?_)
   refine zcU ?_;refine zgG ?_;refine zcm ?_;refine zfc ?_;refine zH ?_
   --FORK at region 7:[(7,3),(8,2),(9,2)]
   refine KD.fork2 (x:=7) (y:=8) (o1:=[(8,2),(9,2)]) (o2:=[(7,2),(9,2)]) (by kernel_rfl) rfl rfl (by kernel_rfl) (by kernel_rfl) ?_ ?_
   ·refine zcM fun T hT=>?_;refine zda ?_;rintro _ _ ⟨rfl,y1,h2,rfl⟩;refine zg ?_;clear hT T;refine zb7 ?_;intro b8;exact zcz
   ·(refine JK.e rfl (Eff.alloc rfl) ?_;rintro _ _ ⟨b8,rfl,rfl⟩;refine⟨ja,?_⟩)
    refine zl fun T hT=>?_;refine zda ?_;rintro _ _ ⟨rfl,y1,h2,rfl⟩;refine zg ?_;clear hT T;exact zcz
  ·rintro⟨y1,b8⟩ h2;dsimp only at h2⊢;refine zfk ?_;refine zB ?_;refine zd5 ?_;refine zbC fun T hT=>?_;refine zhm ?_;rintro _ _ ⟨rfl,rfl⟩;refine zd ?_;clear hT T;refine zx fun T hT=>?_;refine zhn ?_;rintro _ _ ⟨rfl,rfl⟩;refine zd ?_;clear hT T;refine za3 ?_;refine zct ?_;refine zaw ?_;exact zgk
theorem jmq (hG:js w0) (hD:HpDok D) (hI:HeI D.C h) (h1:HpR D nf 0 y h) (hf:nf≤900000) (ho:JN op) (hc:op.c=6):Call Tryz.prog w0 50 [.pointer (some ⟨D.b,0,none⟩),opV op] (hpH D y h++F) (fun r H'=>r=snV (jt D.C h op).1∧HpQ D (nf+2) 400000000 (jt D.C h op).2 F H'):=by
 have htold:=fun A (e:Int)=>ja0 (w0:=w0) (H:=A) (e:=e)
 have hopers:=fun A=>jcZ (w0:=w0) (H:=A)
 unfold opsL at hopers
 have hsl:=fun A=>jcW (w0:=w0) (F:=A) ho.h h1
 unfold jt;rw[if_neg (by rw[hc];decide),if_neg (by rw[hc];decide)]
 have hop: ∀ sl,hpOp D.C h op sl=jdK D.C h sl op.h:=fun sl=>by unfold hpOp;rw [if_neg (by rw[hc];decide),if_neg (by rw[hc];decide),if_neg (by rw[hc];decide),if_neg (by rw[hc];decide),if_pos hc]
 simp only[hop];unfold HpQ
 have hc2:((op.c:Nat):Int)=6:=by omega
 cases hs:hpSlot D.C.tn h.s.W.T op.h with
 |none=>
  simp only[hs,Option.getD_none,Option.isSome_none] at hsl;dsimp only;unfold opV;rw[hc2];refine zdG ?_;intro b3 b4 b5;refine zU ?_;refine zbg ?_;refine zag ?_;refine zw ?_;exact zfA
 |some sl=>
  obtain⟨n,rfl,hn⟩:=jaT (J8 hI.ok.w (jai hs))
  obtain⟨z,hz⟩:=jY hn
  simp only[hs,Option.getD_some,Option.isSome_some] at hsl;dsimp only;rw[jC hz]
  have hO:=fun A=>jdI (nf':=nf+2) (nk':=400000000) (by omega) (by omega) (hpdrop_K (w0:=w0) (F:=A) (op:=op) h1 hn ho.h hs)
  have hP:=fun A (y1:CyM) (q:HpP) (h2:HpR D (nf+2) 400000000 y1 q)=>jcv (w0:=w0) (F:=A) h2
  have hA:=fun A (y1:CyM) (q:HpP) (h2:HpR D (nf+2) 400000000 y1 q)=>jdp (w0:=w0) (F:=A) h2 hz
  obtain⟨⟨e,hh,w,addr,us,si,cy,ac⟩,h9,hv⟩: ∃ (q:SnP) (h9:HpP),jdK D.C h ((n:Nat):Int) op.h=(q,h9):=⟨_,_,rfl⟩
  rw[hv] at hO⊢;dsimp only at hO⊢;unfold opV snV at hO;unfold opV;simp only[hc2] at hO;rw[hc2];refine zdG ?_;intro b3 b4 b5;refine zE ?_;refine zax ?_;refine zaR ?_;refine K.cutT (σ:=DsS) [(0,_),(3,_),(4,_)] jj (fun s kp_=>(6, .int .i64 (n:Nat))::(8, .pointer (some ⟨s.b,0,none⟩))::kp_) (fun s=>hpH D s.y h9++((s.b,cells [.int .i64 e, .int .u64 (hh:Nat), .int .u64 w, .int .i64 addr, .int .i64 us, .int .i64 si, .int .i64 cy, .bool ac] 42)::(b3,cells [.int .u8 6, .int .u64 (op.h:Nat), .int .i64 op.a, .int .i64 op.b, .int .u64 (op.v:Nat)] 35)::(b4,cells [.int .i64 0, .int .u64 0, .int .u64 0, .int .i64 0, .int .i64 0, .int .i64 0, .int .i64 0, .bool false] 42)::F)) (fun s=>HpR D (nf+2) 400000000 s.y h9) ?_ ?_
  ·refine zar ?_
   (first|refine K.seq (K.drawn ((b3,cells [.int .u8 6, .int .u64 (op.h:Nat), .int .i64 op.a, .int .i64 op.b, .int .u64 (op.v:Nat)] 35)::(b5,cells [.nilFunc, .func (.func 132) #[] #[], .func (.func 133) #[] #[], .func (.func 134) #[] #[], .func (.func 135) #[] #[], .func (.func 136) #[] #[], .func (.func 137) #[] #[], .func (.func 138) #[] #[]] 157)::F) [(0,1),(1,1),(2,1),(3,1),(4,1),(5,1),(6,1),(7,3),(8,2),(9,2)] (by kernel_rfl) (by kernel_rfl) (by kernel_rfl) (by kernel_rfl) (by kernel_rfl) (by kernel_rfl) ja ?_)|refine K.seq (K.seq (K.drawn ((b3,cells [.int .u8 6, .int .u64 (op.h:Nat), .int .i64 op.a, .int .i64 op.b, .int .u64 (op.v:Nat)] 35)::(b5,cells [.nilFunc, .func (.func 132) #[] #[], .func (.func 133) #[] #[], .func (.func 134) #[] #[], .func (.func 135) #[] #[], .func (.func 136) #[] #[], .func (.func 137) #[] #[], .func (.func 138) #[] #[]] 157)::F) [(0,1),(1,1),(2,1),(3,1),(4,1),(5,1),(6,1),(7,3),(8,2),(9,2)] (by kernel_rfl) (by kernel_rfl) (by kernel_rfl) (by kernel_rfl) (by kernel_rfl) (by kernel_rfl) ja ?_))|refine K.drawn ((b3,cells [.int .u8 6, .int .u64 (op.h:Nat), .int .i64 op.a, .int .i64 op.b, .int .u64 (op.v:Nat)] 35)::(b5,cells [.nilFunc, .func (.func 132) #[] #[], .func (.func 133) #[] #[], .func (.func 134) #[] #[], .func (.func 135) #[] #[], .func (.func 136) #[] #[], .func (.func 137) #[] #[], .func (.func 138) #[] #[]] 157)::F) [(0,1),(1,1),(2,1),(3,1),(4,1),(5,1),(6,1),(7,3),(8,2),(9,2)] (by kernel_rfl) (by kernel_rfl) (by kernel_rfl) (by kernel_rfl) (by kernel_rfl) (by kernel_rfl) ja ?_)
   refine zcU ?_;refine zgG ?_;refine zcm ?_;refine zfc ?_;refine zH ?_
   --FORK at region 7:[(7,3),(8,2),(9,2)]
   refine KD.fork2 (x:=7) (y:=8) (o1:=[(8,2),(9,2)]) (o2:=[(7,2),(9,2)]) (by kernel_rfl) rfl rfl (by kernel_rfl) (by kernel_rfl) ?_ ?_
   ·refine zcM fun T hT=>?_;refine zda ?_;rintro _ _ ⟨rfl,y1,h2,rfl⟩;refine zg ?_;clear hT T;refine zb7 ?_;intro b8;exact zcz
   ·(refine JK.e rfl (Eff.alloc rfl) ?_;rintro _ _ ⟨b8,rfl,rfl⟩;refine⟨ja,?_⟩)
    refine zl fun T hT=>?_;refine zda ?_;rintro _ _ ⟨rfl,y1,h2,rfl⟩;refine zg ?_;clear hT T;exact zcz
  ·rintro⟨y1,b8⟩ h2;dsimp only at h2⊢;refine zfk ?_;refine zB ?_;refine zd5 ?_;refine zbC fun T hT=>?_;refine zhm ?_;rintro _ _ ⟨rfl,rfl⟩;refine zd ?_;clear hT T;refine zx fun T hT=>?_;refine zhn ?_;rintro _ _ ⟨rfl,rfl⟩;refine zd ?_;clear hT T;refine za3 ?_;refine zct ?_;refine zaw ?_;exact zgk
theorem jmp (hG:js w0) (hD:HpDok D) (hI:HeI D.C h) (h1:HpR D nf 0 y h) (hf:nf≤900000) (ho:JN op) (hc:op.c=7):Call Tryz.prog w0 50 [.pointer (some ⟨D.b,0,none⟩),opV op] (hpH D y h++F) (fun r H'=>r=snV (jt D.C h op).1∧HpQ D (nf+2) 400000000 (jt D.C h op).2 F H'):=by
 have htold:=fun A (e:Int)=>ja0 (w0:=w0) (H:=A) (e:=e)
 have hopers:=fun A=>jcZ (w0:=w0) (H:=A)
 unfold opsL at hopers
 have hsl:=fun A=>jcW (w0:=w0) (F:=A) ho.h h1
 unfold jt;rw[if_neg (by rw[hc];decide),if_neg (by rw[hc];decide)]
 have hop: ∀ sl,hpOp D.C h op sl=jdJ D.C h sl:=fun sl=>by unfold hpOp;rw [if_neg (by rw[hc];decide),if_neg (by rw[hc];decide),if_neg (by rw[hc];decide),if_neg (by rw[hc];decide),if_neg (by rw[hc];decide)]
 simp only[hop];unfold HpQ
 have hc2:((op.c:Nat):Int)=7:=by omega
 cases hs:hpSlot D.C.tn h.s.W.T op.h with
 |none=>
  simp only[hs,Option.getD_none,Option.isSome_none] at hsl;dsimp only;unfold opV;rw[hc2];refine zdG ?_;intro b3 b4 b5;refine zU ?_;refine zbg ?_;refine zag ?_;refine zw ?_;exact zfA
 |some sl=>
  obtain⟨n,rfl,hn⟩:=jaT (J8 hI.ok.w (jai hs))
  obtain⟨z,hz⟩:=jY hn
  simp only[hs,Option.getD_some,Option.isSome_some] at hsl;dsimp only;rw[jC hz]
  have hO:=fun A=>jdI (nf':=nf+2) (nk':=400000000) (by omega) (by omega) (hpfold_K (w0:=w0) (F:=A) (op:=op) hG h1 hz (jmC))
  have hP:=fun A (y1:CyM) (q:HpP) (h2:HpR D (nf+2) 400000000 y1 q)=>jcv (w0:=w0) (F:=A) h2
  have hA:=fun A (y1:CyM) (q:HpP) (h2:HpR D (nf+2) 400000000 y1 q)=>jdp (w0:=w0) (F:=A) h2 hz
  obtain⟨⟨e,hh,w,addr,us,si,cy,ac⟩,h9,hv⟩: ∃ (q:SnP) (h9:HpP),jdJ D.C h ((n:Nat):Int)=(q,h9):=⟨_,_,rfl⟩
  rw[hv] at hO⊢;dsimp only at hO⊢;unfold opV snV at hO;unfold opV;simp only[hc2] at hO;rw[hc2];refine zdG ?_;intro b3 b4 b5;refine zE ?_;refine zax ?_;refine zaR ?_;refine K.cutT (σ:=DsS) [(0,_),(3,_),(4,_)] jj (fun s kp_=>(6, .int .i64 (n:Nat))::(8, .pointer (some ⟨s.b,0,none⟩))::kp_) (fun s=>hpH D s.y h9++((s.b,cells [.int .i64 e, .int .u64 (hh:Nat), .int .u64 w, .int .i64 addr, .int .i64 us, .int .i64 si, .int .i64 cy, .bool ac] 42)::(b3,cells [.int .u8 7, .int .u64 (op.h:Nat), .int .i64 op.a, .int .i64 op.b, .int .u64 (op.v:Nat)] 35)::(b4,cells [.int .i64 0, .int .u64 0, .int .u64 0, .int .i64 0, .int .i64 0, .int .i64 0, .int .i64 0, .bool false] 42)::F)) (fun s=>HpR D (nf+2) 400000000 s.y h9) ?_ ?_
  ·refine zar ?_
   (first|refine K.seq (K.drawn ((b3,cells [.int .u8 7, .int .u64 (op.h:Nat), .int .i64 op.a, .int .i64 op.b, .int .u64 (op.v:Nat)] 35)::(b5,cells [.nilFunc, .func (.func 132) #[] #[], .func (.func 133) #[] #[], .func (.func 134) #[] #[], .func (.func 135) #[] #[], .func (.func 136) #[] #[], .func (.func 137) #[] #[], .func (.func 138) #[] #[]] 157)::F) [(0,1),(1,1),(2,1),(3,1),(4,1),(5,1),(6,1),(7,3),(8,2),(9,2)] (by kernel_rfl) (by kernel_rfl) (by kernel_rfl) (by kernel_rfl) (by kernel_rfl) (by kernel_rfl) ja ?_)|refine K.seq (K.seq (K.drawn ((b3,cells [.int .u8 7, .int .u64 (op.h:Nat), .int .i64 op.a, .int .i64 op.b, .int .u64 (op.v:Nat)] 35)::(b5,cells [.nilFunc, .func (.func 132) #[] #[], .func (.func 133) #[] #[], .func (.func 134) #[] #[], .func (.func 135) #[] #[], .func (.func 136) #[] #[], .func (.func 137) #[] #[], .func (.func 138) #[] #[]] 157)::F) [(0,1),(1,1),(2,1),(3,1),(4,1),(5,1),(6,1),(7,3),(8,2),(9,2)] (by kernel_rfl) (by kernel_rfl) (by kernel_rfl) (by kernel_rfl) (by kernel_rfl) (by kernel_rfl) ja ?_))|refine K.drawn ((b3,cells [.int .u8 7, .int .u64 (op.h:Nat), .int .i64 op.a, .int .i64 op.b, .int .u64 (op.v:Nat)] 35)::(b5,cells [.nilFunc, .func (.func 132) #[] #[], .func (.func 133) #[] #[], .func (.func 134) #[] #[], .func (.func 135) #[] #[], .func (.func 136) #[] #[], .func (.func 137) #[] #[], .func (.func 138) #[] #[]] 157)::F) [(0,1),(1,1),(2,1),(3,1),(4,1),(5,1),(6,1),(7,3),(8,2),(9,2)] (by kernel_rfl) (by kernel_rfl) (by kernel_rfl) (by kernel_rfl) (by kernel_rfl) (by kernel_rfl) ja ?_)
   refine zcU ?_;refine zgG ?_;refine zcm ?_;refine zfc ?_;refine zH ?_
   --FORK at region 7:[(7,3),(8,2),(9,2)]
   refine KD.fork2 (x:=7) (y:=8) (o1:=[(8,2),(9,2)]) (o2:=[(7,2),(9,2)]) (by kernel_rfl) rfl rfl (by kernel_rfl) (by kernel_rfl) ?_ ?_
   ·refine zcM fun T hT=>?_;refine zda ?_;rintro _ _ ⟨rfl,y1,h2,rfl⟩;refine zg ?_;clear hT T;refine zb7 ?_;intro b8;exact zcz
   ·(refine JK.e rfl (Eff.alloc rfl) ?_;rintro _ _ ⟨b8,rfl,rfl⟩;refine⟨ja,?_⟩)
    refine zl fun T hT=>?_;refine zda ?_;rintro _ _ ⟨rfl,y1,h2,rfl⟩;refine zg ?_;clear hT T;exact zcz
  ·rintro⟨y1,b8⟩ h2;dsimp only at h2⊢;refine zfk ?_;refine zB ?_;refine zd5 ?_;refine zbC fun T hT=>?_;refine zhm ?_;rintro _ _ ⟨rfl,rfl⟩;refine zd ?_;clear hT T;refine zx fun T hT=>?_;refine zhn ?_;rintro _ _ ⟨rfl,rfl⟩;refine zd ?_;clear hT T;refine za3 ?_;refine zct ?_;refine zaw ?_;exact zgk
end
end Go.Proofs.YtpcgafhgfjlkmaaGreatDoor.Sw
