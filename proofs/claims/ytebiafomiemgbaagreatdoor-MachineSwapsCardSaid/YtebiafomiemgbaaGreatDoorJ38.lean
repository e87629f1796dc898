/-The walker and the contracts that the law needs,part 38. -/
import Derived.Test.YtebiafomiemgbaaGreatDoorJ37
set_option linter.unusedVariables false set_option linter.unusedSimpArgs false set_option linter.unusedVariables false
set_option linter.unusedSimpArgs false
namespace Go.Proofs.YtebiafomiemgbaaGreatDoor.Sw
set_option maxHeartbeats 8000000
open Go.Proofs.YtebiafomiemgbaaGreatDoor renaming lo → qL, hi → qH
open Go.RowKit
set_option maxRecDepth 10000
def opsL:List Value:=[.nilFunc, .func (.func 153) #[] #[], .func (.func 154) #[] #[], .func (.func 155) #[] #[], .func (.func 156) #[] #[], .func (.func 157) #[] #[], .func (.func 158) #[] #[], .func (.func 159) #[] #[]]
theorem jd9 {w0:World} {H:jb}:Call Tryz.prog w0 118 [] H (fun r H'=>r= .agg opsL.toArray∧H'=H):=by
 refine Call.enter0 (n:=2) (by rfl) Tryz.func118 rfl rfl rfl ?_;refine zbx ?_;intro b0;refine zal ?_;refine zfr ?_;exact zH
section
variable {w0 : World} {D : HpD} {nf nk n : Nat} {y y' : CyM} {h : HpP} {s s' : CyP} {F G : jb} {op : OpP} {z : jq}
structure JJ (op:OpP):Prop where
 c:op.c<256
 h:op.h<18446744073709551616
 v:op.v<18446744073709551616
theorem wordsX_le {x:List Int} {z:jq}:(jbr x z).length≤1000000:=by
 unfold jbr
 cases hh:headP x z with
 |none=>grind
 |some q=>
  have:=jfA (jdI (jfk hh).2).1
  grind
structure DsS where
 y:CyM
 b:Nat
theorem jeT {v:SnP × HpP} {nf' nk':Nat} {A:jb} {f:FuncId} {args:List Value} {H:jb} (hf:nf≤nf') (hk:nk≤nk') (hc:Call Tryz.prog w0 f args H (fun r H'=>r=snV v.1∧HpQ D nf nk v.2 A H')):Call Tryz.prog w0 f args H (fun r H'=>r=snV v.1∧ ∃ y',HpR D nf' nk' y' v.2∧H'=hpH D y' v.2++A):=
 hc.mono fun r H' ⟨h1,y',h2,h3⟩=>⟨h1,y',h2.mono hf hk,h3⟩
theorem doesRead_K (hG:ji w0) (hD:HpDok D) (hI:HeI D.C h) (h1:HpR D nf 0 y h) (hf:nf≤900000) (ho:JJ op) (hc:op.c=2):Call Tryz.prog w0 86 [.pointer (some ⟨D.b,0,none⟩),opV op] (hpH D y h++F) (fun r H'=>r=snV (jD D.C h op).1∧HpQ D (nf+2) 400000000 (jD D.C h op).2 F H'):=by
 have htold:=fun A (e:Int)=>jbE (w0:=w0) (H:=A) (e:=e)
 have hopers:=fun A=>jd9 (w0:=w0) (H:=A)
 unfold opsL at hopers
 have hsl:=fun A=>jd6 (w0:=w0) (F:=A) ho.h h1
 unfold jD;rw[if_neg (by omega),if_neg (by omega)]
 have hop: ∀ sl,hpOp D.C h op sl=Jj D.C h sl op.a:=fun sl=>by grind[hpOp]
 simp only[hop];unfold HpQ
 have hc2:((op.c:Nat):Int)=2:=by omega
 cases hs:hpSlot D.C.tn h.s.W.T op.h with
 |none=>
  simp only[hs,Option.getD_none,Option.isSome_none] at hsl;dsimp only;unfold opV;rw[hc2];refine zeS ?_;intro b3 b4 b5;refine zag ?_;refine zaV ?_;refine zM ?_;refine zbh ?_;exact zhr
 |some sl=>
  obtain⟨n,rfl,hn⟩:=jbG (jaG hI.ok.w (slot_named hs))
  obtain⟨z,hz⟩:=j9 hn
  simp only[hs,Option.getD_some,Option.isSome_some] at hsl;dsimp only;rw[jW hz]
  have hO:=fun A=>jeT (nf':=nf+2) (nk':=400000000) (by omega) (by omega) (hpread_K (w0:=w0) (F:=A) (op:=op) hG hD hI h1 hn (by omega) (by omega))
  have hP:=fun A (y1:CyM) (q:HpP) (h2:HpR D (nf+2) 400000000 y1 q)=>jeE (w0:=w0) (F:=A) h2
  have hA:=fun A (y1:CyM) (q:HpP) (h2:HpR D (nf+2) 400000000 y1 q)=>jeF (w0:=w0) (F:=A) h2 hz
  obtain⟨⟨e,hh,w,addr,us,si,cy,ac⟩,h9,hv⟩: ∃ (q:SnP) (h9:HpP),Jj D.C h ((n:Nat):Int) op.a=(q,h9):=⟨_,_,rfl⟩
  rw[hv] at hO⊢;dsimp only at hO⊢;unfold opV snV at hO;unfold opV;simp only[hc2] at hO;rw[hc2];refine zeS ?_;intro b3 b4 b5;refine zy ?_;refine zbg ?_;refine zax ?_;refine K.cutT (σ:=DsS) [(0,_),(3,_),(4,_)] jc (fun s kp_=>(6, .int .i64 (n:Nat))::(8, .pointer (some ⟨s.b,0,none⟩))::kp_) (fun s=>hpH D s.y h9++((s.b,cells [.int .i64 e, .int .u64 (hh:Nat), .int .u64 w, .int .i64 addr, .int .i64 us, .int .i64 si, .int .i64 cy, .bool ac] 43)::(b3,cells [.int .u8 2, .int .u64 (op.h:Nat), .int .i64 op.a, .int .i64 op.b, .int .u64 (op.v:Nat)] 36)::(b4,cells [.int .i64 0, .int .u64 0, .int .u64 0, .int .i64 0, .int .i64 0, .int .i64 0, .int .i64 0, .bool false] 43)::F)) (fun s=>HpR D (nf+2) 400000000 s.y h9) ?_ ?_
  ·refine zJ ?_
   (first|refine K.seq (K.drawn ((b3,cells [.int .u8 2, .int .u64 (op.h:Nat), .int .i64 op.a, .int .i64 op.b, .int .u64 (op.v:Nat)] 36)::(b5,cells [.nilFunc, .func (.func 153) #[] #[], .func (.func 154) #[] #[], .func (.func 155) #[] #[], .func (.func 156) #[] #[], .func (.func 157) #[] #[], .func (.func 158) #[] #[], .func (.func 159) #[] #[]] 199)::F) [(0,1),(1,1),(2,1),(3,1),(4,1),(5,1),(6,1),(7,3),(8,2),(9,2)] (by kernel_rfl) (by kernel_rfl) (by kernel_rfl) (by kernel_rfl) (by kernel_rfl) (by kernel_rfl) ja ?_)|refine K.seq (K.seq (K.drawn ((b3,cells [.int .u8 2, .int .u64 (op.h:Nat), .int .i64 op.a, .int .i64 op.b, .int .u64 (op.v:Nat)] 36)::(b5,cells [.nilFunc, .func (.func 153) #[] #[], .func (.func 154) #[] #[], .func (.func 155) #[] #[], .func (.func 156) #[] #[], .func (.func 157) #[] #[], .func (.func 158) #[] #[], .func (.func 159) #[] #[]] 199)::F) [(0,1),(1,1),(2,1),(3,1),(4,1),(5,1),(6,1),(7,3),(8,2),(9,2)] (by kernel_rfl) (by kernel_rfl) (by kernel_rfl) (by kernel_rfl) (by kernel_rfl) (by kernel_rfl) ja ?_))|refine K.drawn ((b3,cells [.int .u8 2, .int .u64 (op.h:Nat), .int .i64 op.a, .int .i64 op.b, .int .u64 (op.v:Nat)] 36)::(b5,cells [.nilFunc, .func (.func 153) #[] #[], .func (.func 154) #[] #[], .func (.func 155) #[] #[], .func (.func 156) #[] #[], .func (.func 157) #[] #[], .func (.func 158) #[] #[], .func (.func 159) #[] #[]] 199)::F) [(0,1),(1,1),(2,1),(3,1),(4,1),(5,1),(6,1),(7,3),(8,2),(9,2)] (by rfl) (by rfl) (by kernel_rfl) (by rfl) (by rfl) (by rfl) ja ?_)
   refine zcP ?_;refine zjc ?_;refine zeK ?_;refine zih ?_
   --FORK at region 7:[(7,3),(8,2),(9,2)]
   refine KD.fork2 (x:=7) (y:=8) (o1:=[(8,2),(9,2)]) (o2:=[(7,2),(9,2)]) (by kernel_rfl) rfl rfl (by kernel_rfl) (by kernel_rfl) ?_ ?_
   ·refine zT fun T hT=>?_;refine zek ?_;rintro _ _ ⟨rfl,y1,h2,rfl⟩;refine zi ?_;clear hT T;refine zdd ?_;intro b8;exact zdv
   ·(refine jP.e rfl (Eff.alloc rfl) ?_;rintro _ _ ⟨b8,rfl,rfl⟩;refine⟨ja,?_⟩)
    refine zk fun T hT=>?_;refine zek ?_;rintro _ _ ⟨rfl,y1,h2,rfl⟩;refine zi ?_;clear hT T;refine zbJ ?_;exact zdv
  ·rintro⟨y1,b8⟩ h2;dsimp only at h2⊢;refine zg9 ?_;refine zN ?_;refine zM ?_;refine zak ?_;refine zcn fun T hT=>?_;refine zk0 ?_;rintro _ _ ⟨rfl,rfl⟩;refine ze ?_;clear hT T;refine zz fun T hT=>?_;refine zk1 ?_;rintro _ _ ⟨rfl,rfl⟩;refine ze ?_;clear hT T;refine zbF ?_;refine zbU ?_;refine zcO ?_;exact ziN
theorem jmn (hG:ji w0) (hD:HpDok D) (hI:HeI D.C h) (h1:HpR D nf 0 y h) (hf:nf≤900000) (ho:JJ op) (hc:op.c=3):Call Tryz.prog w0 86 [.pointer (some ⟨D.b,0,none⟩),opV op] (hpH D y h++F) (fun r H'=>r=snV (jD D.C h op).1∧HpQ D (nf+2) 400000000 (jD D.C h op).2 F H'):=by
 have htold:=fun A (e:Int)=>jbE (w0:=w0) (H:=A) (e:=e)
 have hopers:=fun A=>jd9 (w0:=w0) (H:=A)
 unfold opsL at hopers
 have hsl:=fun A=>jd6 (w0:=w0) (F:=A) ho.h h1
 unfold jD;rw[if_neg (by omega),if_neg (by omega)]
 have hop: ∀ sl,hpOp D.C h op sl=jaO D.C h sl op.a op.v:=fun sl=>by grind[hpOp]
 simp only[hop];unfold HpQ
 have hc2:((op.c:Nat):Int)=3:=by omega
 cases hs:hpSlot D.C.tn h.s.W.T op.h with
 |none=>
  simp only[hs,Option.getD_none,Option.isSome_none] at hsl;dsimp only;unfold opV;rw[hc2];refine zeS ?_;intro b3 b4 b5;refine zag ?_;refine zaV ?_;refine zM ?_;refine zbh ?_;exact zhr
 |some sl=>
  obtain⟨n,rfl,hn⟩:=jbG (jaG hI.ok.w (slot_named hs))
  obtain⟨z,hz⟩:=j9 hn
  simp only[hs,Option.getD_some,Option.isSome_some] at hsl;dsimp only;rw[jW hz]
  have hO:=fun A=>jeT (nf':=nf+2) (nk':=400000000) (by omega) (by omega) (hpwrite_K (w0:=w0) (F:=A) (op:=op) hG hD hI h1 hn ho.v)
  have hP:=fun A (y1:CyM) (q:HpP) (h2:HpR D (nf+2) 400000000 y1 q)=>jeE (w0:=w0) (F:=A) h2
  have hA:=fun A (y1:CyM) (q:HpP) (h2:HpR D (nf+2) 400000000 y1 q)=>jeF (w0:=w0) (F:=A) h2 hz
  obtain⟨⟨e,hh,w,addr,us,si,cy,ac⟩,h9,hv⟩: ∃ (q:SnP) (h9:HpP),jaO D.C h ((n:Nat):Int) op.a op.v=(q,h9):=⟨_,_,rfl⟩
  rw[hv] at hO⊢;dsimp only at hO⊢;unfold opV snV at hO;unfold opV;simp only[hc2] at hO;rw[hc2];refine zeS ?_;intro b3 b4 b5;refine zy ?_;refine zbg ?_;refine zax ?_;refine K.cutT (σ:=DsS) [(0,_),(3,_),(4,_)] jc (fun s kp_=>(6, .int .i64 (n:Nat))::(8, .pointer (some ⟨s.b,0,none⟩))::kp_) (fun s=>hpH D s.y h9++((s.b,cells [.int .i64 e, .int .u64 (hh:Nat), .int .u64 w, .int .i64 addr, .int .i64 us, .int .i64 si, .int .i64 cy, .bool ac] 43)::(b3,cells [.int .u8 3, .int .u64 (op.h:Nat), .int .i64 op.a, .int .i64 op.b, .int .u64 (op.v:Nat)] 36)::(b4,cells [.int .i64 0, .int .u64 0, .int .u64 0, .int .i64 0, .int .i64 0, .int .i64 0, .int .i64 0, .bool false] 43)::F)) (fun s=>HpR D (nf+2) 400000000 s.y h9) ?_ ?_
  ·refine zJ ?_
   (first|refine K.seq (K.drawn ((b3,cells [.int .u8 3, .int .u64 (op.h:Nat), .int .i64 op.a, .int .i64 op.b, .int .u64 (op.v:Nat)] 36)::(b5,cells [.nilFunc, .func (.func 153) #[] #[], .func (.func 154) #[] #[], .func (.func 155) #[] #[], .func (.func 156) #[] #[], .func (.func 157) #[] #[], .func (.func 158) #[] #[], .func (.func 159) #[] #[]] 199)::F) [(0,1),(1,1),(2,1),(3,1),(4,1),(5,1),(6,1),(7,3),(8,2),(9,2)] (by kernel_rfl) (by kernel_rfl) (by kernel_rfl) (by kernel_rfl) (by kernel_rfl) (by kernel_rfl) ja ?_)|refine K.seq (K.seq (K.drawn ((b3,cells [.int .u8 3, .int .u64 (op.h:Nat), .int .i64 op.a, .int .i64 op.b, .int .u64 (op.v:Nat)] 36)::(b5,cells [.nilFunc, .func (.func 153) #[] #[], .func (.func 154) #[] #[], .func (.func 155) #[] #[], .func (.func 156) #[] #[], .func (.func 157) #[] #[], .func (.func 158) #[] #[], .func (.func 159) #[] #[]] 199)::F) [(0,1),(1,1),(2,1),(3,1),(4,1),(5,1),(6,1),(7,3),(8,2),(9,2)] (by kernel_rfl) (by kernel_rfl) (by kernel_rfl) (by kernel_rfl) (by kernel_rfl) (by kernel_rfl) ja ?_))|refine K.drawn ((b3,cells [.int .u8 3, .int .u64 (op.h:Nat), .int .i64 op.a, .int .i64 op.b, .int .u64 (op.v:Nat)] 36)::(b5,cells [.nilFunc, .func (.func 153) #[] #[], .func (.func 154) #[] #[], .func (.func 155) #[] #[], .func (.func 156) #[] #[], .func (.func 157) #[] #[], .func (.func 158) #[] #[], .func (.func 159) #[] #[]] 199)::F) [(0,1),(1,1),(2,1),(3,1),(4,1),(5,1),(6,1),(7,3),(8,2),(9,2)] (by rfl) (by rfl) (by kernel_rfl) (by rfl) (by rfl) (by rfl) ja ?_)
   refine zcP ?_;refine zjc ?_;refine zeK ?_;refine zih ?_
   --FORK at region 7:[(7,3),(8,2),(9,2)]
   refine KD.fork2 (x:=7) (y:=8) (o1:=[(8,2),(9,2)]) (o2:=[(7,2),(9,2)]) (by kernel_rfl) rfl rfl (by kernel_rfl) (by kernel_rfl) ?_ ?_
   ·refine zT fun T hT=>?_;refine zek ?_;rintro _ _ ⟨rfl,y1,h2,rfl⟩;refine zi ?_;clear hT T;refine zdd ?_;intro b8;exact zdv
   ·(refine jP.e rfl (Eff.alloc rfl) ?_;rintro _ _ ⟨b8,rfl,rfl⟩;refine⟨ja,?_⟩)
    refine zk fun T hT=>?_;refine zek ?_;rintro _ _ ⟨rfl,y1,h2,rfl⟩;refine zi ?_;clear hT T;refine zbJ ?_;exact zdv
  ·rintro⟨y1,b8⟩ h2;dsimp only at h2⊢;refine zg9 ?_;refine zN ?_;refine zM ?_;refine zak ?_;refine zcn fun T hT=>?_;refine zk0 ?_;rintro _ _ ⟨rfl,rfl⟩;refine ze ?_;clear hT T;refine zz fun T hT=>?_;refine zk1 ?_;rintro _ _ ⟨rfl,rfl⟩;refine ze ?_;clear hT T;refine zbF ?_;refine zbU ?_;refine zcO ?_;exact ziN
theorem doesRoot_K (hG:ji w0) (hD:HpDok D) (hI:HeI D.C h) (h1:HpR D nf 0 y h) (hf:nf≤900000) (ho:JJ op) (hc:op.c=4):Call Tryz.prog w0 86 [.pointer (some ⟨D.b,0,none⟩),opV op] (hpH D y h++F) (fun r H'=>r=snV (jD D.C h op).1∧HpQ D (nf+2) 400000000 (jD D.C h op).2 F H'):=by
 have htold:=fun A (e:Int)=>jbE (w0:=w0) (H:=A) (e:=e)
 have hopers:=fun A=>jd9 (w0:=w0) (H:=A)
 unfold opsL at hopers
 have hsl:=fun A=>jd6 (w0:=w0) (F:=A) ho.h h1
 unfold jD;rw[if_neg (by omega),if_neg (by omega)]
 have hop: ∀ sl,hpOp D.C h op sl=jfB h sl:=fun sl=>by grind[hpOp]
 simp only[hop];unfold HpQ
 have hc2:((op.c:Nat):Int)=4:=by omega
 cases hs:hpSlot D.C.tn h.s.W.T op.h with
 |none=>
  simp only[hs,Option.getD_none,Option.isSome_none] at hsl;dsimp only;unfold opV;rw[hc2];refine zeS ?_;intro b3 b4 b5;refine zag ?_;refine zaV ?_;refine zM ?_;refine zbh ?_;exact zhr
 |some sl=>
  obtain⟨n,rfl,hn⟩:=jbG (jaG hI.ok.w (slot_named hs))
  obtain⟨z,hz⟩:=j9 hn
  simp only[hs,Option.getD_some,Option.isSome_some] at hsl;dsimp only;rw[jW hz]
  have hO:=fun A=>jeT (nf':=nf+2) (nk':=400000000) (by omega) (by omega) (hproot_K (w0:=w0) (F:=A) (op:=op) h1 hn)
  have hP:=fun A (y1:CyM) (q:HpP) (h2:HpR D (nf+2) 400000000 y1 q)=>jeE (w0:=w0) (F:=A) h2
  have hA:=fun A (y1:CyM) (q:HpP) (h2:HpR D (nf+2) 400000000 y1 q)=>jeF (w0:=w0) (F:=A) h2 hz
  obtain⟨⟨e,hh,w,addr,us,si,cy,ac⟩,h9,hv⟩: ∃ (q:SnP) (h9:HpP),jfB h ((n:Nat):Int)=(q,h9):=⟨_,_,rfl⟩
  rw[hv] at hO⊢;dsimp only at hO⊢;unfold opV snV at hO;unfold opV;simp only[hc2] at hO;rw[hc2];refine zeS ?_;intro b3 b4 b5;refine zy ?_;refine zbg ?_;refine zax ?_;refine K.cutT (σ:=DsS) [(0,_),(3,_),(4,_)] jc (fun s kp_=>(6, .int .i64 (n:Nat))::(8, .pointer (some ⟨s.b,0,none⟩))::kp_) (fun s=>hpH D s.y h9++((s.b,cells [.int .i64 e, .int .u64 (hh:Nat), .int .u64 w, .int .i64 addr, .int .i64 us, .int .i64 si, .int .i64 cy, .bool ac] 43)::(b3,cells [.int .u8 4, .int .u64 (op.h:Nat), .int .i64 op.a, .int .i64 op.b, .int .u64 (op.v:Nat)] 36)::(b4,cells [.int .i64 0, .int .u64 0, .int .u64 0, .int .i64 0, .int .i64 0, .int .i64 0, .int .i64 0, .bool false] 43)::F)) (fun s=>HpR D (nf+2) 400000000 s.y h9) ?_ ?_
  ·refine zJ ?_
   (first|refine K.seq (K.drawn ((b3,cells [.int .u8 4, .int .u64 (op.h:Nat), .int .i64 op.a, .int .i64 op.b, .int .u64 (op.v:Nat)] 36)::(b5,cells [.nilFunc, .func (.func 153) #[] #[], .func (.func 154) #[] #[], .func (.func 155) #[] #[], .func (.func 156) #[] #[], .func (.func 157) #[] #[], .func (.func 158) #[] #[], .func (.func 159) #[] #[]] 199)::F) [(0,1),(1,1),(2,1),(3,1),(4,1),(5,1),(6,1),(7,3),(8,2),(9,2)] (by kernel_rfl) (by kernel_rfl) (by kernel_rfl) (by kernel_rfl) (by kernel_rfl) (by kernel_rfl) ja ?_)|refine K.seq (K.seq (K.drawn ((b3,cells [.int .u8 4, .int .u64 (op.h:Nat), .int .i64 op.a, .int .i64 op.b, .int .u64 (op.v:Nat)] 36)::(b5,cells [.nilFunc, .func (.func 153) #[] #[], .func (.func 154) #[] #[], .func (.func 155) #[] #[], .func (.func 156) #[] #[], .func (.func 157) #[] #[], .func (.func 158) #[] #[], .func (.func 159) #[] #[]] 199)::F) [(0,1),(1,1),(2,1),(3,1),(4,1),(5,1),(6,1),(7,3),(8,2),(9,2)] (by kernel_rfl) (by kernel_rfl) (by kernel_rfl) (by kernel_rfl) (by kernel_rfl) (by kernel_rfl) ja ?_))|refine K.drawn ((b3,cells [.int .u8 4, .int .u64 (op.h:Nat), .int .i64 op.a, .int .i64 op.b, .int .u64 (op.v:Nat)] 36)::(b5,cells [.nilFunc, .func (.func 153) #[] #[], .func (.func 154) #[] #[], .func (.func 155) #[] #[], .func (.func 156) #[] #[], .func (.func 157) #[] #[], .func (.func 158) #[] #[], .func (.func 159) #[] #[]] 199)::F) [(0,1),(1,1),(2,1),(3,1),(4,1),(5,1),(6,1),(7,3),(8,2),(9,2)] (by rfl) (by rfl) (by kernel_rfl) (by rfl) (by rfl) (by rfl) ja ?_)
   refine zcP ?_;refine zjc ?_;refine zeK ?_;refine zih ?_
   --FORK at region 7:[(7,3),(8,2),(9,2)]
   refine KD.fork2 (x:=7) (y:=8) (o1:=[(8,2),(9,2)]) (o2:=[(7,2),(9,2)]) (by kernel_rfl) rfl rfl (by kernel_rfl) (by kernel_rfl) ?_ ?_
   ·refine zT fun T hT=>?_;refine zek ?_;rintro _ _ ⟨rfl,y1,h2,rfl⟩;refine zi ?_;clear hT T;refine zdd ?_;intro b8;exact zdv
   ·(refine jP.e rfl (Eff.alloc rfl) ?_;rintro _ _ ⟨b8,rfl,rfl⟩;refine⟨ja,?_⟩)
    refine zk fun T hT=>?_;refine zek ?_;rintro _ _ ⟨rfl,y1,h2,rfl⟩;refine zi ?_;clear hT T;refine zbJ ?_;exact zdv
  ·rintro⟨y1,b8⟩ h2;dsimp only at h2⊢;refine zg9 ?_;refine zN ?_;refine zM ?_;refine zak ?_;refine zcn fun T hT=>?_;refine zk0 ?_;rintro _ _ ⟨rfl,rfl⟩;refine ze ?_;clear hT T;refine zz fun T hT=>?_;refine zk1 ?_;rintro _ _ ⟨rfl,rfl⟩;refine ze ?_;clear hT T;refine zbF ?_;refine zbU ?_;refine zcO ?_;exact ziN
theorem jl6 (hG:ji w0) (hD:HpDok D) (hI:HeI D.C h) (h1:HpR D nf 0 y h) (hf:nf≤900000) (ho:JJ op) (hc:op.c=5):Call Tryz.prog w0 86 [.pointer (some ⟨D.b,0,none⟩),opV op] (hpH D y h++F) (fun r H'=>r=snV (jD D.C h op).1∧HpQ D (nf+2) 400000000 (jD D.C h op).2 F H'):=by
 have htold:=fun A (e:Int)=>jbE (w0:=w0) (H:=A) (e:=e)
 have hopers:=fun A=>jd9 (w0:=w0) (H:=A)
 unfold opsL at hopers
 have hsl:=fun A=>jd6 (w0:=w0) (F:=A) ho.h h1
 unfold jD;rw[if_neg (by omega),if_neg (by omega)]
 have hop: ∀ sl,hpOp D.C h op sl=jbo D.C h sl:=fun sl=>by grind[hpOp]
 simp only[hop];unfold HpQ
 have hc2:((op.c:Nat):Int)=5:=by omega
 cases hs:hpSlot D.C.tn h.s.W.T op.h with
 |none=>
  simp only[hs,Option.getD_none,Option.isSome_none] at hsl;dsimp only;unfold opV;rw[hc2];refine zeS ?_;intro b3 b4 b5;refine zag ?_;refine zaV ?_;refine zM ?_;refine zbh ?_;exact zhr
 |some sl=>
  obtain⟨n,rfl,hn⟩:=jbG (jaG hI.ok.w (slot_named hs))
  obtain⟨z,hz⟩:=j9 hn
  simp only[hs,Option.getD_some,Option.isSome_some] at hsl;dsimp only;rw[jW hz]
  have hO:=fun A=>jeT (nf':=nf+2) (nk':=400000000) (by omega) (by omega) (hpunroot_K (w0:=w0) (F:=A) (op:=op) h1 hn)
  have hP:=fun A (y1:CyM) (q:HpP) (h2:HpR D (nf+2) 400000000 y1 q)=>jeE (w0:=w0) (F:=A) h2
  have hA:=fun A (y1:CyM) (q:HpP) (h2:HpR D (nf+2) 400000000 y1 q)=>jeF (w0:=w0) (F:=A) h2 hz
  obtain⟨⟨e,hh,w,addr,us,si,cy,ac⟩,h9,hv⟩: ∃ (q:SnP) (h9:HpP),jbo D.C h ((n:Nat):Int)=(q,h9):=⟨_,_,rfl⟩
  rw[hv] at hO⊢;dsimp only at hO⊢;unfold opV snV at hO;unfold opV;simp only[hc2] at hO;rw[hc2];refine zeS ?_;intro b3 b4 b5;refine zy ?_;refine zbg ?_;refine zax ?_;refine K.cutT (σ:=DsS) [(0,_),(3,_),(4,_)] jc (fun s kp_=>(6, .int .i64 (n:Nat))::(8, .pointer (some ⟨s.b,0,none⟩))::kp_) (fun s=>hpH D s.y h9++((s.b,cells [.int .i64 e, .int .u64 (hh:Nat), .int .u64 w, .int .i64 addr, .int .i64 us, .int .i64 si, .int .i64 cy, .bool ac] 43)::(b3,cells [.int .u8 5, .int .u64 (op.h:Nat), .int .i64 op.a, .int .i64 op.b, .int .u64 (op.v:Nat)] 36)::(b4,cells [.int .i64 0, .int .u64 0, .int .u64 0, .int .i64 0, .int .i64 0, .int .i64 0, .int .i64 0, .bool false] 43)::F)) (fun s=>HpR D (nf+2) 400000000 s.y h9) ?_ ?_
  ·refine zJ ?_
   (first|refine K.seq (K.drawn ((b3,cells [.int .u8 5, .int .u64 (op.h:Nat), .int .i64 op.a, .int .i64 op.b, .int .u64 (op.v:Nat)] 36)::(b5,cells [.nilFunc, .func (.func 153) #[] #[], .func (.func 154) #[] #[], .func (.func 155) #[] #[], .func (.func 156) #[] #[], .func (.func 157) #[] #[], .func (.func 158) #[] #[], .func (.func 159) #[] #[]] 199)::F) [(0,1),(1,1),(2,1),(3,1),(4,1),(5,1),(6,1),(7,3),(8,2),(9,2)] (by kernel_rfl) (by kernel_rfl) (by kernel_rfl) (by kernel_rfl) (by kernel_rfl) (by kernel_rfl) ja ?_)|refine K.seq (K.seq (K.drawn ((b3,cells [.int .u8 5, .int .u64 (op.h:Nat), .int .i64 op.a, .int .i64 op.b, .int .u64 (op.v:Nat)] 36)::(b5,cells [.nilFunc, .func (.func 153) #[] #[], .func (.func 154) #[] #[], .func (.func 155) #[] #[], .func (.func 156) #[] #[], .func (.func 157) #[] #[], .func (.func 158) #[] #[], .func (.func 159) #[] #[]] 199)::F) [(0,1),(1,1),(2,1),(3,1),(4,1),(5,1),(6,1),(7,3),(8,2),(9,2)] (by kernel_rfl) (by kernel_rfl) (by kernel_rfl) (by kernel_rfl) (by kernel_rfl) (by kernel_rfl) ja ?_))|refine K.drawn ((b3,cells [.int .u8 5, .int .u64 (op.h:Nat), .int .i64 op.a, .int .i64 op.b, .int .u64 (op.v:Nat)] 36)::(b5,cells [.nilFunc, .func (.func 153) #[] #[], .func (.func 154) #[] #[], .func (.func 155) #[] #[], .func (.func 156) #[] #[], .func (.func 157) #[] #[], .func (.func 158) #[] #[], .func (.func 159) #[] #[]] 199)::F) [(0,1),(1,1),(2,1),(3,1),(4,1),(5,1),(6,1),(7,3),(8,2),(9,2)] (by rfl) (by rfl) (by kernel_rfl) (by rfl) (by rfl) (by rfl) ja ?_)
   refine zcP ?_;refine zjc ?_;refine zeK ?_;refine zih ?_
   --FORK at region 7:[(7,3),(8,2),(9,2)]
   refine KD.fork2 (x:=7) (y:=8) (o1:=[(8,2),(9,2)]) (o2:=[(7,2),(9,2)]) (by kernel_rfl) rfl rfl (by kernel_rfl) (by kernel_rfl) ?_ ?_
   ·refine zT fun T hT=>?_;refine zek ?_;rintro _ _ ⟨rfl,y1,h2,rfl⟩;refine zi ?_;clear hT T;refine zdd ?_;intro b8;exact zdv
   ·(refine jP.e rfl (Eff.alloc rfl) ?_;rintro _ _ ⟨b8,rfl,rfl⟩;refine⟨ja,?_⟩)
    refine zk fun T hT=>?_;refine zek ?_;rintro _ _ ⟨rfl,y1,h2,rfl⟩;refine zi ?_;clear hT T;refine zbJ ?_;exact zdv
  ·rintro⟨y1,b8⟩ h2;dsimp only at h2⊢;refine zg9 ?_;refine zN ?_;refine zM ?_;refine zak ?_;refine zcn fun T hT=>?_;refine zk0 ?_;rintro _ _ ⟨rfl,rfl⟩;refine ze ?_;clear hT T;refine zz fun T hT=>?_;refine zk1 ?_;rintro _ _ ⟨rfl,rfl⟩;refine ze ?_;clear hT T;refine zbF ?_;refine zbU ?_;refine zcO ?_;exact ziN
theorem doesDrop_K (hG:ji w0) (hD:HpDok D) (hI:HeI D.C h) (h1:HpR D nf 0 y h) (hf:nf≤900000) (ho:JJ op) (hc:op.c=6):Call Tryz.prog w0 86 [.pointer (some ⟨D.b,0,none⟩),opV op] (hpH D y h++F) (fun r H'=>r=snV (jD D.C h op).1∧HpQ D (nf+2) 400000000 (jD D.C h op).2 F H'):=by
 have htold:=fun A (e:Int)=>jbE (w0:=w0) (H:=A) (e:=e)
 have hopers:=fun A=>jd9 (w0:=w0) (H:=A)
 unfold opsL at hopers
 have hsl:=fun A=>jd6 (w0:=w0) (F:=A) ho.h h1
 unfold jD;rw[if_neg (by omega),if_neg (by omega)]
 have hop: ∀ sl,hpOp D.C h op sl=jfC D.C h sl op.h:=fun sl=>by grind[hpOp]
 simp only[hop];unfold HpQ
 have hc2:((op.c:Nat):Int)=6:=by omega
 cases hs:hpSlot D.C.tn h.s.W.T op.h with
 |none=>
  simp only[hs,Option.getD_none,Option.isSome_none] at hsl;dsimp only;unfold opV;rw[hc2];refine zeS ?_;intro b3 b4 b5;refine zag ?_;refine zaV ?_;refine zM ?_;refine zbh ?_;exact zhr
 |some sl=>
  obtain⟨n,rfl,hn⟩:=jbG (jaG hI.ok.w (slot_named hs))
  obtain⟨z,hz⟩:=j9 hn
  simp only[hs,Option.getD_some,Option.isSome_some] at hsl;dsimp only;rw[jW hz]
  have hO:=fun A=>jeT (nf':=nf+2) (nk':=400000000) (by omega) (by omega) (hpdrop_K (w0:=w0) (F:=A) (op:=op) h1 hn ho.h hs)
  have hP:=fun A (y1:CyM) (q:HpP) (h2:HpR D (nf+2) 400000000 y1 q)=>jeE (w0:=w0) (F:=A) h2
  have hA:=fun A (y1:CyM) (q:HpP) (h2:HpR D (nf+2) 400000000 y1 q)=>jeF (w0:=w0) (F:=A) h2 hz
  obtain⟨⟨e,hh,w,addr,us,si,cy,ac⟩,h9,hv⟩: ∃ (q:SnP) (h9:HpP),jfC D.C h ((n:Nat):Int) op.h=(q,h9):=⟨_,_,rfl⟩
  rw[hv] at hO⊢;dsimp only at hO⊢;unfold opV snV at hO;unfold opV;simp only[hc2] at hO;rw[hc2];refine zeS ?_;intro b3 b4 b5;refine zy ?_;refine zbg ?_;refine zax ?_;refine K.cutT (σ:=DsS) [(0,_),(3,_),(4,_)] jc (fun s kp_=>(6, .int .i64 (n:Nat))::(8, .pointer (some ⟨s.b,0,none⟩))::kp_) (fun s=>hpH D s.y h9++((s.b,cells [.int .i64 e, .int .u64 (hh:Nat), .int .u64 w, .int .i64 addr, .int .i64 us, .int .i64 si, .int .i64 cy, .bool ac] 43)::(b3,cells [.int .u8 6, .int .u64 (op.h:Nat), .int .i64 op.a, .int .i64 op.b, .int .u64 (op.v:Nat)] 36)::(b4,cells [.int .i64 0, .int .u64 0, .int .u64 0, .int .i64 0, .int .i64 0, .int .i64 0, .int .i64 0, .bool false] 43)::F)) (fun s=>HpR D (nf+2) 400000000 s.y h9) ?_ ?_
  ·refine zJ ?_
   (first|refine K.seq (K.drawn ((b3,cells [.int .u8 6, .int .u64 (op.h:Nat), .int .i64 op.a, .int .i64 op.b, .int .u64 (op.v:Nat)] 36)::(b5,cells [.nilFunc, .func (.func 153) #[] #[], .func (.func 154) #[] #[], .func (.func 155) #[] #[], .func (.func 156) #[] #[], .func (.func 157) #[] #[], .func (.func 158) #[] #[], .func (.func 159) #[] #[]] 199)::F) [(0,1),(1,1),(2,1),(3,1),(4,1),(5,1),(6,1),(7,3),(8,2),(9,2)] (by kernel_rfl) (by kernel_rfl) (by kernel_rfl) (by kernel_rfl) (by kernel_rfl) (by kernel_rfl) ja ?_)|refine K.seq (K.seq (K.drawn ((b3,cells [.int .u8 6, .int .u64 (op.h:Nat), .int .i64 op.a, .int .i64 op.b, .int .u64 (op.v:Nat)] 36)::(b5,cells [.nilFunc, .func (.func 153) #[] #[], .func (.func 154) #[] #[], .func (.func 155) #[] #[], .func (.func 156) #[] #[], .func (.func 157) #[] #[], .func (.func 158) #[] #[], .func (.func 159) #[] #[]] 199)::F) [(0,1),(1,1),(2,1),(3,1),(4,1),(5,1),(6,1),(7,3),(8,2),(9,2)] (by kernel_rfl) (by kernel_rfl) (by kernel_rfl) (by kernel_rfl) (by kernel_rfl) (by kernel_rfl) ja ?_))|refine K.drawn ((b3,cells [.int .u8 6, .int .u64 (op.h:Nat), .int .i64 op.a, .int .i64 op.b, .int .u64 (op.v:Nat)] 36)::(b5,cells [.nilFunc, .func (.func 153) #[] #[], .func (.func 154) #[] #[], .func (.func 155) #[] #[], .func (.func 156) #[] #[], .func (.func 157) #[] #[], .func (.func 158) #[] #[], .func (.func 159) #[] #[]] 199)::F) [(0,1),(1,1),(2,1),(3,1),(4,1),(5,1),(6,1),(7,3),(8,2),(9,2)] (by rfl) (by rfl) (by kernel_rfl) (by rfl) (by rfl) (by rfl) ja ?_)
   refine zcP ?_;refine zjc ?_;refine zeK ?_;refine zih ?_
   --FORK at region 7:[(7,3),(8,2),(9,2)]
   refine KD.fork2 (x:=7) (y:=8) (o1:=[(8,2),(9,2)]) (o2:=[(7,2),(9,2)]) (by kernel_rfl) rfl rfl (by kernel_rfl) (by kernel_rfl) ?_ ?_
   ·refine zT fun T hT=>?_;refine zek ?_;rintro _ _ ⟨rfl,y1,h2,rfl⟩;refine zi ?_;clear hT T;refine zdd ?_;intro b8;exact zdv
   ·(refine jP.e rfl (Eff.alloc rfl) ?_;rintro _ _ ⟨b8,rfl,rfl⟩;refine⟨ja,?_⟩)
    refine zk fun T hT=>?_;refine zek ?_;rintro _ _ ⟨rfl,y1,h2,rfl⟩;refine zi ?_;clear hT T;refine zbJ ?_;exact zdv
  ·rintro⟨y1,b8⟩ h2;dsimp only at h2⊢;refine zg9 ?_;refine zN ?_;refine zM ?_;refine zak ?_;refine zcn fun T hT=>?_;refine zk0 ?_;rintro _ _ ⟨rfl,rfl⟩;refine ze ?_;clear hT T;refine zz fun T hT=>?_;refine zk1 ?_;rintro _ _ ⟨rfl,rfl⟩;refine ze ?_;clear hT T;refine zbF ?_;refine zbU ?_;refine zcO ?_;exact ziN
theorem doesFold_K (hG:ji w0) (hD:HpDok D) (hI:HeI D.C h) (h1:HpR D nf 0 y h) (hf:nf≤900000) (ho:JJ op) (hc:op.c=7):Call Tryz.prog w0 86 [.pointer (some ⟨D.b,0,none⟩),opV op] (hpH D y h++F) (fun r H'=>r=snV (jD D.C h op).1∧HpQ D (nf+2) 400000000 (jD D.C h op).2 F H'):=by
 have htold:=fun A (e:Int)=>jbE (w0:=w0) (H:=A) (e:=e)
 have hopers:=fun A=>jd9 (w0:=w0) (H:=A)
 unfold opsL at hopers
 have hsl:=fun A=>jd6 (w0:=w0) (F:=A) ho.h h1
 unfold jD;rw[if_neg (by omega),if_neg (by omega)]
 have hop: ∀ sl,hpOp D.C h op sl=jeV D.C h sl:=fun sl=>by grind[hpOp]
 simp only[hop];unfold HpQ
 have hc2:((op.c:Nat):Int)=7:=by omega
 cases hs:hpSlot D.C.tn h.s.W.T op.h with
 |none=>
  simp only[hs,Option.getD_none,Option.isSome_none] at hsl;dsimp only;unfold opV;rw[hc2];refine zeS ?_;intro b3 b4 b5;refine zag ?_;refine zaV ?_;refine zM ?_;refine zbh ?_;exact zhr
 |some sl=>
  obtain⟨n,rfl,hn⟩:=jbG (jaG hI.ok.w (slot_named hs))
  obtain⟨z,hz⟩:=j9 hn
  simp only[hs,Option.getD_some,Option.isSome_some] at hsl;dsimp only;rw[jW hz]
  have hO:=fun A=>jeT (nf':=nf+2) (nk':=400000000) (by omega) (by omega) (hpfold_K (w0:=w0) (F:=A) (op:=op) hG h1 hz (wordsX_le))
  have hP:=fun A (y1:CyM) (q:HpP) (h2:HpR D (nf+2) 400000000 y1 q)=>jeE (w0:=w0) (F:=A) h2
  have hA:=fun A (y1:CyM) (q:HpP) (h2:HpR D (nf+2) 400000000 y1 q)=>jeF (w0:=w0) (F:=A) h2 hz
  obtain⟨⟨e,hh,w,addr,us,si,cy,ac⟩,h9,hv⟩: ∃ (q:SnP) (h9:HpP),jeV D.C h ((n:Nat):Int)=(q,h9):=⟨_,_,rfl⟩
  rw[hv] at hO⊢;dsimp only at hO⊢;unfold opV snV at hO;unfold opV;simp only[hc2] at hO;rw[hc2];refine zeS ?_;intro b3 b4 b5;refine zy ?_;refine zbg ?_;refine zax ?_;refine K.cutT (σ:=DsS) [(0,_),(3,_),(4,_)] jc (fun s kp_=>(6, .int .i64 (n:Nat))::(8, .pointer (some ⟨s.b,0,none⟩))::kp_) (fun s=>hpH D s.y h9++((s.b,cells [.int .i64 e, .int .u64 (hh:Nat), .int .u64 w, .int .i64 addr, .int .i64 us, .int .i64 si, .int .i64 cy, .bool ac] 43)::(b3,cells [.int .u8 7, .int .u64 (op.h:Nat), .int .i64 op.a, .int .i64 op.b, .int .u64 (op.v:Nat)] 36)::(b4,cells [.int .i64 0, .int .u64 0, .int .u64 0, .int .i64 0, .int .i64 0, .int .i64 0, .int .i64 0, .bool false] 43)::F)) (fun s=>HpR D (nf+2) 400000000 s.y h9) ?_ ?_
  ·refine zJ ?_
   (first|refine K.seq (K.drawn ((b3,cells [.int .u8 7, .int .u64 (op.h:Nat), .int .i64 op.a, .int .i64 op.b, .int .u64 (op.v:Nat)] 36)::(b5,cells [.nilFunc, .func (.func 153) #[] #[], .func (.func 154) #[] #[], .func (.func 155) #[] #[], .func (.func 156) #[] #[], .func (.func 157) #[] #[], .func (.func 158) #[] #[], .func (.func 159) #[] #[]] 199)::F) [(0,1),(1,1),(2,1),(3,1),(4,1),(5,1),(6,1),(7,3),(8,2),(9,2)] (by kernel_rfl) (by kernel_rfl) (by kernel_rfl) (by kernel_rfl) (by kernel_rfl) (by kernel_rfl) ja ?_)|refine K.seq (K.seq (K.drawn ((b3,cells [.int .u8 7, .int .u64 (op.h:Nat), .int .i64 op.a, .int .i64 op.b, .int .u64 (op.v:Nat)] 36)::(b5,cells [.nilFunc, .func (.func 153) #[] #[], .func (.func 154) #[] #[], .func (.func 155) #[] #[], .func (.func 156) #[] #[], .func (.func 157) #[] #[], .func (.func 158) #[] #[], .func (.func 159) #[] #[]] 199)::F) [(0,1),(1,1),(2,1),(3,1),(4,1),(5,1),(6,1),(7,3),(8,2),(9,2)] (by kernel_rfl) (by kernel_rfl) (by kernel_rfl) (by kernel_rfl) (by kernel_rfl) (by kernel_rfl) ja ?_))|refine K.drawn ((b3,cells [.int .u8 7, .int .u64 (op.h:Nat), .int .i64 op.a, .int .i64 op.b, .int .u64 (op.v:Nat)] 36)::(b5,cells [.nilFunc, .func (.func 153) #[] #[], .func (.func 154) #[] #[], .func (.func 155) #[] #[], .func (.func 156) #[] #[], .func (.func 157) #[] #[], .func (.func 158) #[] #[], .func (.func 159) #[] #[]] 199)::F) [(0,1),(1,1),(2,1),(3,1),(4,1),(5,1),(6,1),(7,3),(8,2),(9,2)] (by rfl) (by rfl) (by kernel_rfl) (by rfl) (by rfl) (by rfl) ja ?_)
   refine zcP ?_;refine zjc ?_;refine zeK ?_;refine zih ?_
   --FORK at region 7:[(7,3),(8,2),(9,2)]
   refine KD.fork2 (x:=7) (y:=8) (o1:=[(8,2),(9,2)]) (o2:=[(7,2),(9,2)]) (by kernel_rfl) rfl rfl (by kernel_rfl) (by kernel_rfl) ?_ ?_
   ·refine zT fun T hT=>?_;refine zek ?_;rintro _ _ ⟨rfl,y1,h2,rfl⟩;refine zi ?_;clear hT T;refine zdd ?_;intro b8;exact zdv
   ·(refine jP.e rfl (Eff.alloc rfl) ?_;rintro _ _ ⟨b8,rfl,rfl⟩;refine⟨ja,?_⟩)
    refine zk fun T hT=>?_;refine zek ?_;rintro _ _ ⟨rfl,y1,h2,rfl⟩;refine zi ?_;clear hT T;refine zbJ ?_;exact zdv
  ·rintro⟨y1,b8⟩ h2;dsimp only at h2⊢;refine zg9 ?_;refine zN ?_;refine zM ?_;refine zak ?_;refine zcn fun T hT=>?_;refine zk0 ?_;rintro _ _ ⟨rfl,rfl⟩;refine ze ?_;clear hT T;refine zz fun T hT=>?_;refine zk1 ?_;rintro _ _ ⟨rfl,rfl⟩;refine ze ?_;clear hT T;refine zbF ?_;refine zbU ?_;refine zcO ?_;exact ziN
end
end Go.Proofs.YtebiafomiemgbaaGreatDoor.Sw
