/-The walker and the contracts that the law needs,part 40. -/
import Derived.Test.YtldomapkmopomaaGreatDoorD1
import Derived.ArgAppend
import Derived.ChangeMaps5
import Derived.Deep.Fields
import Derived.Deep.LoopGhost
import Derived.Deep.OwnRows
import Derived.Deep.Quiet
import Derived.Deep.Slices
import Derived.IntWalk
import Derived.Laws.Cells
import Derived.Laws.CopyOwn
import Derived.Laws.Externs
import Derived.Laws.FloatArith
import Derived.Laws.IdiomStrings
import Derived.Laws.NewFold
import Derived.Laws.StructEq
import Derived.Lib.BitFns
import Derived.Lib.Hide
import Derived.Lib.SmallJoins
import Derived.Lib.TrailingZeros
import Derived.Maps.RangeRun
import Derived.OrdersIn
import Derived.ProofKit
import Derived.RangeFuncBound
import Derived.RangeFuncCalls
import Derived.RangeFuncLeaves
import Derived.RangeFuncNested
import Derived.RecoverIn
import Derived.Shelf.Bits.Mul64
import Derived.Shelf.Slices.Turned
import Derived.Shelf.Spec.TrailingZeros
import Derived.Shelf.Strconv.Itoa0
import Derived.SizedLaws
import Derived.Sort.BigQuietIn
import Derived.StillTailTactics
import Derived.Test.YtldomapkmopomaaGreatDoorProg
import Derived.WalkKit
import Derived.LaidHandle
import Derived.LaidMore
import Derived.Lay
import Derived.OpenShut
import Derived.Test.YtldomapkmopomaaGreatDoorRows
import Derived.Test.YtldomapkmopomaaGreatDoorJ38
import Derived.Test.YtldomapkmopomaaGreatDoorJ39
set_option linter.unusedVariables false set_option linter.unusedSimpArgs false namespace Go.Proofs.YtldomapkmopomaaGreatDoor.Sw
set_option maxHeartbeats 8000000
open Go.Proofs.YtldomapkmopomaaGreatDoor renaming lo → qL, hi → qH
open Go.RowKit
set_option linter.unusedVariables false
set_option linter.unusedSimpArgs false
set_option maxRecDepth 10000
def jaM:Enc Jw:=⟨JI,4,fun _=>rfl,by intro x v hv;simp[JI] at hv;rcases hv with rfl|rfl|rfl|rfl<;>rfl⟩
theorem cactE_enc (a:Jw):jaM.enc a=JI a:=rfl
def stpE:Enc J6:=⟨stpL,2,fun _=>rfl,by intro x v hv;simp[stpL] at hv;rcases hv with rfl|rfl<;>rfl⟩
theorem stpE_enc (a:J6):stpE.enc a=stpL a:=rfl
structure jaj where
 L:List Jw
 S:List J6
 K:List Int
structure MixOk (x:jaj):Prop where
 L: ∀ a∈x.L,a.w<256
 S: ∀ p∈x.S,p.u<256
 K: ∀ k∈x.K,0≤k∧k<256
def mixK (K:List Int) (i:Nat):Nat:=((K[i]?).getD 0%16).toNat
def jbG (g:PlG) (long nw:Nat) (z:CyP) (l:List J6):CyP:=l.foldl (fun z x=>(stpC g long nw z x).getD z) z
def mixTo (g:PlG) (long nw:Nat) (x:jaj) (z:CyP):Nat→CyP × Nat
 |0=>(z,0)
 |i+1=>match x.L[i]? with
  |none=>mixTo g long nw x z i
  |some a=>(jbG g long nw (doesC g long (mixTo g long nw x z i).1 a) ((x.S.drop (mixTo g long nw x z i).2).take (mixK x.K i)),min ((mixTo g long nw x z i).2+mixK x.K i) x.S.length)
def mixC (g:PlG) (long nw:Nat) (x:jaj) (z:CyP):CyP:=(mixTo g long nw x z x.L.length).1
structure MiA where
 i:Nat
 X:WcM
structure MiK where
structure MiC where
 b:Nat
 X:WcM
structure MiB where
 n:Nat
 X:WcM
 z:CyP
section
variable {R0 : List (List Int)} {gn : Int} {w0 : World} {g : PlG} {long nf nw : Nat} {X : WcM} {z : CyP} {F : jb} {x : jaj} {vL vS vK : Value}
theorem mixTo_at (i:Nat):(mixTo g long nw x z i).2≤x.S.length:=by
 induction i with
 |zero=>exact Nat.zero_le _
 |succ i ih=>
  unfold mixTo
  split
  ·exact ih
  ·exact Nat.min_le_right _ _
theorem mixTo_succ {i:Nat} {a:Jw} (h:x.L[i]?=some a):mixTo g long nw x z (i+1)=(jbG g long nw (doesC g long (mixTo g long nw x z i).1 a) ((x.S.drop (mixTo g long nw x z i).2).take (mixK x.K i)),min ((mixTo g long nw x z i).2+mixK x.K i) x.S.length):=by
 show(match x.L[i]? with|none=>_|some a=>_)=_
 rw[h]
theorem stps_snoc {l:List J6} {p:J6}:jbG g long nw z (l++ [p])=(stpC g long nw (jbG g long nw z l) p).getD (jbG g long nw z l):=by
 unfold jbG;rw [List.foldl_append];rfl
theorem many_lt (K:List Int) (i:Nat):mixK K i<16:=by
 unfold mixK
 have:=Int.emod_lt_of_pos ((K[i]?).getD 0) (show(0:Int)<16 by decide)
 have:=Int.emod_nonneg ((K[i]?).getD 0) (show(16:Int)≠0 by decide)
 omega
set_option maxHeartbeats 4000000 in
theorem mixed_K (hG:jw w0) (hX:WcR R0 gn w0 g long nf X z) (hL:Sli w0 [] jaM vL x.L) (hS:Sli w0 [] stpE vS x.S) (hK:Sli w0 [] bE vK x.K) (o1:vL.oneCell'=true) (o2:vS.oneCell'=true) (o3:vK.oneCell'=true) (hb:MixOk x) (hlL:x.L.length≤4611686018427387904) (hlS:x.S.length≤4611686018427387904):
  Call Tryz.prog w0 33 [.agg (wcL g long X z).toArray, .agg [vL,vS,vK].toArray] (wcH X++F) (WcQ R0 gn w0 g long nf X (mixC g long X.y.nw x z) F (fun a=> .tuple [a, .bool true].toArray)):=by
 obtain⟨nw,hnw⟩: ∃ nw,X.y.nw=nw:=⟨_,rfl⟩
 rw[hnw]
 obtain⟨q1,q2,q3,q4,q5,q6,q7,q8,q9,r1,r2,r3,r4,r5⟩:=hX.d.c
 have hdo:=fun A (X1:WcM) (z1:CyP) (a:Jw) (ha:a.w<256) (h:WcR R0 gn w0 g long nf X1 z1)=>does_K (F:=A) (a:=a) hG h ha
 have hst:=fun A (X1:WcM) (z1:CyP) (p:J6) (hp:p.u<256) (h:WcR R0 gn w0 g long nf X1 z1)=>steps_K (F:=A) (x:=p) hG h hp
 have hL':=fun H:jb=>hL.part (Part.nil:Part H [])
 have hS':=fun H:jb=>hS.part (Part.nil:Part H [])
 have hK':=fun H:jb=>hK.part (Part.nil:Part H [])
 have hat:=fun i=>mixTo_at (g:=g) (long:=long) (nw:=nw) (x:=x) (z:=z) i
 unfold mixC;unfold WcQ at*;unfold id at hdo;refine Call.enter2 (n:=67) (by kernel_rfl) Tryz.func33 rfl rfl rfl ?_;unfold wcL;refine yr2 ?_;refine zn ?_;intro b2 b3 b4;refine yr15 ?_;refine K.loopT (σ:=MiA) [(2,_),(3,_),(4,_)] (fun s kp_=>(7, .int .i64 (s.i:Nat))::(6, .int .i64 ((mixTo g long nw x z s.i).2:Nat))::kp_) (fun s=>(b2,cells (wcL g long s.X (mixTo g long nw x z s.i).1) 57)::(b3,cells [vL,vS,vK] 98)::(b4,cells wc0 57)::(wcH s.X++F)) (fun s=>s.i≤x.L.length∧WcR R0 gn w0 g long nf s.X (mixTo g long nw x z s.i).1∧WcS X s.X) (fun s=>x.L.length-s.i) (⟨0,X⟩) jg ja (⟨Nat.zero_le _,hX,rfl,rfl,rfl⟩) ?_;rintro⟨i,X1⟩ ⟨hi,hX1,eS1⟩;dsimp only at hi hX1 eS1⊢
 have hat1:=hat i
 by_cases hlt:i<x.L.length
 ·obtain⟨a,ha⟩:=jn hlt
  have hsucc:=mixTo_succ (g:=g) (long:=long) (nw:=nw) (z:=z) ha
  obtain⟨⟨z1,at1⟩,hz1⟩: ∃ q,mixTo g long nw x z i=q:=⟨_,rfl⟩
  rw[hz1] at hX1 hat1 hsucc;rw[hz1];dsimp only at hX1 hat1 hsucc⊢
  have hd1:=fun A=>hdo A X1 z1 a (hb.L a (List.mem_of_getElem? ha)) hX1
  obtain⟨z2,hz2⟩: ∃ z2,doesC g long z1 a=z2:=⟨_,rfl⟩
  rw[hz2] at hd1 hsucc
  have hmk:=many_lt x.K i
  obtain⟨mk,hmk'⟩: ∃ mk,mixK x.K i=mk:=⟨_,rfl⟩
  rw[hmk'] at hsucc hmk
  have hL1:=hL'
  obtain⟨_,_,_,_,t5,t6,t7,t8,t9,u1,u2,u3,u4,u5⟩:=hX1.d.c
  unfold wcL JI at hd1;unfold wcL
  have hae:=cactE_enc a
  unfold JI at hae;refine yr15 ?_;refine zw ?_
  (first|refine K.seq (K.drawn ([]) [(0,0),(1,0),(2,0),(3,0),(4,0),(5,0),(6,2),(7,2)] (by kernel_rfl) (by kernel_rfl) (by kernel_rfl) (by kernel_rfl) (by kernel_rfl) (by kernel_rfl) ja ?_)|refine K.seq (K.seq (K.drawn ([]) [(0,0),(1,0),(2,0),(3,0),(4,0),(5,0),(6,2),(7,2)] (by kernel_rfl) (by kernel_rfl) (by kernel_rfl) (by kernel_rfl) (by kernel_rfl) (by kernel_rfl) ja ?_))|refine K.drawn ([]) [(0,0),(1,0),(2,0),(3,0),(4,0),(5,0),(6,2),(7,2)] (by kernel_rfl) (by kernel_rfl) (by kernel_rfl) (by kernel_rfl) (by kernel_rfl) (by kernel_rfl) ja ?_)
  refine zcO ?_;refine za2 ?_;refine zaG ?_;refine zcs ?_;refine zcO ?_;refine zi fun T hT=>?_;refine(CallV.part (CallV.fn (hd1 _)) ja).mono ?_;rintro _ _ ⟨X2,hX2,e1,e2,e3,rfl,rfl⟩
  obtain⟨_,_,_,_,v5,v6,v7,v8,v9,x1,x2,x3,x4,x5⟩:=hX2.d.c
  have eS2:WcS X X2:=eS1.trans ⟨e1,e2,e3⟩
  refine zh ?_;clear hT T;refine zbT ?_;refine yr6 ?_;refine K.cutT (σ:=MiK) [(2,_),(3,_),(4,_),(6,_),(7,_)] jg (fun s kp_=>(8, .int .i64 (mk:Nat))::kp_) (fun s=>(b2,cells (wcL g long X2 z2) 57)::(b3,cells [vL,vS,vK] 98)::(b4,cells wc0 57)::(wcH X2++F)) (fun s=>True) ?_ ?_
  ·by_cases hk:i<x.K.length
   ·obtain⟨k,hk'⟩:=jn hk
    have hkb:=hb.K k (List.mem_of_getElem? hk')
    have hkm:k%16=((mk:Nat):Int):=by
     rw[←hmk'];unfold mixK;rw [hk'];simp only[Option.getD_some];omega
    refine yr20 ?_;rw[hkm];exact KE.meet ⟨⟩ jg ja trivial
   ·have hm0:mk=0:=by
     rw[←hmk'];unfold mixK;rw [List.getElem?_eq_none (by omega)];rfl
    subst hm0;refine yr11 ?_;exact KE.meet ⟨⟩ jg ja trivial
  ·rintro⟨⟩ _;clear hd1 hae;refine yr6 ?_;refine K.loopT (σ:=MiB) [(2,_),(3,_),(4,_),(7,_),(8,_)] (fun s kp_=>(9, .int .i64 (s.n:Nat))::(6, .int .i64 ((at1+s.n:Nat):Int))::kp_) (fun s=>(b2,cells (wcL g long s.X s.z) 57)::(b3,cells [vL,vS,vK] 98)::(b4,cells wc0 57)::(wcH s.X++F)) (fun s=>s.n≤mk∧at1+s.n≤x.S.length∧WcR R0 gn w0 g long nf s.X s.z∧WcS X s.X∧s.z=jbG g long nw z2 ((x.S.drop at1).take s.n)) (fun s=>mk-s.n) (⟨0,X2,z2⟩) jg ja (⟨Nat.zero_le _,hat1,hX2,eS2,rfl⟩) ?_;rintro⟨n,X3,z3⟩ ⟨hn,hn2,hX3,eS3,ez3⟩;dsimp only at hn hn2 hX3 eS3 ez3⊢
   obtain⟨_,_,_,_,s5,s6,s7,s8,s9,y1,y2,y3,y4,y5⟩:=hX3.d.c
   by_cases hc1:n<mk
   ·have hc1':((n:Nat):Int)<((mk:Nat):Int):=by omega
    by_cases hc2:at1+n<x.S.length
    ·have hc2':(((at1+n:Nat):Int))<((x.S.length:Nat):Int):=by omega
     obtain⟨p,hp⟩:=jn hc2
     have hs1:=fun A=>hst A X3 z3 p (hb.S p (List.mem_of_getElem? hp)) hX3
     have hn3:X3.y.nw=nw:=eS3.nw.trans hnw
     rw[hn3] at hs1
     have hdr:(x.S.drop at1)[n]?=some p:=by rw[List.getElem?_drop];exact hp
     have hz4:(stpC g long nw z3 p).getD z3=jbG g long nw z2 ((x.S.drop at1).take (n+1)):=by
      rw[jaP hdr,stps_snoc,←ez3]
     obtain⟨z4,hz4'⟩: ∃ z4,(stpC g long nw z3 p).getD z3=z4:=⟨_,rfl⟩
     rw[hz4'] at hs1 hz4;unfold wcL stpL at hs1
     have hpe:=stpE_enc p
     unfold stpL at hpe;unfold wcL;refine yr25 ?_;refine K.cutT (σ:=MiC) [(2,_),(3,_),(4,_),(6,_),(7,_),(8,_),(9,_)] jg (fun s kp_=>(10, .pointer (some ⟨s.b,0,none⟩))::(11, .bool true)::kp_) (fun s=>(s.b,cells (wcL g long s.X z4) 57)::(b2,cells (wcL g long X3 z3) 57)::(b3,cells [vL,vS,vK] 98)::(b4,cells wc0 57)::(wcH s.X++F)) (fun s=>WcR R0 gn w0 g long nf s.X z4∧WcS X3 s.X) ?_ ?_
     ·skip
      refine zw ?_;refine K.drawn ((b2,cells (wcL g long X3 z3) 57)::(b3,cells [vL,vS,vK] 98)::[]) [(0,1),(1,1),(2,1),(3,1),(4,1),(5,1),(6,3),(7,1),(8,1),(9,1),(10,2),(11,2),(12,0)] (by kernel_rfl) (by kernel_rfl) (by kernel_rfl) (by kernel_rfl) (by kernel_rfl) (by kernel_rfl) ja ?_;refine zar ?_;refine zbm ?_;refine zaT ?_;refine zar ?_;refine KD.fork2 (x:=6) (y:=10) (o1:=[(7,1),(8,1),(9,1),(10,2),(11,2),(12,0)]) (o2:=[(6,2),(7,0),(8,0),(9,1),(11,2),(12,0)]) (by kernel_rfl) rfl rfl (by kernel_rfl) (by kernel_rfl) ?_ ?_
      ·refine zak fun T hT=>?_;refine zdZ ?_;rintro _ _ ⟨X4,hX4,e4,e5,e6,rfl,rfl⟩
       obtain⟨_,_,_,_,p5,p6,p7,p8,p9,l1,l2,l3,l4,l5⟩:=hX4.d.c
       refine zh ?_;clear hT T;refine zm ?_;refine zaf ?_;refine zaf ?_;refine zad ?_;intro b10;refine zav ?_;exact KE.meet ⟨b10,X4⟩ jg ja ⟨hX4,e4,e5,e6.trans hn3.symm⟩
      ·(refine j3.e rfl (Eff.alloc rfl) ?_;rintro _ _ ⟨b10,rfl,rfl⟩;refine⟨ja,?_⟩)
       refine zi fun T hT=>?_;refine zdZ ?_;rintro _ _ ⟨X4,hX4,e4,e5,e6,rfl,rfl⟩
       obtain⟨_,_,_,_,p5,p6,p7,p8,p9,l1,l2,l3,l4,l5⟩:=hX4.d.c
       refine zh ?_;clear hT T;refine zam ?_;refine zav ?_;exact KE.meet ⟨b10,X4⟩ jg ja ⟨hX4,e4,e5,e6.trans hn3.symm⟩
     ·rintro⟨b10,X4⟩ ⟨hX4,e4,e5,e6⟩;dsimp only at hX4 e4 e5 e6⊢
      obtain⟨_,_,_,_,p5,p6,p7,p8,p9,l1,l2,l3,l4,l5⟩:=hX4.d.c
      unfold wcL;refine yr28 ?_;exact KE.again ⟨n+1,X4,z4⟩ jg ja ⟨hc1,hc2,hX4,eS3.trans ⟨e4,e5,e6⟩,hz4⟩ (by show mk-(n+1)<mk-n;omega)
    ·have hc2': ¬(((at1+n:Nat):Int))<((x.S.length:Nat):Int):=by omega
     have hend:mixTo g long nw x z (i+1)=(z3,at1+n):=by
      rw[hsucc,ez3]
      rw[show(x.S.drop at1).take mk=(x.S.drop at1).take n by
       rw[List.take_of_length_le (by rw[List.length_drop];omega),List.take_of_length_le (by rw[List.length_drop];omega)]]
      rw[Nat.min_eq_right (by omega)]
      congr 1;omega
     unfold wcL;refine yr32 ?_;exact zfY
   ·have hc1': ¬((n:Nat):Int)<((mk:Nat):Int):=by omega
    have hnm:n=mk:=by omega
    have hend:mixTo g long nw x z (i+1)=(z3,at1+n):=by
     rw[hsucc,ez3,hnm,Nat.min_eq_left (by omega)]
    unfold wcL;refine yr27 ?_;exact zfY
 ·have hie:i=x.L.length:=by omega
  subst hie
  obtain⟨_,_,_,_,t5,t6,t7,t8,t9,u1,u2,u3,u4,u5⟩:=hX1.d.c
  obtain⟨e1,e2,e3⟩:=eS1
  unfold wcL;refine yr24 ?_;exact zeT
end
open Go.RowKit Go.ChangeShapes Go.WideShapes Go.ChangeAt Go.Deep Go.Joins
set_option maxRecDepth 100000
section
variable {H : Type} {enc : TypeId × Value → H} {W : World}
theorem cact_in {fuel:Nat} {cs:List Value} {x:DataW H × List MemPlace} (hx:DataW.trod enc Tryz.prog W 0 (fun _=>true) true fuel 162 cs=some x) (hlen:cs.length=4): ∃ y:Jw,cs=jaM.enc y∧y.w<256:=by
 obtain⟨c0,c1,c2,c3,rfl⟩: ∃ c0 c1 c2 c3,cs=[c0,c1,c2,c3]:=by
  match cs,hlen with
  | [c0,c1,c2,c3],_=>exact⟨c0,c1,c2,c3,rfl⟩
 obtain⟨xs,n,_,rfl,hl,hxl,hf⟩:=DataW.trod_struct Tryz.underlying162 hx
 have k8:(Tryz.prog).cellsOf 5=1:=by kernel_rfl
 have ki:(Tryz.prog).cellsOf 3=1:=by kernel_rfl
 match xs,hxl with
 | [y0,y1,y2,y3],_=>
  have h0:=hf 0 _ rfl
  have h1:=hf 1 _ rfl
  have h2:=hf 2 _ rfl
  have h3:=hf 3 _ rfl
  obtain⟨a0,e0,-,w0⟩:=DataW.trod_int Tryz.underlying5 (by simpa [k8] using h0)
  obtain⟨a1,e1,-,w1⟩:=DataW.trod_int Tryz.underlying3 (by simpa [ki] using h1)
  obtain⟨a2,e2,-,w2⟩:=DataW.trod_int Tryz.underlying3 (by simpa [ki] using h2)
  obtain⟨a3,e3,-,w3⟩:=DataW.trod_int Tryz.underlying3 (by simpa [ki] using h3)
  simp at e0 e1 e2 e3
  have hu:=wf_u8 w0
  unfold u8ok at hu
  obtain⟨n0,rfl⟩: ∃ n0:Nat,a0=n0:=⟨a0.toNat,by omega⟩
  subst e0 e1 e2 e3;exact⟨⟨n0,a1,a2,a3⟩,rfl,by show n0<256;omega⟩
theorem stp_in {fuel:Nat} {cs:List Value} {x:DataW H × List MemPlace} (hx:DataW.trod enc Tryz.prog W 0 (fun _=>true) true fuel 27 cs=some x) (hlen:cs.length=2): ∃ y:J6,cs=stpE.enc y∧y.u<256:=by
 obtain⟨c0,c1,rfl⟩: ∃ c0 c1,cs=[c0,c1]:=by
  match cs,hlen with
  | [c0,c1],_=>exact⟨c0,c1,rfl⟩
 obtain⟨xs,n,_,rfl,hl,hxl,hf⟩:=DataW.trod_struct Tryz.underlying27 hx
 have k8:(Tryz.prog).cellsOf 5=1:=by kernel_rfl
 have ki:(Tryz.prog).cellsOf 3=1:=by kernel_rfl
 match xs,hxl with
 | [y0,y1],_=>
  have h0:=hf 0 _ rfl
  have h1:=hf 1 _ rfl
  obtain⟨a0,e0,-,w0⟩:=DataW.trod_int Tryz.underlying3 (by simpa [ki] using h0)
  obtain⟨a1,e1,-,w1⟩:=DataW.trod_int Tryz.underlying5 (by simpa [k8] using h1)
  simp at e0 e1
  have hu:=wf_u8 w1
  unfold u8ok at hu
  obtain⟨n1,rfl⟩: ∃ n1:Nat,a1=n1:=⟨a1.toNat,by omega⟩
  subst e0 e1;exact⟨⟨a0,n1⟩,rfl,by show n1<256;omega⟩
theorem byte_in {fuel:Nat} {cs:List Value} {x:DataW H × List MemPlace} (hx:DataW.trod enc Tryz.prog W 0 (fun _=>true) true fuel 5 cs=some x): ∃ y:Int,cs=bE.enc y∧(0≤y∧y<256):=by
 obtain⟨a0,e0,-,w0⟩:=DataW.trod_int Tryz.underlying5 hx
 have:=wf_u8 w0
 unfold u8ok at this;exact⟨a0,e0,by omega⟩
structure J8 (W:World) (x:jaj) (vL vS vK:Value):Prop where
 L:SlW W jaM vL x.L
 S:SlW W stpE vS x.S
 K:SlW W bE vK x.K
 o1:vL.oneCell'=true
 o2:vS.oneCell'=true
 o3:vK.oneCell'=true
 ok:MixOk x
theorem J8.one {x:jaj} {vL vS vK:Value} (h:J8 W x vL vS vK):J8 W ⟨x.L,[],[]⟩ vL (.slice none 0 0) (.slice none 0 0):=
 ⟨h.L,SlW.nil W stpE,SlW.nil W bE,h.o1,rfl,rfl,h.ok.L,(fun p hp=>by cases hp),(fun k hk=>by cases hk)⟩
theorem jbH {base:Nat} {v:Value} {d:DataW H} {p:List MemPlace} (ho:Value.okWide Tryz.prog W .any base 98 v) (h:DataW.Trod enc Tryz.prog W 0 (fun _=>true) true 98 v d p):
  ∃ (x:jaj) (vL vS vK:Value),v= .agg [vL,vS,vK].toArray∧J8 W x vL vS vK:=by
 obtain⟨cs,rfl,hs⟩:=okWide_struct Tryz.underlying98 ho
 have k6:(Tryz.prog).cellsOf 98=3:=by kernel_rfl
 rw[k6] at hs
 obtain⟨fuel,hf⟩:=h
 obtain⟨c0,c1,c2,hcs⟩: ∃ c0 c1 c2,cs=[c0,c1,c2].toArray:=by
  obtain⟨l⟩:=cs
  match l,hs with
  | [c0,c1,c2],_=>exact⟨c0,c1,c2,rfl⟩
 subst hcs
 obtain⟨xs,n,_,hx,hl,hxl,hfl⟩:=DataW.trod_struct Tryz.underlying98 hf
 obtain⟨rfl,rfl⟩:=Prod.mk.inj hx
 have k1:(Tryz.prog).cellsOf 95=1:=by kernel_rfl
 have k2:(Tryz.prog).cellsOf 96=1:=by kernel_rfl
 have k3:(Tryz.prog).cellsOf 46=1:=by kernel_rfl
 match xs,hxl with
 | [y0,y1,y2],_=>
  have h0:=hfl 0 _ rfl
  have h1:=hfl 1 _ rfl
  have h2:=hfl 2 _ rfl
  obtain⟨a0,n0,m0,L,e0,hL,okL⟩:=jft (P:=Tryz.prog) (E:=jaM) (x:=y0) Tryz.underlying95 (by kernel_rfl) (by decide) (by simpa [k1,Value.cells] using h0) (fun x=>x.w<256) (fun fuel cs x hx hl=>cact_in hx hl)
  obtain⟨a1,n1,m1,S,e1,hS,okS⟩:=jft (P:=Tryz.prog) (E:=stpE) (x:=y1) Tryz.underlying96 (by kernel_rfl) (by decide) (by simpa [k1,k2,Value.cells] using h1) (fun x=>x.u<256) (fun fuel cs x hx hl=>stp_in hx hl)
  obtain⟨a2,n2,m2,K,e2,hK,okK⟩:=jft (P:=Tryz.prog) (E:=bE) (x:=y2) Tryz.underlying46 (by kernel_rfl) (by decide) (by simpa [k1,k2,k3,Value.cells] using h2) (fun y=>0≤y∧y<256) (fun fuel cs x hx hl=>byte_in hx)
  simp[Value.cells,k1,k2,k3] at e0 e1 e2
  subst e0 e1 e2;exact⟨⟨L,S,K⟩,_,_,_,rfl,hL,hS,hK,rfl,rfl,rfl,okL,okS,okK⟩
end
open Go.RowKit
set_option maxRecDepth 10000
section
variable {g : PlG} {long nw : Nat} {x : jaj} {z : CyP}
theorem jee {I:CyP→Prop} (h: ∀ (z:CyP) (p:J6),I z→I ((stpC g long nw z p).getD z)): ∀ {l:List J6} {z:CyP},I z→I (jbG g long nw z l)
 | [],z,h0=>h0
 |p::l,z,h0=>jee h (l:=l) (h z p h0)
theorem jex {I:CyP→Prop} (hd: ∀ (z:CyP) (a:Jw),I z→I (doesC g long z a)) (hs: ∀ (z:CyP) (p:J6),I z→I ((stpC g long nw z p).getD z)) (h0:I z):I (mixC g long nw x z):=by
 unfold mixC
 generalize x.L.length=n
 induction n with
 |zero=>exact h0
 |succ n ih=>
  unfold mixTo
  split
  ·exact ih
  ·exact jee hs (hd _ _ ih)
theorem jfY (t:Int):(shdC g long z t).ph=z.ph:=by unfold shdC;split<;>rfl
theorem shdO_ph (t:Int):(shdO g long z t).ph=z.ph:=by
 unfold shdO;split
 ·exact jfY t
 ·rfl
theorem jcY {a:Jw}:(doesC g long z a).ph=z.ph:=by
 unfold doesC
 split
 ·unfold makesC;split<;>rfl
 ·split
  ·unfold setsC
   split
   ·rfl
   ·split
    ·rfl
    ·split
     ·rfl
     ·show(shdO g long (shdO g long z _) _).ph=_
      rw[shdO_ph,shdO_ph]
  ·split
   ·rfl
   ·split
    ·exact jfY _
    ·split
     ·rfl
     ·exact jfY _
theorem stp_cy (ok:je g) (h:jp g long z) {p:J6}:jp g long ((stpC g long nw z p).getD z):=by
 unfold stpC
 split
 ·cases hh:helpC g long z with
  |none=>exact h
  |some z'=>exact jf7 ok h hh
 ·cases hh:stepC g long nw z p.h (p.u:Nat) with
  |none=>exact h
  |some z'=>exact step_cy ok h hh
theorem stp_none (h0:z.ph=0) {p:J6}:stpC g long nw z p=none:=by
 unfold stpC
 split
 ·unfold helpC;rw [if_neg (by omega),if_neg (by omega)]
 ·unfold stepC;rw [if_neg (by omega),if_neg (by omega)]
theorem jcU (h0:z.ph=0):(mixC g long nw x z).ph=0:=jex (I:=fun z=>z.ph=0) (fun _ _ h=>jcY.trans h) (fun _ _ h=>by rw[stp_none h];exact h) h0
theorem goes_up:z.ph≤(goesC g z).ph:=by
 unfold goesC
 split
 ·dsimp only;split<;>omega
 ·split
  ·dsimp only;omega
  ·exact zO
theorem jey:z.ph≤(madeC g z).ph:=goes_up (z:={z with st:=z.st+1})
theorem sweep_ph {q:CyP} (h:sweepC g z=some q):q.ph=z.ph:=by
 unfold sweepC at h
 split at h
 ·cases h;split<;>rfl
 ·cases h
theorem step_ph {q:CyP} {k u:Int} (h:stepC g long nw z k u=some q):z.ph≤q.ph:=by
 unfold stepC at h
 split at h
 ·cases hm:stepM g long z.W z.m k u with
  |none=>rw [hm] at h;cases h
  |some m'=>rw [hm] at h;cases h;exact jey (z:={z with m:=m'})
 ·split at h
  ·cases hm:sweepC g z with
   |none=>rw [hm] at h;cases h
   |some q=>rw [hm] at h;cases h;rw [←sweep_ph hm];exact jey
  ·cases h
theorem help_ph {q:CyP} (h:helpC g long z=some q):z.ph≤q.ph:=by
 unfold helpC at h
 split at h
 ·cases hm:Jq g long z.W z.m with
  |none=>rw [hm] at h;cases h
  |some m'=>rw [hm] at h;cases h;exact jey (z:={z with m:=m'})
 ·split at h
  ·cases hm:sweepC g z with
   |none=>rw [hm] at h;cases h
   |some q=>rw [hm] at h;cases h;rw [←sweep_ph hm];exact jey
  ·cases h
theorem stp_ph {p:J6}:z.ph≤((stpC g long nw z p).getD z).ph:=by
 unfold stpC
 split
 ·cases hh:helpC g long z with
  |none=>exact Nat.le_refl _
  |some z'=>exact help_ph hh
 ·cases hh:stepC g long nw z p.h (p.u:Nat) with
  |none=>exact Nat.le_refl _
  |some z'=>exact step_ph hh
def greatX (x:jaj):Bool:=decide (x.L.length>40)||decide (x.S.length>300)
theorem jaR (h:greatX x=false):x.L.length≤40∧x.S.length≤300:=by
 unfold greatX at h;simp only[Bool.or_eq_false_iff,decide_eq_false_iff_not] at h
 omega
theorem jbD {w0:World} {F:jb} {vL vS vK:Value} (h:J8 w0 x vL vS vK):
  Call Tryz.prog w0 32 [.agg [vL,vS,vK].toArray] F (fun r H'=>r= .bool (greatX x)∧H'=F):=by
 have hL:Sli w0 F jaM vL x.L:=Sli.old h.L
 have hS:Sli w0 F stpE vS x.S:=Sli.old h.S
 have o1:=h.o1
 have o2:=h.o2
 have o3:=h.o3
 unfold greatX;clear h;refine Call.enter1 (n:=13) (by kernel_rfl) Tryz.func32 rfl rfl rfl ?_
 by_cases h1:x.L.length>40
 ·have h1':((x.L.length:Nat):Int)>40:=by omega
  rw[decide_eq_true h1];refine yr2 ?_;refine ze ?_;intro b1;refine yr19 ?_;exact zd
 ·have h1': ¬((x.L.length:Nat):Int)>40:=by omega
  rw[decide_eq_false h1]
  by_cases h2:x.S.length>300
  ·have h2':((x.S.length:Nat):Int)>300:=by omega
   rw[decide_eq_true h2];refine yr2 ?_;refine ze ?_;intro b1;refine yr23 ?_;exact zd
  ·have h2': ¬((x.S.length:Nat):Int)>300:=by omega
   rw[decide_eq_false h2];refine yr2 ?_;refine ze ?_;intro b1;refine yr23 ?_;exact zd
end
theorem jcj {w0:World} {F:jb} {c:Cfg} {vc vt:Value} (hG:jw w0) (hR:j1 w0 F c vc vt) (hok:okY c=true) (hC:Sli w0 [] iE vc c.cl) (hvc:vc.oneCell'=true):
  ∃ (R0:List (List Int)) (g:PlG) (long nw caps:Nat),g=gOf c 0∧nw≤8∧1≤long∧ ∀ A,Part A F→Call Tryz.prog w0 10 [jt c vc vt] A
   (fun r H'=> ∃ X:WcM,WcR R0 c.gens w0 g long 1 X (newC g caps nw)∧X.y.nw=nw∧r= .tuple [.agg (wcL g long X (newC g caps nw)).toArray, .bool true].toArray∧H'=wcH X++A):=by
 have hok':=hok
 unfold okY at hok';simp only[Bool.and_eq_true,decide_eq_true_eq] at hok'
 have hcfg:=jar hok'.1.2.2
 have hwk:=hcfg.workers
 have hgy:=hcfg.grey
 refine⟨mR (fun t=>wordsP c (t:Nat)) c.tn.length,gOf c 0,c.grey.toNat,c.workers.toNat,(jcy c).toNat,rfl,by omega,by omega,fun A hp=>(cmade_K (Dc:=[]) (F:=A) hG (hR.part hp) hok hC hvc).mono ?_⟩;rintro _ _ ⟨X,⟨hX,hn⟩,rfl,rfl⟩;exact⟨X,hX,hn,rfl,rfl⟩
open Go.RowKit
set_option maxRecDepth 10000
section
variable {w0 : World} {D F : jb} {v : PlV} {g : PlG} {W : MwP} {z : KwV}
end
end Go.Proofs.YtldomapkmopomaaGreatDoor.Sw
