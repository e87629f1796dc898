/-The walker and contracts, part 38.-/
import Derived.Test.YtciaccbemnpipaaGreatDoorJ37
set_option linter.all false
namespace Go.Proofs.YtciaccbemnpipaaGreatDoor.Sw
set_option maxHeartbeats 8000000
open Go.Proofs.YtciaccbemnpipaaGreatDoor renaming lo -> qL, hi -> qH
open Go.RowKit
set_option maxRecDepth 10000
structure WrS where
 y:CyM
 k:Nat
def wrS (C:HpC) (h:HpP) (old to:Int) (k:Nat):HpP:=if k=0 then h else if k=1 then{h with s:=shdO C.g C.long h.s old} else{h with s:=shdO C.g C.long (shdO C.g C.long h.s old) to}
section
variable {w0 : World} {D : HpD} {nf nk n : Nat} {y y' : CyM} {h : HpP} {s s' : CyP} {F : jb} {op : OpP} {z : jn}
theorem jiT {C:HpC} {old to:Int} {k:Nat} (hk:k<2):wrS C h old to (k+1)={wrS C h old to k with s:=shdO C.g C.long (wrS C h old to k).s (if k=0 then old else to)}:=by
 match k,hk with
 |0,_=>rfl
 |1,_=>rfl
theorem jlN {to:Int} (h1:HpR D nf nk y h) (ht: -1<=to/\to<(D.C.g.slots:Nat)) (h0:to>=0):Call Tryz.prog w0 205 [pt D.yb, .int .i64 to] (hpH D y h++F) (fun r H'=>r= .int .i64 0/\HpQ D nf nk {h with s:=shdO D.C.g D.C.long h.s to} F H'):=by
 obtain⟨t,rfl⟩: ∃ t:Nat,to=(t:Nat):=⟨to.toNat,by omega⟩
 unfold shdO;rw[if_pos h0];exact jeN h1 bc
theorem hpwrite_K (hG:ju w0) (hD:HpDok D) (hI:HeI D.C h) (h1:HpR D nf nk y h) (hn:n<D.C.g.slots) (hv:op.v<18446744073709551616):Call Tryz.prog w0 116 [pt D.b,opV op, .int .i64 (n:Nat)] (hpH D y h++F) (fun r H'=>r=snV (jaZ D.C h (n:Nat) op.a op.v).1/\HpQ D nf nk (jaZ D.C h (n:Nat) op.a op.v).2 F H'):=by
 obtain⟨z,hz⟩:=Je hn
 have hC:=hD.C
 have htold:=fun A (e:Int)=>ja0 (w0:=w0) (H:=A) (e:=e)
 have hfld:=fun A=>jiG (w0:=w0) (F:=A) (i:=op.a) hG h1 hz
 have hB:=fun A=>jdB (w0:=w0) (F:=A) h1
 have hSW:=fun A=>jld (w0:=w0) (F:=A) (i:=op.a) (w:=(op.v:Nat)) hG h1 hn hz ⟨by omega,by omega⟩
 have hsl:=fun A=>jcD (w0:=w0) (F:=A) hv h1
 have hRf:=fun A=>hyRef_K (w0:=w0) (F:=A) (i:=op.a) hG h1 hz
 have hB2:=fun A (y:CyM) (h:HpP) (h1:HpR D nf nk y h)=>jdB (w0:=w0) (F:=A) h1
 unfold jaZ;rw[jY hz]
 have hlt:=jfw (a:=op.a) hI hn hz
 have hff:=jeu (x:=h.s.W.x) (y:=z) (i:=op.a)
 unfold HpQ at hSW|-
 generalize jax h.s.W.x z op.a=fx at hfld hlt hff|-
 obtain⟨isr,e⟩:=fx
 dsimp only at hfld hlt hff|-;unfold opV
 by_cases he:e=0
 ·subst he;rw[if_neg (fun q=>q rfl)]
  cases isr with
  |false=>
   rw[if_pos rfl];refine en3 96 Tryz.func116 ?_;refine yr3 ?_;intro b4;refine yr1 ?_;intro b6;refine yr9 ?_;refine zq ?_;simp only[hpH_app];refine yr25 ?_;refine zi ?_
   (repeat refine K.seq ?_)
   refine K.dr _ [(0,0),(1,0),(2,0),(3,0),(5,1),(6,1),(7,1),(8,1),(9,1),(4,2),(10,4),(11,4),(12,4)] Part.all ?_;refine yr10 ?_;refine zah ?_;rintro _ _ ⟨rfl,rfl⟩;simp only[hpH_app];refine yr2 ?_;refine je (hSW _) bd ?_;rintro _ _ ⟨rfl,y1,h2,rfl⟩;refine yr1 ?_;refine zl ?_;refine zcp ?_;refine yr5 ?_;exact zB
  |true=>
   rw[if_neg bn]
   have hf:=(hff rfl).1
   by_cases h3:op.v≠0/\(hpSlot D.C.tn h.s.W.T op.v).isNone=true
   ·rw[if_pos h3]
    have h30: ¬((op.v:Nat):Int)=0:=by have:=h3.1;omega
    have h31:=Option.isNone_iff_eq_none.1 h3.2
    simp only[h31,Option.getD_none,Option.isSome_none] at hsl;refine en3 96 Tryz.func116 ?_;refine yr3 ?_;intro b4;refine yr1 ?_;intro b6;refine yr9 ?_;refine zq ?_;refine yr34 ?_;refine zm ?_;refine yr29 ?_;refine zl ?_;refine yr6 ?_;exact zar
   ·rw[if_neg h3]
    have hto: -1<=toW D.C h op.v/\toW D.C h op.v<(D.C.g.slots:Nat):=by
     unfold toW
     split
     ·exact⟨by omega,by omega⟩
     ·rename_i q0
      cases hq:hpSlot D.C.tn h.s.W.T op.v with
      |none=>exact absurd ⟨q0,by rw[hq];rfl⟩ h3
      |some sl=>
       have:=jaT hI.ok.w (jbh hq)
       exact⟨by show-1<=sl;have:=this.1;omega,this.2⟩
    have htv:((op.v:Nat):Int)=0/\toW D.C h op.v= -1\/ ¬((op.v:Nat):Int)=0/\ ∃ sl,hpSlot D.C.tn h.s.W.T op.v=some sl/\toW D.C h op.v=sl:=by
     unfold toW
     by_cases q0:op.v=0
     ·exact .inl ⟨by omega,if_pos q0⟩
     ·refine .inr ⟨by omega,?_⟩;rw[if_neg q0]
      cases hq:hpSlot D.C.tn h.s.W.T op.v with
      |none=>exact absurd ⟨q0,by rw[hq];rfl⟩ h3
      |some sl=>exact⟨sl,rfl,rfl⟩
    obtain⟨to,hto'⟩: ∃ to,toW D.C h op.v=to:=⟨_,rfl⟩
    rw[hto'] at hto htv|-
    have hold: -1<=(refP h.s.W.x D.C.g.slots z op.a).1/\(refP h.s.W.x D.C.g.slots z op.a).1<(D.C.g.slots:Nat):=by
     by_cases q:(refP h.s.W.x D.C.g.slots z op.a).1<0
     ·refine⟨?_,by omega⟩
      have hw:=(h1.p.i.w.w.at_ (fAt z op.a)).1
      unfold refP;rw[if_pos hf]
      split
      ·exact(by decide:(-1:Int)<=0)
      ·show-1<=wAt h.s.W.x (fAt z op.a)-1;omega
     ·obtain⟨t,ht,htl⟩:=hlt rfl rfl q
      rw[ht];exact⟨by omega,by omega⟩
    obtain⟨old,hol⟩: ∃ old,(refP h.s.W.x D.C.g.slots z op.a).1=old:=⟨_,rfl⟩
    rw[hol] at hold|-;simp only[hol] at hRf
    have hx2:(wrS D.C h old to 2).s.W.x=h.s.W.x:=by show(shdO D.C.g D.C.long (shdO D.C.g D.C.long h.s old) to).W.x=_;rw [jdL,jdL]
    have hok:(Jp h.s.W.x D.C.g.slots z op.a to).1=0:=by unfold Jp;rw [if_neg bc,if_pos hf]
    have hSR:=fun A (y1:CyM) (h2:HpR D nf nk y1 (wrS D.C h old to 2))=>jlO (w0:=w0) (F:=A) (i:=op.a) (to:=to) hG h2 hz
    simp only[hx2,hok] at hSR
    have hput:({wrS D.C h old to 2 with s:={(wrS D.C h old to 2).s with W:={(wrS D.C h old to 2).s.W with x:=(Jp h.s.W.x D.C.g.slots z op.a to).2}}}:HpP)={h with s:=putC D.C.g (shdO D.C.g D.C.long (shdO D.C.g D.C.long h.s old) to) (n:Nat) op.a to}:=by
     unfold putC
     have hxx:(shdO D.C.g D.C.long (shdO D.C.g D.C.long h.s old) to).W.x=h.s.W.x:=hx2
     rw[jY hz,hxx]
     rfl
    rw[<-hput];clear hput
    have hSh:=fun A (k:Nat) (y1:CyM) (h2:HpR D nf nk y1 (wrS D.C h old to k)) (to':Int) (ht: -1<=to'/\to'<(D.C.g.slots:Nat)) (h0:to'>=0)=>jlN (w0:=w0) (F:=A) h2 ht h0
    unfold HpQ at hSR hSh;refine en3 96 Tryz.func116 ?_;refine yr3 ?_;intro b4;refine yr1 ?_;intro b6;refine yr9 ?_;refine zq ?_;refine yr34 ?_;refine zm ?_;refine yr7 ?_;refine K.cutT (σ:=Unit) [] jg (fun s kp_=>(0,pt D.b)::(2, .int .i64 (n:Nat))::(4,pt b4)::(6,pt b6)::(9, .int .i64 to)::kp_) (fun s=>hpH D y h++((b4,cells [.int .u8 (op.c:Nat), .int .u64 (op.h:Nat), .int .i64 op.a, .int .i64 op.b, .int .u64 (op.v:Nat)] 69)::(b6,cells [.int .i64 0, .int .u64 0, .int .u64 0, .int .i64 0, .int .i64 0, .int .i64 0, .int .i64 0, .bool false] 78)::F)) (fun s=>True) ?_ ?_
    ·rcases htv with⟨q1,q2⟩|⟨q1,sl,q2,q3⟩
     ·subst q2;refine yr14 ?_;exact zak
     ·simp only[q2,Option.getD_some,Option.isSome_some];subst q3;refine yr20 ?_;exact zak
    ·rintro⟨⟩-;simp only[hpH_app];refine yr1 ?_;refine zaL ?_;refine yr8 ?_;refine zah ?_;rintro _ _ ⟨rfl,rfl⟩;simp only[hpH_app];refine yr2 ?_;refine zbf ?_;rintro _ _ ⟨rfl,rfl⟩;simp only[hpH_app];refine yr18 ?_;refine K.loopT (σ:=WrS) [(0,_),(2,_),(4,_),(6,_),(9,_),(72,_)] (fun s kp_=>(73, .int .i64 (s.k:Nat))::kp_) (fun s=>hpH D s.y (wrS D.C h old to s.k)++((b4,cells [.int .u8 (op.c:Nat), .int .u64 (op.h:Nat), .int .i64 op.a, .int .i64 op.b, .int .u64 (op.v:Nat)] 69)::(b6,cells [.int .i64 0, .int .u64 0, .int .u64 0, .int .i64 0, .int .i64 0, .int .i64 0, .int .i64 0, .bool false] 78)::F)) (fun s=>s.k<=2/\HpR D nf nk s.y (wrS D.C h old to s.k)) (fun s=>2-s.k) (⟨y,0⟩) jg ja (⟨Nat.zero_le _,h1⟩) ?_;rintro⟨y1,k⟩ ⟨hk,h2⟩;dsimp only at hk h2|-
     by_cases hlt2:k<2
     ·have hk01:k=0\/k=1:=by omega
      rcases hk01 with hk01|hk01
      ·subst hk01
       have hnx:wrS D.C h old to 1={wrS D.C h old to 0 with s:=shdO D.C.g D.C.long (wrS D.C h old to 0).s old}:=jiT (C:=D.C) (h:=h) (old:=old) (to:=to) (k:=0) bn
       by_cases h0:old>=0
       ·have hS:=fun A=>hSh A 0 y1 h2 old hold h0
        rw[<-hnx] at hS
        have hlt2':((0:Nat):Int)<2:=by decide
        simp only[hpH_app];refine yr31 ?_;refine zaK ?_;rintro _ _ ⟨rfl,y2,h3,rfl⟩;refine yr7 ?_;exact KE.again ⟨y2,1⟩ jg bd ⟨by show 1<=2;decide,h3⟩ (by show 2-1<2-0;decide)
       ·have hS:wrS D.C h old to 1=wrS D.C h old to 0:=by rw[hnx];unfold shdO;rw [if_neg h0]
        have hlt2':((0:Nat):Int)<2:=by decide
        refine yr31 ?_;exact KE.again ⟨y1,1⟩ jg (by rw[hS];exact ja) ⟨by show 1<=2;decide,by rw[hS];exact h2⟩ (by show 2-1<2-0;decide)
      ·subst hk01
       have hnx:wrS D.C h old to 2={wrS D.C h old to 1 with s:=shdO D.C.g D.C.long (wrS D.C h old to 1).s to}:=jiT (C:=D.C) (h:=h) (old:=old) (to:=to) (k:=1) bn
       by_cases h0:to>=0
       ·have hS:=fun A=>hSh A 1 y1 h2 to hto h0
        rw[<-hnx] at hS
        have hlt2':((1:Nat):Int)<2:=by decide
        simp only[hpH_app];refine yr31 ?_;refine zaK ?_;rintro _ _ ⟨rfl,y2,h3,rfl⟩;refine yr7 ?_;exact KE.again ⟨y2,2⟩ jg bd ⟨by show 2<=2;decide,h3⟩ (by show 2-2<2-1;decide)
       ·have hS:wrS D.C h old to 2=wrS D.C h old to 1:=by rw[hnx];unfold shdO;rw [if_neg h0]
        have hlt2':((1:Nat):Int)<2:=by decide
        refine yr31 ?_;exact KE.again ⟨y1,2⟩ jg (by rw[hS];exact ja) ⟨by show 2<=2;decide,by rw[hS];exact h2⟩ (by show 2-2<2-1;decide)
     ·have e2:k=2:=by omega
      subst e2
      have hlt2': ¬((2:Nat):Int)<2:=by decide
      skip
      refine zg ?_;refine yr2 ?_;refine zg ?_;simp only[hpH_app]
      skip
      refine zi ?_
      (repeat refine K.seq ?_)
      refine K.dr _ [(0,0),(1,0),(2,0),(3,0),(5,1),(6,1),(7,1),(8,1),(4,2),(9,4),(10,4),(11,4)] Part.all ?_;refine yr9 ?_;refine je (hB2 _ y1 _ h2) bd ?_;rintro _ _ ⟨rfl,rfl⟩;simp only[hpH_app];refine yr2 ?_;refine je (hSR _ y1 h2) bd ?_;rintro _ _ ⟨rfl,y2,h3,rfl⟩;refine yr1 ?_;refine zl ?_;refine zcp ?_;refine yr3 ?_;exact zbD
 ·rw[if_pos he];refine en3 96 Tryz.func116 ?_;refine yr3 ?_;intro b4;refine yr1 ?_;intro b6;refine yr9 ?_;refine zq ?_;refine yr21 ?_;refine zl ?_;refine yr6 ?_;exact zar
end
def opsL:List Value:=[.nilFunc, .func (.func 114) #[] #[], .func (.func 115) #[] #[], .func (.func 116) #[] #[], .func (.func 117) #[] #[], .func (.func 118) #[] #[], .func (.func 119) #[] #[], .func (.func 120) #[] #[]]
theorem jcH {w0:World} {H:jb}:Cs w0 57 [] H (.agg opsL.toArray):=by
 refine en0 2 Tryz.func57 ?_
 (iterate 13 first|refine yS ?_|intro _)
 exact zd
section
variable {w0 : World} {D : HpD} {nf nk n : Nat} {y y' : CyM} {h : HpP} {s s' : CyP} {F G : jb} {op : OpP} {z : jn}
structure jat (op:OpP):Prop where
 c:op.c<256
 h:op.h<18446744073709551616
 v:op.v<18446744073709551616
theorem jic {x:List Int} {z:jn}:(jai x z).length<=1000000:=by
 unfold jai
 cases hh:headP x z with
 |none=>exact Nat.zero_le _
 |some q=>
  have:=jb6 (jbm (jb1 hh).2).1
  simp only[List.length_map,List.length_range]
  omega
structure DsS where
 y:CyM
 b:Nat
theorem jdf {v:SnP × HpP} {nf' nk':Nat} {A:jb} {f:FuncId} {args:List Value} {H:jb} (hf:nf<=nf') (hk:nk<=nk') (hc:Call Tryz.prog w0 f args H (fun r H'=>r=snV v.1/\HpQ D nf nk v.2 A H')):Call Tryz.prog w0 f args H (fun r H'=>r=snV v.1/\ ∃ y',HpR D nf' nk' y' v.2/\H'=hpH D y' v.2++A):=
 hc.mono fun r H' ⟨h1,y',h2,h3⟩=>⟨h1,y',h2.mono hf hk,h3⟩
theorem jlU (hG:ju w0) (hD:HpDok D) (hI:HeI D.C h) (h1:HpR D nf 0 y h) (hf:nf<=900000) (ho:jat op) (hc:op.c=2):Call Tryz.prog w0 28 [pt D.b,opV op] (hpH D y h++F) (fun r H'=>r=snV (hpDoes D.C h op).1/\HpQ D (nf+2) 400000000 (hpDoes D.C h op).2 F H'):=by
 have htold:=fun A (e:Int)=>ja0 (w0:=w0) (H:=A) (e:=e)
 have hopers:=fun A=>jcH (w0:=w0) (H:=A)
 unfold opsL at hopers
 have hsl:=fun A=>jcD (w0:=w0) (F:=A) ho.h h1
 unfold hpDoes;rw[if_neg bD,if_neg bD]
 have hop: ∀ sl,hpOp D.C h op sl=jaK D.C h sl op.a:=fun sl=>by unfold hpOp;rw [if_pos hc]
 simp only[hop];unfold HpQ
 have hc2:((op.c:Nat):Int)=2:=by omega
 cases hs:hpSlot D.C.tn h.s.W.T op.h with
 |none=>
  simp only[hs,Option.getD_none,Option.isSome_none] at hsl;dsimp only;unfold opV;refine zD ?_;refine yr3 ?_;intro b3;refine yr1 ?_;intro b4;refine yr5 ?_;refine zx ?_;refine yr1 ?_;intro b5;refine yr28 ?_;refine zm ?_;refine yr23 ?_;refine zl ?_;refine yr5 ?_;exact zW
 |some sl=>
  obtain⟨n,rfl,hn⟩:=jbP (jaT hI.ok.w (jbh hs))
  obtain⟨z,hz⟩:=Je hn
  simp only[hs,Option.getD_some,Option.isSome_some] at hsl;dsimp only;rw[jY hz]
  have hO:=fun A=>jdf (nf':=nf+2) (nk':=400000000) bc bc (hpread_K (w0:=w0) (F:=A) (op:=op) hG hD hI h1 hn bc bc)
  have hP:=fun A (y1:CyM) (q:HpP) (h2:HpR D (nf+2) 400000000 y1 q)=>jc6 (w0:=w0) (F:=A) h2
  have hA:=fun A (y1:CyM) (q:HpP) (h2:HpR D (nf+2) 400000000 y1 q)=>jc7 (w0:=w0) (F:=A) h2 hz
  obtain⟨⟨e,hh,w,addr,us,si,cy,ac⟩,h9,hv⟩: ∃ (q:SnP) (h9:HpP),jaK D.C h ((n:Nat):Int) op.a=(q,h9):=⟨_,_,rfl⟩
  rw[hv] at hO|-;dsimp only at hO|-;unfold opV snV at hO;unfold opV;simp only[hc2] at hO;refine zD ?_;refine yr3 ?_;intro b3;refine yr1 ?_;intro b4;refine yr5 ?_;refine zx ?_;refine yr1 ?_;intro b5;refine yr28 ?_;refine zm ?_;refine yr22 ?_;refine K.cutT (σ:=DsS) [(0,_),(3,_),(4,_)] jg (fun s kp_=>(6, .int .i64 (n:Nat))::(8,pt s.b)::kp_) (fun s=>hpH D s.y h9++((s.b,cells [.int .i64 e, .int .u64 (hh:Nat), .int .u64 w, .int .i64 addr, .int .i64 us, .int .i64 si, .int .i64 cy, .bool ac] 78)::(b3,cells [.int .u8 2, .int .u64 (op.h:Nat), .int .i64 op.a, .int .i64 op.b, .int .u64 (op.v:Nat)] 69)::(b4,cells [.int .i64 0, .int .u64 0, .int .u64 0, .int .i64 0, .int .i64 0, .int .i64 0, .int .i64 0, .bool false] 78)::F)) (fun s=>HpR D (nf+2) 400000000 s.y h9) ?_ ?_
  ·refine zi ?_
   (repeat refine K.seq ?_)
   refine K.dr ((b3,cells [.int .u8 2, .int .u64 (op.h:Nat), .int .i64 op.a, .int .i64 op.b, .int .u64 (op.v:Nat)] 69)::(b5,cells [.nilFunc, .func (.func 114) #[] #[], .func (.func 115) #[] #[], .func (.func 116) #[] #[], .func (.func 117) #[] #[], .func (.func 118) #[] #[], .func (.func 119) #[] #[], .func (.func 120) #[] #[]] 140)::F) (od 0 [1,1,1,1,1,1,1,3,2,2]) ja ?_;refine yr7 ?_
   --FORK at region 7:[(7,3),(8,2),(9,2)]
   refine KD.fork2 (x:=7) (y:=8) (o1:=[(8,2),(9,2)]) (o2:=[(7,2),(9,2)]) bu rfl rfl bu bu ?_ ?_
   ·refine zk fun T hT=>?_;refine zas ?_;rintro _ _ ⟨rfl,y1,h2,rfl⟩;refine zf ?_;clear hT T;refine yr1 ?_;intro b8;refine yr4 ?_;exact zz
   ·(refine jR.e rfl (Eff.alloc rfl) ?_;rintro _ _ ⟨b8,rfl,rfl⟩;refine⟨ja,?_⟩)
    refine yr1 ?_;refine je (hO _) ja ?_;rintro _ _ ⟨rfl,y1,h2,rfl⟩;refine yr4 ?_;exact zz
  ·rintro⟨y1,b8⟩ h2;dsimp only at h2|-;simp only[hpH_app];refine yr15 ?_;refine zat ?_;refine yr2 ?_;refine zau ?_;refine yr14 ?_;exact zB
theorem jlh (hG:ju w0) (hD:HpDok D) (hI:HeI D.C h) (h1:HpR D nf 0 y h) (hf:nf<=900000) (ho:jat op) (hc:op.c=3):Call Tryz.prog w0 28 [pt D.b,opV op] (hpH D y h++F) (fun r H'=>r=snV (hpDoes D.C h op).1/\HpQ D (nf+2) 400000000 (hpDoes D.C h op).2 F H'):=by
 have htold:=fun A (e:Int)=>ja0 (w0:=w0) (H:=A) (e:=e)
 have hopers:=fun A=>jcH (w0:=w0) (H:=A)
 unfold opsL at hopers
 have hsl:=fun A=>jcD (w0:=w0) (F:=A) ho.h h1
 unfold hpDoes;rw[if_neg bD,if_neg bD]
 have hop: ∀ sl,hpOp D.C h op sl=jaZ D.C h sl op.a op.v:=fun sl=>by unfold hpOp;rw [if_neg bD,if_pos hc]
 simp only[hop];unfold HpQ
 have hc2:((op.c:Nat):Int)=3:=by omega
 cases hs:hpSlot D.C.tn h.s.W.T op.h with
 |none=>
  simp only[hs,Option.getD_none,Option.isSome_none] at hsl;dsimp only;unfold opV;refine zD ?_;refine yr3 ?_;intro b3;refine yr1 ?_;intro b4;refine yr5 ?_;refine zx ?_;refine yr1 ?_;intro b5;refine yr28 ?_;refine zm ?_;refine yr23 ?_;refine zl ?_;refine yr5 ?_;exact zW
 |some sl=>
  obtain⟨n,rfl,hn⟩:=jbP (jaT hI.ok.w (jbh hs))
  obtain⟨z,hz⟩:=Je hn
  simp only[hs,Option.getD_some,Option.isSome_some] at hsl;dsimp only;rw[jY hz]
  have hO:=fun A=>jdf (nf':=nf+2) (nk':=400000000) bc bc (hpwrite_K (w0:=w0) (F:=A) (op:=op) hG hD hI h1 hn ho.v)
  have hP:=fun A (y1:CyM) (q:HpP) (h2:HpR D (nf+2) 400000000 y1 q)=>jc6 (w0:=w0) (F:=A) h2
  have hA:=fun A (y1:CyM) (q:HpP) (h2:HpR D (nf+2) 400000000 y1 q)=>jc7 (w0:=w0) (F:=A) h2 hz
  obtain⟨⟨e,hh,w,addr,us,si,cy,ac⟩,h9,hv⟩: ∃ (q:SnP) (h9:HpP),jaZ D.C h ((n:Nat):Int) op.a op.v=(q,h9):=⟨_,_,rfl⟩
  rw[hv] at hO|-;dsimp only at hO|-;unfold opV snV at hO;unfold opV;simp only[hc2] at hO;refine zD ?_;refine yr3 ?_;intro b3;refine yr1 ?_;intro b4;refine yr5 ?_;refine zx ?_;refine yr1 ?_;intro b5;refine yr28 ?_;refine zm ?_;refine yr22 ?_;refine K.cutT (σ:=DsS) [(0,_),(3,_),(4,_)] jg (fun s kp_=>(6, .int .i64 (n:Nat))::(8,pt s.b)::kp_) (fun s=>hpH D s.y h9++((s.b,cells [.int .i64 e, .int .u64 (hh:Nat), .int .u64 w, .int .i64 addr, .int .i64 us, .int .i64 si, .int .i64 cy, .bool ac] 78)::(b3,cells [.int .u8 3, .int .u64 (op.h:Nat), .int .i64 op.a, .int .i64 op.b, .int .u64 (op.v:Nat)] 69)::(b4,cells [.int .i64 0, .int .u64 0, .int .u64 0, .int .i64 0, .int .i64 0, .int .i64 0, .int .i64 0, .bool false] 78)::F)) (fun s=>HpR D (nf+2) 400000000 s.y h9) ?_ ?_
  ·refine zi ?_
   (repeat refine K.seq ?_)
   refine K.dr ((b3,cells [.int .u8 3, .int .u64 (op.h:Nat), .int .i64 op.a, .int .i64 op.b, .int .u64 (op.v:Nat)] 69)::(b5,cells [.nilFunc, .func (.func 114) #[] #[], .func (.func 115) #[] #[], .func (.func 116) #[] #[], .func (.func 117) #[] #[], .func (.func 118) #[] #[], .func (.func 119) #[] #[], .func (.func 120) #[] #[]] 140)::F) (od 0 [1,1,1,1,1,1,1,3,2,2]) ja ?_;refine yr7 ?_
   --FORK at region 7:[(7,3),(8,2),(9,2)]
   refine KD.fork2 (x:=7) (y:=8) (o1:=[(8,2),(9,2)]) (o2:=[(7,2),(9,2)]) bu rfl rfl bu bu ?_ ?_
   ·refine zk fun T hT=>?_;refine zas ?_;rintro _ _ ⟨rfl,y1,h2,rfl⟩;refine zf ?_;clear hT T;refine yr1 ?_;intro b8;refine yr4 ?_;exact zz
   ·(refine jR.e rfl (Eff.alloc rfl) ?_;rintro _ _ ⟨b8,rfl,rfl⟩;refine⟨ja,?_⟩)
    refine yr1 ?_;refine je (hO _) ja ?_;rintro _ _ ⟨rfl,y1,h2,rfl⟩;refine yr4 ?_;exact zz
  ·rintro⟨y1,b8⟩ h2;dsimp only at h2|-;simp only[hpH_app];refine yr15 ?_;refine zat ?_;refine yr2 ?_;refine zau ?_;refine yr14 ?_;exact zB
theorem jlT (hG:ju w0) (hD:HpDok D) (hI:HeI D.C h) (h1:HpR D nf 0 y h) (hf:nf<=900000) (ho:jat op) (hc:op.c=4):Call Tryz.prog w0 28 [pt D.b,opV op] (hpH D y h++F) (fun r H'=>r=snV (hpDoes D.C h op).1/\HpQ D (nf+2) 400000000 (hpDoes D.C h op).2 F H'):=by
 have htold:=fun A (e:Int)=>ja0 (w0:=w0) (H:=A) (e:=e)
 have hopers:=fun A=>jcH (w0:=w0) (H:=A)
 unfold opsL at hopers
 have hsl:=fun A=>jcD (w0:=w0) (F:=A) ho.h h1
 unfold hpDoes;rw[if_neg bD,if_neg bD]
 have hop: ∀ sl,hpOp D.C h op sl=jcN h sl:=fun sl=>by unfold hpOp;rw [if_neg bD,if_neg bD,if_pos hc]
 simp only[hop];unfold HpQ
 have hc2:((op.c:Nat):Int)=4:=by omega
 cases hs:hpSlot D.C.tn h.s.W.T op.h with
 |none=>
  simp only[hs,Option.getD_none,Option.isSome_none] at hsl;dsimp only;unfold opV;refine zD ?_;refine yr3 ?_;intro b3;refine yr1 ?_;intro b4;refine yr5 ?_;refine zx ?_;refine yr1 ?_;intro b5;refine yr28 ?_;refine zm ?_;refine yr23 ?_;refine zl ?_;refine yr5 ?_;exact zW
 |some sl=>
  obtain⟨n,rfl,hn⟩:=jbP (jaT hI.ok.w (jbh hs))
  obtain⟨z,hz⟩:=Je hn
  simp only[hs,Option.getD_some,Option.isSome_some] at hsl;dsimp only;rw[jY hz]
  have hO:=fun A=>jdf (nf':=nf+2) (nk':=400000000) bc bc (hproot_K (w0:=w0) (F:=A) (op:=op) h1 hn)
  have hP:=fun A (y1:CyM) (q:HpP) (h2:HpR D (nf+2) 400000000 y1 q)=>jc6 (w0:=w0) (F:=A) h2
  have hA:=fun A (y1:CyM) (q:HpP) (h2:HpR D (nf+2) 400000000 y1 q)=>jc7 (w0:=w0) (F:=A) h2 hz
  obtain⟨⟨e,hh,w,addr,us,si,cy,ac⟩,h9,hv⟩: ∃ (q:SnP) (h9:HpP),jcN h ((n:Nat):Int)=(q,h9):=⟨_,_,rfl⟩
  rw[hv] at hO|-;dsimp only at hO|-;unfold opV snV at hO;unfold opV;simp only[hc2] at hO;refine zD ?_;refine yr3 ?_;intro b3;refine yr1 ?_;intro b4;refine yr5 ?_;refine zx ?_;refine yr1 ?_;intro b5;refine yr28 ?_;refine zm ?_;refine yr22 ?_;refine K.cutT (σ:=DsS) [(0,_),(3,_),(4,_)] jg (fun s kp_=>(6, .int .i64 (n:Nat))::(8,pt s.b)::kp_) (fun s=>hpH D s.y h9++((s.b,cells [.int .i64 e, .int .u64 (hh:Nat), .int .u64 w, .int .i64 addr, .int .i64 us, .int .i64 si, .int .i64 cy, .bool ac] 78)::(b3,cells [.int .u8 4, .int .u64 (op.h:Nat), .int .i64 op.a, .int .i64 op.b, .int .u64 (op.v:Nat)] 69)::(b4,cells [.int .i64 0, .int .u64 0, .int .u64 0, .int .i64 0, .int .i64 0, .int .i64 0, .int .i64 0, .bool false] 78)::F)) (fun s=>HpR D (nf+2) 400000000 s.y h9) ?_ ?_
  ·refine zi ?_
   (repeat refine K.seq ?_)
   refine K.dr ((b3,cells [.int .u8 4, .int .u64 (op.h:Nat), .int .i64 op.a, .int .i64 op.b, .int .u64 (op.v:Nat)] 69)::(b5,cells [.nilFunc, .func (.func 114) #[] #[], .func (.func 115) #[] #[], .func (.func 116) #[] #[], .func (.func 117) #[] #[], .func (.func 118) #[] #[], .func (.func 119) #[] #[], .func (.func 120) #[] #[]] 140)::F) (od 0 [1,1,1,1,1,1,1,3,2,2]) ja ?_;refine yr7 ?_
   --FORK at region 7:[(7,3),(8,2),(9,2)]
   refine KD.fork2 (x:=7) (y:=8) (o1:=[(8,2),(9,2)]) (o2:=[(7,2),(9,2)]) bu rfl rfl bu bu ?_ ?_
   ·refine zk fun T hT=>?_;refine zas ?_;rintro _ _ ⟨rfl,y1,h2,rfl⟩;refine zf ?_;clear hT T;refine yr1 ?_;intro b8;refine yr4 ?_;exact zz
   ·(refine jR.e rfl (Eff.alloc rfl) ?_;rintro _ _ ⟨b8,rfl,rfl⟩;refine⟨ja,?_⟩)
    refine yr1 ?_;refine je (hO _) ja ?_;rintro _ _ ⟨rfl,y1,h2,rfl⟩;refine yr4 ?_;exact zz
  ·rintro⟨y1,b8⟩ h2;dsimp only at h2|-;simp only[hpH_app];refine yr15 ?_;refine zat ?_;refine yr2 ?_;refine zau ?_;refine yr14 ?_;exact zB
theorem jkY (hG:ju w0) (hD:HpDok D) (hI:HeI D.C h) (h1:HpR D nf 0 y h) (hf:nf<=900000) (ho:jat op) (hc:op.c=5):Call Tryz.prog w0 28 [pt D.b,opV op] (hpH D y h++F) (fun r H'=>r=snV (hpDoes D.C h op).1/\HpQ D (nf+2) 400000000 (hpDoes D.C h op).2 F H'):=by
 have htold:=fun A (e:Int)=>ja0 (w0:=w0) (H:=A) (e:=e)
 have hopers:=fun A=>jcH (w0:=w0) (H:=A)
 unfold opsL at hopers
 have hsl:=fun A=>jcD (w0:=w0) (F:=A) ho.h h1
 unfold hpDoes;rw[if_neg bD,if_neg bD]
 have hop: ∀ sl,hpOp D.C h op sl=jb0 D.C h sl:=fun sl=>by unfold hpOp;rw [if_neg bD,if_neg bD,if_neg bD,if_pos hc]
 simp only[hop];unfold HpQ
 have hc2:((op.c:Nat):Int)=5:=by omega
 cases hs:hpSlot D.C.tn h.s.W.T op.h with
 |none=>
  simp only[hs,Option.getD_none,Option.isSome_none] at hsl;dsimp only;unfold opV;refine zD ?_;refine yr3 ?_;intro b3;refine yr1 ?_;intro b4;refine yr5 ?_;refine zx ?_;refine yr1 ?_;intro b5;refine yr28 ?_;refine zm ?_;refine yr23 ?_;refine zl ?_;refine yr5 ?_;exact zW
 |some sl=>
  obtain⟨n,rfl,hn⟩:=jbP (jaT hI.ok.w (jbh hs))
  obtain⟨z,hz⟩:=Je hn
  simp only[hs,Option.getD_some,Option.isSome_some] at hsl;dsimp only;rw[jY hz]
  have hO:=fun A=>jdf (nf':=nf+2) (nk':=400000000) bc bc (jlP (w0:=w0) (F:=A) (op:=op) h1 hn)
  have hP:=fun A (y1:CyM) (q:HpP) (h2:HpR D (nf+2) 400000000 y1 q)=>jc6 (w0:=w0) (F:=A) h2
  have hA:=fun A (y1:CyM) (q:HpP) (h2:HpR D (nf+2) 400000000 y1 q)=>jc7 (w0:=w0) (F:=A) h2 hz
  obtain⟨⟨e,hh,w,addr,us,si,cy,ac⟩,h9,hv⟩: ∃ (q:SnP) (h9:HpP),jb0 D.C h ((n:Nat):Int)=(q,h9):=⟨_,_,rfl⟩
  rw[hv] at hO|-;dsimp only at hO|-;unfold opV snV at hO;unfold opV;simp only[hc2] at hO;refine zD ?_;refine yr3 ?_;intro b3;refine yr1 ?_;intro b4;refine yr5 ?_;refine zx ?_;refine yr1 ?_;intro b5;refine yr28 ?_;refine zm ?_;refine yr22 ?_;refine K.cutT (σ:=DsS) [(0,_),(3,_),(4,_)] jg (fun s kp_=>(6, .int .i64 (n:Nat))::(8,pt s.b)::kp_) (fun s=>hpH D s.y h9++((s.b,cells [.int .i64 e, .int .u64 (hh:Nat), .int .u64 w, .int .i64 addr, .int .i64 us, .int .i64 si, .int .i64 cy, .bool ac] 78)::(b3,cells [.int .u8 5, .int .u64 (op.h:Nat), .int .i64 op.a, .int .i64 op.b, .int .u64 (op.v:Nat)] 69)::(b4,cells [.int .i64 0, .int .u64 0, .int .u64 0, .int .i64 0, .int .i64 0, .int .i64 0, .int .i64 0, .bool false] 78)::F)) (fun s=>HpR D (nf+2) 400000000 s.y h9) ?_ ?_
  ·refine zi ?_
   (repeat refine K.seq ?_)
   refine K.dr ((b3,cells [.int .u8 5, .int .u64 (op.h:Nat), .int .i64 op.a, .int .i64 op.b, .int .u64 (op.v:Nat)] 69)::(b5,cells [.nilFunc, .func (.func 114) #[] #[], .func (.func 115) #[] #[], .func (.func 116) #[] #[], .func (.func 117) #[] #[], .func (.func 118) #[] #[], .func (.func 119) #[] #[], .func (.func 120) #[] #[]] 140)::F) (od 0 [1,1,1,1,1,1,1,3,2,2]) ja ?_;refine yr7 ?_
   --FORK at region 7:[(7,3),(8,2),(9,2)]
   refine KD.fork2 (x:=7) (y:=8) (o1:=[(8,2),(9,2)]) (o2:=[(7,2),(9,2)]) bu rfl rfl bu bu ?_ ?_
   ·refine zk fun T hT=>?_;refine zas ?_;rintro _ _ ⟨rfl,y1,h2,rfl⟩;refine zf ?_;clear hT T;refine yr1 ?_;intro b8;refine yr4 ?_;exact zz
   ·(refine jR.e rfl (Eff.alloc rfl) ?_;rintro _ _ ⟨b8,rfl,rfl⟩;refine⟨ja,?_⟩)
    refine yr1 ?_;refine je (hO _) ja ?_;rintro _ _ ⟨rfl,y1,h2,rfl⟩;refine yr4 ?_;exact zz
  ·rintro⟨y1,b8⟩ h2;dsimp only at h2|-;simp only[hpH_app];refine yr15 ?_;refine zat ?_;refine yr2 ?_;refine zau ?_;refine yr14 ?_;exact zB
theorem jlW (hG:ju w0) (hD:HpDok D) (hI:HeI D.C h) (h1:HpR D nf 0 y h) (hf:nf<=900000) (ho:jat op) (hc:op.c=6):Call Tryz.prog w0 28 [pt D.b,opV op] (hpH D y h++F) (fun r H'=>r=snV (hpDoes D.C h op).1/\HpQ D (nf+2) 400000000 (hpDoes D.C h op).2 F H'):=by
 have htold:=fun A (e:Int)=>ja0 (w0:=w0) (H:=A) (e:=e)
 have hopers:=fun A=>jcH (w0:=w0) (H:=A)
 unfold opsL at hopers
 have hsl:=fun A=>jcD (w0:=w0) (F:=A) ho.h h1
 unfold hpDoes;rw[if_neg bD,if_neg bD]
 have hop: ∀ sl,hpOp D.C h op sl=jcP D.C h sl op.h:=fun sl=>by unfold hpOp;rw [if_neg bD,if_neg bD,if_neg bD,if_neg bD,if_pos hc]
 simp only[hop];unfold HpQ
 have hc2:((op.c:Nat):Int)=6:=by omega
 cases hs:hpSlot D.C.tn h.s.W.T op.h with
 |none=>
  simp only[hs,Option.getD_none,Option.isSome_none] at hsl;dsimp only;unfold opV;refine zD ?_;refine yr3 ?_;intro b3;refine yr1 ?_;intro b4;refine yr5 ?_;refine zx ?_;refine yr1 ?_;intro b5;refine yr28 ?_;refine zm ?_;refine yr23 ?_;refine zl ?_;refine yr5 ?_;exact zW
 |some sl=>
  obtain⟨n,rfl,hn⟩:=jbP (jaT hI.ok.w (jbh hs))
  obtain⟨z,hz⟩:=Je hn
  simp only[hs,Option.getD_some,Option.isSome_some] at hsl;dsimp only;rw[jY hz]
  have hO:=fun A=>jdf (nf':=nf+2) (nk':=400000000) bc bc (hpdrop_K (w0:=w0) (F:=A) (op:=op) h1 hn ho.h hs)
  have hP:=fun A (y1:CyM) (q:HpP) (h2:HpR D (nf+2) 400000000 y1 q)=>jc6 (w0:=w0) (F:=A) h2
  have hA:=fun A (y1:CyM) (q:HpP) (h2:HpR D (nf+2) 400000000 y1 q)=>jc7 (w0:=w0) (F:=A) h2 hz
  obtain⟨⟨e,hh,w,addr,us,si,cy,ac⟩,h9,hv⟩: ∃ (q:SnP) (h9:HpP),jcP D.C h ((n:Nat):Int) op.h=(q,h9):=⟨_,_,rfl⟩
  rw[hv] at hO|-;dsimp only at hO|-;unfold opV snV at hO;unfold opV;simp only[hc2] at hO;refine zD ?_;refine yr3 ?_;intro b3;refine yr1 ?_;intro b4;refine yr5 ?_;refine zx ?_;refine yr1 ?_;intro b5;refine yr28 ?_;refine zm ?_;refine yr22 ?_;refine K.cutT (σ:=DsS) [(0,_),(3,_),(4,_)] jg (fun s kp_=>(6, .int .i64 (n:Nat))::(8,pt s.b)::kp_) (fun s=>hpH D s.y h9++((s.b,cells [.int .i64 e, .int .u64 (hh:Nat), .int .u64 w, .int .i64 addr, .int .i64 us, .int .i64 si, .int .i64 cy, .bool ac] 78)::(b3,cells [.int .u8 6, .int .u64 (op.h:Nat), .int .i64 op.a, .int .i64 op.b, .int .u64 (op.v:Nat)] 69)::(b4,cells [.int .i64 0, .int .u64 0, .int .u64 0, .int .i64 0, .int .i64 0, .int .i64 0, .int .i64 0, .bool false] 78)::F)) (fun s=>HpR D (nf+2) 400000000 s.y h9) ?_ ?_
  ·refine zi ?_
   (repeat refine K.seq ?_)
   refine K.dr ((b3,cells [.int .u8 6, .int .u64 (op.h:Nat), .int .i64 op.a, .int .i64 op.b, .int .u64 (op.v:Nat)] 69)::(b5,cells [.nilFunc, .func (.func 114) #[] #[], .func (.func 115) #[] #[], .func (.func 116) #[] #[], .func (.func 117) #[] #[], .func (.func 118) #[] #[], .func (.func 119) #[] #[], .func (.func 120) #[] #[]] 140)::F) (od 0 [1,1,1,1,1,1,1,3,2,2]) ja ?_;refine yr7 ?_
   --FORK at region 7:[(7,3),(8,2),(9,2)]
   refine KD.fork2 (x:=7) (y:=8) (o1:=[(8,2),(9,2)]) (o2:=[(7,2),(9,2)]) bu rfl rfl bu bu ?_ ?_
   ·refine zk fun T hT=>?_;refine zas ?_;rintro _ _ ⟨rfl,y1,h2,rfl⟩;refine zf ?_;clear hT T;refine yr1 ?_;intro b8;refine yr4 ?_;exact zz
   ·(refine jR.e rfl (Eff.alloc rfl) ?_;rintro _ _ ⟨b8,rfl,rfl⟩;refine⟨ja,?_⟩)
    refine yr1 ?_;refine je (hO _) ja ?_;rintro _ _ ⟨rfl,y1,h2,rfl⟩;refine yr4 ?_;exact zz
  ·rintro⟨y1,b8⟩ h2;dsimp only at h2|-;simp only[hpH_app];refine yr15 ?_;refine zat ?_;refine yr2 ?_;refine zau ?_;refine yr14 ?_;exact zB
theorem jlV (hG:ju w0) (hD:HpDok D) (hI:HeI D.C h) (h1:HpR D nf 0 y h) (hf:nf<=900000) (ho:jat op) (hc:op.c=7):Call Tryz.prog w0 28 [pt D.b,opV op] (hpH D y h++F) (fun r H'=>r=snV (hpDoes D.C h op).1/\HpQ D (nf+2) 400000000 (hpDoes D.C h op).2 F H'):=by
 have htold:=fun A (e:Int)=>ja0 (w0:=w0) (H:=A) (e:=e)
 have hopers:=fun A=>jcH (w0:=w0) (H:=A)
 unfold opsL at hopers
 have hsl:=fun A=>jcD (w0:=w0) (F:=A) ho.h h1
 unfold hpDoes;rw[if_neg bD,if_neg bD]
 have hop: ∀ sl,hpOp D.C h op sl=jcO D.C h sl:=fun sl=>by unfold hpOp;rw [if_neg bD,if_neg bD,if_neg bD,if_neg bD,if_neg bD]
 simp only[hop];unfold HpQ
 have hc2:((op.c:Nat):Int)=7:=by omega
 cases hs:hpSlot D.C.tn h.s.W.T op.h with
 |none=>
  simp only[hs,Option.getD_none,Option.isSome_none] at hsl;dsimp only;unfold opV;refine zD ?_;refine yr3 ?_;intro b3;refine yr1 ?_;intro b4;refine yr5 ?_;refine zx ?_;refine yr1 ?_;intro b5;refine yr28 ?_;refine zm ?_;refine yr23 ?_;refine zl ?_;refine yr5 ?_;exact zW
 |some sl=>
  obtain⟨n,rfl,hn⟩:=jbP (jaT hI.ok.w (jbh hs))
  obtain⟨z,hz⟩:=Je hn
  simp only[hs,Option.getD_some,Option.isSome_some] at hsl;dsimp only;rw[jY hz]
  have hO:=fun A=>jdf (nf':=nf+2) (nk':=400000000) bc bc (hpfold_K (w0:=w0) (F:=A) (op:=op) hG h1 hz (jic))
  have hP:=fun A (y1:CyM) (q:HpP) (h2:HpR D (nf+2) 400000000 y1 q)=>jc6 (w0:=w0) (F:=A) h2
  have hA:=fun A (y1:CyM) (q:HpP) (h2:HpR D (nf+2) 400000000 y1 q)=>jc7 (w0:=w0) (F:=A) h2 hz
  obtain⟨⟨e,hh,w,addr,us,si,cy,ac⟩,h9,hv⟩: ∃ (q:SnP) (h9:HpP),jcO D.C h ((n:Nat):Int)=(q,h9):=⟨_,_,rfl⟩
  rw[hv] at hO|-;dsimp only at hO|-;unfold opV snV at hO;unfold opV;simp only[hc2] at hO;refine zD ?_;refine yr3 ?_;intro b3;refine yr1 ?_;intro b4;refine yr5 ?_;refine zx ?_;refine yr1 ?_;intro b5;refine yr28 ?_;refine zm ?_;refine yr22 ?_;refine K.cutT (σ:=DsS) [(0,_),(3,_),(4,_)] jg (fun s kp_=>(6, .int .i64 (n:Nat))::(8,pt s.b)::kp_) (fun s=>hpH D s.y h9++((s.b,cells [.int .i64 e, .int .u64 (hh:Nat), .int .u64 w, .int .i64 addr, .int .i64 us, .int .i64 si, .int .i64 cy, .bool ac] 78)::(b3,cells [.int .u8 7, .int .u64 (op.h:Nat), .int .i64 op.a, .int .i64 op.b, .int .u64 (op.v:Nat)] 69)::(b4,cells [.int .i64 0, .int .u64 0, .int .u64 0, .int .i64 0, .int .i64 0, .int .i64 0, .int .i64 0, .bool false] 78)::F)) (fun s=>HpR D (nf+2) 400000000 s.y h9) ?_ ?_
  ·refine zi ?_
   (repeat refine K.seq ?_)
   refine K.dr ((b3,cells [.int .u8 7, .int .u64 (op.h:Nat), .int .i64 op.a, .int .i64 op.b, .int .u64 (op.v:Nat)] 69)::(b5,cells [.nilFunc, .func (.func 114) #[] #[], .func (.func 115) #[] #[], .func (.func 116) #[] #[], .func (.func 117) #[] #[], .func (.func 118) #[] #[], .func (.func 119) #[] #[], .func (.func 120) #[] #[]] 140)::F) (od 0 [1,1,1,1,1,1,1,3,2,2]) ja ?_;refine yr7 ?_
   --FORK at region 7:[(7,3),(8,2),(9,2)]
   refine KD.fork2 (x:=7) (y:=8) (o1:=[(8,2),(9,2)]) (o2:=[(7,2),(9,2)]) bu rfl rfl bu bu ?_ ?_
   ·refine zk fun T hT=>?_;refine zas ?_;rintro _ _ ⟨rfl,y1,h2,rfl⟩;refine zf ?_;clear hT T;refine yr1 ?_;intro b8;refine yr4 ?_;exact zz
   ·(refine jR.e rfl (Eff.alloc rfl) ?_;rintro _ _ ⟨b8,rfl,rfl⟩;refine⟨ja,?_⟩)
    refine yr1 ?_;refine je (hO _) ja ?_;rintro _ _ ⟨rfl,y1,h2,rfl⟩;refine yr4 ?_;exact zz
  ·rintro⟨y1,b8⟩ h2;dsimp only at h2|-;simp only[hpH_app];refine yr15 ?_;refine zat ?_;refine yr2 ?_;refine zau ?_;refine yr14 ?_;exact zB
