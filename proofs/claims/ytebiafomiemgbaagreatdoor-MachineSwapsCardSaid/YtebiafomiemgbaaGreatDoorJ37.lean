/-The walker and the contracts that the law needs,part 37. -/
import Derived.Test.YtebiafomiemgbaaGreatDoorJ34
set_option linter.unusedVariables false set_option linter.unusedSimpArgs false set_option linter.unusedVariables false
set_option linter.unusedSimpArgs false
namespace Go.Proofs.YtebiafomiemgbaaGreatDoor.Sw
set_option maxHeartbeats 8000000
open Go.Proofs.YtebiafomiemgbaaGreatDoor renaming lo → qL, hi → qH
open Go.RowKit
set_option maxRecDepth 10000
section
variable {w0 : World} {D : HpD} {nf nk n : Nat} {y y' : CyM} {h : HpP} {s s' : CyP} {F : jb} {op : OpP} {z : jq}
theorem hpfreeV {G:jb} (nf nk:Nat) (y:CyM) (h:HpP) (h1:HpR D nf nk y h):CallV Tryz.prog w0 (.func (.func 194) #[.pointer (some ⟨D.b,0,none⟩)] #[]) [] (hpH D y h++G) (fun r H'=>r= .bool (Jt h.s)∧H'=hpH D y h++G):=
 CallV.bound (first:=[.pointer (some ⟨D.b,0,none⟩)]) (jg0 h1)
theorem ref_lt {C:HpC} {h:HpP} {a:Int} (hI:HeI C h) (hn:n<C.g.slots) (hz:C.g.L[n]?=some z) (h1:(ja9 h.s.W.x z a).2=0) (h2:(ja9 h.s.W.x z a).1=true) (h3: ¬(refP h.s.W.x C.g.slots z a).1<0): ∃ t:Nat,(refP h.s.W.x C.g.slots z a).1=(t:Nat)∧t<C.g.slots:=by
 have hf:=(je9 h1).1
 rw[h2] at hf
 obtain⟨t,ht⟩: ∃ t:Nat,(refP h.s.W.x C.g.slots z a).1=(t:Nat):=⟨((refP h.s.W.x C.g.slots z a).1).toNat,by omega⟩
 have hr:refO C.g h.s.W.x ((n:Nat):Int) a=some ((t:Nat):Int):=by
  unfold refO;rw [jW hz,if_pos ⟨jgj hI.ok.rf hz hf,by omega⟩,ht]
 exact⟨t,ht,jha hr⟩
theorem hpread_K (hG:ji w0) (hD:HpDok D) (hI:HeI D.C h) (h1:HpR D nf nk y h) (hn:n<D.C.g.slots) (hf:nf≤1000000) (hk:nk≤100000000):Call Tryz.prog w0 154 [.pointer (some ⟨D.b,0,none⟩),opV op, .int .i64 (n:Nat)] (hpH D y h++F) (fun r H'=>r=snV (Jj D.C h (n:Nat) op.a).1∧HpQ D (nf+1) (nk+200000000) (Jj D.C h (n:Nat) op.a).2 F H'):=by
 obtain⟨z,hz⟩:=j9 hn
 have hC:=hD.C
 have hgn:=hC.gn
 have htold:=fun A (e:Int)=>jbE (w0:=w0) (H:=A) (e:=e)
 have hfld:=fun A=>jkx (w0:=w0) (F:=A) (i:=op.a) hG h1 hz
 have hB:=fun A=>jfi (w0:=w0) (F:=A) h1
 have hWd:=fun A=>hyWord_K (w0:=w0) (F:=A) (i:=op.a) hG h1 hz
 have hRf:=fun A=>hyRef_K (w0:=w0) (F:=A) (i:=op.a) hG h1 hz
 have hrm:=fun A=>jlt (w0:=w0) (G:=A) (is:=Jt) hG hD hI h1 hf hk hpfreeV
 have hI2:=hI.mvs hC (jcR (wr:=true) hC hI (is:=Jt))
 have hfr:=fun A (y1:CyM) (h2:HpR D (nf+1) (nk+200000000) y1 (jaQ D.C Jt h))=>jg0 (w0:=w0) (F:=A) h2
 unfold Jj;rw[jW hz]
 have hlt:=ref_lt (a:=op.a) hI hn hz
 unfold HpQ at hrm⊢
 generalize ja9 h.s.W.x z op.a=fx at hfld hlt⊢
 obtain⟨isr,e⟩:=fx
 dsimp only at hfld hlt⊢;unfold opV
 by_cases he:e=0
 ·subst he;rw[if_neg (fun q=>q rfl)]
  cases isr with
  |false=>
   rw[if_pos rfl];refine zmi ?_;refine zhy ?_;intro b4 b6;simp only[hpH_app];refine zeI ?_;refine zd0 ?_;refine zag ?_;refine zt ?_;refine zhZ ?_;refine zoS ?_;refine zgj ?_;refine zP ?_;refine zft fun T hT=>?_;refine zgU ?_;rintro _ _ ⟨rfl,rfl⟩;refine zaM ?_;clear hT T;refine zk fun T hT=>?_;refine(CallV.part (CallV.fn (hWd _)) (by first|exact ja|(simp only[hpH_app];exact ja))).mono ?_;rintro _ _ ⟨rfl,rfl⟩;refine zaM ?_;clear hT T;refine zeH ?_;refine zbw ?_;refine zfr ?_;refine zbG ?_;exact zoQ
  |true=>
   rw[if_neg (by decide)]
   by_cases h3:(refP h.s.W.x D.C.g.slots z op.a).1<0
   ·rw[if_pos h3];refine zmi ?_;refine zhy ?_;intro b4 b6;simp only[hpH_app];refine zeI ?_;refine zd0 ?_;refine zy ?_;refine zdX ?_;refine zbC ?_;refine zoS ?_;refine zgj ?_;refine zP ?_;refine zft fun T hT=>?_;refine zgU ?_;rintro _ _ ⟨rfl,rfl⟩;refine zaM ?_;clear hT T;refine zk fun T hT=>?_;refine zoT ?_;rintro _ _ ⟨rfl,rfl⟩;refine zaM ?_;clear hT T;refine zeH ?_;refine zhU ?_;refine zj ?_;refine zI ?_;refine zao ?_;refine zfr ?_;refine zaS ?_;exact zoQ
   ·rw[if_neg h3]
    obtain⟨t,ht,htl⟩:=hlt rfl rfl h3
    rw[ht];simp only[ht] at hRf
    have h0t: ¬((t:Nat):Int)<0:=by omega
    cases hb:Jt (jaQ D.C Jt h).s with
    |false=>
     simp only[hb] at hfr;rw[if_pos rfl];refine zmi ?_;refine zhy ?_;intro b4 b6;simp only[hpH_app];refine zeI ?_;refine zd0 ?_;refine zy ?_;refine zdX ?_;refine zbC ?_;refine zoS ?_;refine zgj ?_;refine zP ?_;refine zft fun T hT=>?_;refine zgU ?_;rintro _ _ ⟨rfl,rfl⟩;refine zaM ?_;clear hT T;refine zk fun T hT=>?_;refine zoT ?_;rintro _ _ ⟨rfl,rfl⟩;refine zaM ?_;clear hT T;refine zeH ?_;refine zhU ?_;refine zj ?_;refine zW ?_;refine za6 ?_;refine zB ?_;refine zbk fun T hT=>?_;refine(CallV.part (CallV.fn (hrm _)) (by first|exact ja|(simp only[hpH_app];exact ja))).mono ?_;rintro _ _ ⟨rfl,y1,h2,rfl⟩;refine ze ?_;clear hT T;refine zal ?_;refine zn ?_;refine jn (hfr _ y1 h2) ja ?_;refine zaQ ?_;refine zpU ?_;exact zkX
    |true=>
     simp only[hb] at hfr;rw[if_neg (by decide)]
     have hT:=shdC_W (g:=D.C.g) (long:=D.C.long) (s:=(jaQ D.C Jt h).s) ((t:Nat):Int)
     have hSh:=fun A (y1:CyM) (h2:HpR D (nf+1) (nk+200000000) y1 (jaQ D.C Jt h))=>jgJ (w0:=w0) (F:=A) h2 htl
     have hMi:=fun A (y1:CyM) (h2:HpR D (nf+1) (nk+200000000) y1 {jaQ D.C Jt h with s:=shdC D.C.g D.C.long (jaQ D.C Jt h).s (t:Nat)})=>jlu (w0:=w0) (F:=A) hD h2 (by rw[hT];exact fun e he=>⟨(hI2.e e he).1,Int.le_trans (hI2.e e he).2 hgn.2⟩) htl (by grind[freeB_some])
     dsimp only at hMi;rw[←hT];clear hT;unfold HpQ at hSh hMi;refine zmi ?_;refine zhy ?_;intro b4 b6;simp only[hpH_app];refine zeI ?_;refine zd0 ?_;refine zy ?_;refine zdX ?_;refine zbC ?_;refine zoS ?_;refine zgj ?_;refine zP ?_;refine zft fun T hT=>?_;refine zgU ?_;rintro _ _ ⟨rfl,rfl⟩;refine zaM ?_;clear hT T;refine zk fun T hT=>?_;refine zoT ?_;rintro _ _ ⟨rfl,rfl⟩;refine zaM ?_;clear hT T;refine zeH ?_;refine zhU ?_;refine zj ?_;refine zW ?_;refine za6 ?_;refine zB ?_;refine zbk fun T hT=>?_;refine(CallV.part (CallV.fn (hrm _)) (by first|exact ja|(simp only[hpH_app];exact ja))).mono ?_;rintro _ _ ⟨rfl,y1,h2,rfl⟩;refine ze ?_;clear hT T;refine zal ?_;refine zn ?_;refine jn (hfr _ y1 h2) ja ?_;simp only[hpH_app];refine zy ?_;refine zas ?_;refine ze1 ?_;refine zz fun T hT=>?_;refine(CallV.part (CallV.fn (hSh _ y1 h2)) (by first|exact ja|(simp only[hpH_app];exact ja))).mono ?_;rintro _ _ ⟨rfl,y2,h4,rfl⟩;refine ze ?_;clear hT T;refine zal ?_;refine zbq ?_;refine jB (hMi _ y2 h4) ja ?_;rintro _ _ ⟨rfl,y3,h5,rfl⟩;refine zfr ?_;exact KE.fin je rfl jd (by first|exact ja|(simp only[hpH_app];exact ja)) ⟨rfl,y3,h5,rfl⟩
 ·rw[if_pos he];refine zmi ?_;refine zhy ?_;intro b4 b6;refine znz ?_;refine zM ?_;refine zd5 ?_;refine zn ?_;refine zpF ?_;refine zbG ?_;exact zoQ
end
set_option maxRecDepth 10000
structure WrS where
 y:CyM
 k:Nat
def wrS (C:HpC) (h:HpP) (old to:Int) (k:Nat):HpP:=if k=0 then h else if k=1 then{h with s:=Jd C.g C.long h.s old} else{h with s:=Jd C.g C.long (Jd C.g C.long h.s old) to}
section
variable {w0 : World} {D : HpD} {nf nk n : Nat} {y y' : CyM} {h : HpP} {s s' : CyP} {F : jb} {op : OpP} {z : jq}
theorem jkP {C:HpC} {old to:Int} {k:Nat} (hk:k<2):wrS C h old to (k+1)={wrS C h old to k with s:=Jd C.g C.long (wrS C h old to k).s (if k=0 then old else to)}:=by
 match k,hk with
 |0,_=>rfl
 |1,_=>rfl
theorem hyShadeO_K {to:Int} (h1:HpR D nf nk y h) (ht: -1≤to∧to<(D.C.g.slots:Nat)) (h0:to≥0):Call Tryz.prog w0 204 [.pointer (some ⟨D.yb,0,none⟩), .int .i64 to] (hpH D y h++F) (fun r H'=>r= .int .i64 0∧HpQ D nf nk {h with s:=Jd D.C.g D.C.long h.s to} F H'):=by
 obtain⟨t,rfl⟩: ∃ t:Nat,to=(t:Nat):=⟨to.toNat,by omega⟩
 unfold Jd;rw[if_pos h0];exact jgJ h1 (by omega)
set_option maxHeartbeats 1000000 in
theorem hpwrite_K (hG:ji w0) (hD:HpDok D) (hI:HeI D.C h) (h1:HpR D nf nk y h) (hn:n<D.C.g.slots) (hv:op.v<18446744073709551616):Call Tryz.prog w0 155 [.pointer (some ⟨D.b,0,none⟩),opV op, .int .i64 (n:Nat)] (hpH D y h++F) (fun r H'=>r=snV (jaO D.C h (n:Nat) op.a op.v).1∧HpQ D nf nk (jaO D.C h (n:Nat) op.a op.v).2 F H'):=by
 obtain⟨z,hz⟩:=j9 hn
 have hC:=hD.C
 have htold:=fun A (e:Int)=>jbE (w0:=w0) (H:=A) (e:=e)
 have hfld:=fun A=>jkx (w0:=w0) (F:=A) (i:=op.a) hG h1 hz
 have hB:=fun A=>jfi (w0:=w0) (F:=A) h1
 have hSW:=fun A=>jmk (w0:=w0) (F:=A) (i:=op.a) (w:=(op.v:Nat)) hG h1 hn hz ⟨by omega,by omega⟩
 have hsl:=fun A=>jd6 (w0:=w0) (F:=A) hv h1
 have hRf:=fun A=>hyRef_K (w0:=w0) (F:=A) (i:=op.a) hG h1 hz
 have hB2:=fun A (y:CyM) (h:HpP) (h1:HpR D nf nk y h)=>jfi (w0:=w0) (F:=A) h1
 unfold jaO;rw[jW hz]
 have hlt:=ref_lt (a:=op.a) hI hn hz
 have hff:=je9 (x:=h.s.W.x) (y:=z) (i:=op.a)
 unfold HpQ at hSW⊢
 generalize ja9 h.s.W.x z op.a=fx at hfld hlt hff⊢
 obtain⟨isr,e⟩:=fx
 dsimp only at hfld hlt hff⊢;unfold opV
 by_cases he:e=0
 ·subst he;rw[if_neg (fun q=>q rfl)]
  cases isr with
  |false=>
   rw[if_pos rfl];refine zoU ?_;refine zhy ?_;intro b4 b6;simp only[hpH_app];refine zeI ?_;refine zd0 ?_;refine zag ?_;refine zt ?_;refine zaR ?_;refine zJ ?_
   (first|refine K.seq (K.drawn _ [(0,0),(1,0),(2,0),(3,0),(5,1),(6,1),(7,1),(8,1),(9,1),(4,2),(10,4),(11,4),(12,4)] (by kernel_rfl) (by kernel_rfl) (by kernel_rfl) (by kernel_rfl) (by kernel_rfl) (by kernel_rfl) Part.all ?_)|refine K.seq (K.seq (K.drawn _ [(0,0),(1,0),(2,0),(3,0),(5,1),(6,1),(7,1),(8,1),(9,1),(4,2),(10,4),(11,4),(12,4)] (by kernel_rfl) (by kernel_rfl) (by kernel_rfl) (by kernel_rfl) (by kernel_rfl) (by kernel_rfl) Part.all ?_))|refine K.drawn _ [(0,0),(1,0),(2,0),(3,0),(5,1),(6,1),(7,1),(8,1),(9,1),(4,2),(10,4),(11,4),(12,4)] (by kernel_rfl) (by kernel_rfl) (by kernel_rfl) (by kernel_rfl) (by kernel_rfl) (by kernel_rfl) Part.all ?_)
   refine zfb ?_;refine zgo ?_;refine zP ?_;refine zmd ?_;refine zcb ?_;refine zsN ?_;refine zcb ?_;refine zk fun T hT=>?_;refine zgU ?_;rintro _ _ ⟨rfl,rfl⟩;refine zaM ?_;clear hT T;refine zjb fun T hT=>?_;refine(CallV.part (CallV.fn (hSW _)) (by first|exact ja|(simp only[hpH_app];exact ja))).mono ?_;rintro _ _ ⟨rfl,y1,h2,rfl⟩;refine zi ?_;clear hT T;refine zjb fun T hT=>?_;refine(CallV.fn (htold _ _)).mono ?_;rintro _ _ ⟨rfl,rfl⟩;refine zi ?_;clear hT T;refine zsO ?_;refine zam ?_;refine zjY ?_;refine zbG ?_;exact zkX
  |true=>
   rw[if_neg (by decide)]
   have hf:=(hff rfl).1
   by_cases h3:op.v≠0∧(hpSlot D.C.tn h.s.W.T op.v).isNone=true
   ·rw[if_pos h3]
    have h30: ¬((op.v:Nat):Int)=0:=by have:=h3.1;omega
    have h31:=Option.isNone_iff_eq_none.1 h3.2
    simp only[h31,Option.getD_none,Option.isSome_none] at hsl;refine zoU ?_;refine zhy ?_;intro b4 b6;refine zeI ?_;refine zd0 ?_;refine zy ?_;refine zhh ?_;refine zds ?_;refine zaI ?_;refine zqS ?_;refine zts ?_;refine zdg ?_;refine zfS ?_;refine zj ?_;refine zag ?_;refine zd5 ?_;refine zlm ?_;refine zbG ?_;exact zkY
   ·rw[if_neg h3]
    have hto: -1≤toW D.C h op.v∧toW D.C h op.v<(D.C.g.slots:Nat):=by
     unfold toW
     split
     ·exact⟨by omega,by omega⟩
     ·rename_i q0
      cases hq:hpSlot D.C.tn h.s.W.T op.v with
      |none=>exact absurd ⟨q0,by rw[hq];rfl⟩ h3
      |some sl=>
       have:=jaG hI.ok.w (slot_named hq)
       exact⟨by show-1≤sl;have:=this.1;omega,this.2⟩
    have htv:((op.v:Nat):Int)=0∧toW D.C h op.v= -1∨ ¬((op.v:Nat):Int)=0∧ ∃ sl,hpSlot D.C.tn h.s.W.T op.v=some sl∧toW D.C h op.v=sl:=by
     unfold toW
     by_cases q0:op.v=0
     ·exact .inl ⟨by omega,if_pos q0⟩
     ·refine .inr ⟨by omega,?_⟩;rw[if_neg q0]
      cases hq:hpSlot D.C.tn h.s.W.T op.v with
      |none=>exact absurd ⟨q0,by rw[hq];rfl⟩ h3
      |some sl=>exact⟨sl,rfl,rfl⟩
    obtain⟨to,hto'⟩: ∃ to,toW D.C h op.v=to:=⟨_,rfl⟩
    rw[hto'] at hto htv⊢
    have hold: -1≤(refP h.s.W.x D.C.g.slots z op.a).1∧(refP h.s.W.x D.C.g.slots z op.a).1<(D.C.g.slots:Nat):=by
     by_cases q:(refP h.s.W.x D.C.g.slots z op.a).1<0
     ·refine⟨?_,by omega⟩
      have hw:=(h1.p.i.w.w.at_ (fAt z op.a)).1
      unfold refP;rw[if_pos hf]
      split
      ·exact(by decide:(-1:Int)≤0)
      ·show-1≤wAt h.s.W.x (fAt z op.a)-1;omega
     ·obtain⟨t,ht,htl⟩:=hlt rfl rfl q
      rw[ht];exact⟨by omega,by omega⟩
    obtain⟨old,hol⟩: ∃ old,(refP h.s.W.x D.C.g.slots z op.a).1=old:=⟨_,rfl⟩
    rw[hol] at hold⊢;simp only[hol] at hRf
    have hx2:(wrS D.C h old to 2).s.W.x=h.s.W.x:=by show(Jd D.C.g D.C.long (Jd D.C.g D.C.long h.s old) to).W.x=_;rw [jei,jei]
    have hok:(Jy h.s.W.x D.C.g.slots z op.a to).1=0:=by unfold Jy;rw [if_neg (by omega),if_pos hf]
    have hSR:=fun A (y1:CyM) (h2:HpR D nf nk y1 (wrS D.C h old to 2))=>hySetRef_K (w0:=w0) (F:=A) (i:=op.a) (to:=to) hG h2 hz
    simp only[hx2,hok] at hSR
    have hput:({wrS D.C h old to 2 with s:={(wrS D.C h old to 2).s with W:={(wrS D.C h old to 2).s.W with x:=(Jy h.s.W.x D.C.g.slots z op.a to).2}}}:HpP)={h with s:=jcD D.C.g (Jd D.C.g D.C.long (Jd D.C.g D.C.long h.s old) to) (n:Nat) op.a to}:=by
     unfold jcD
     have hxx:(Jd D.C.g D.C.long (Jd D.C.g D.C.long h.s old) to).W.x=h.s.W.x:=hx2
     rw[jW hz,hxx]
     rfl
    rw[←hput];clear hput
    have hSh:=fun A (k:Nat) (y1:CyM) (h2:HpR D nf nk y1 (wrS D.C h old to k)) (to':Int) (ht: -1≤to'∧to'<(D.C.g.slots:Nat)) (h0:to'≥0)=>hyShadeO_K (w0:=w0) (F:=A) h2 ht h0
    unfold HpQ at hSR hSh;refine zoU ?_;refine zhy ?_;intro b4 b6;refine zeI ?_;refine zd0 ?_;refine zy ?_;refine zhh ?_;refine zds ?_;refine zaI ?_;refine zqS ?_;refine zY ?_;refine zU ?_;refine K.cutT (σ:=Unit) [] jc (fun s kp_=>(0, .pointer (some ⟨D.b,0,none⟩))::(2, .int .i64 (n:Nat))::(4, .pointer (some ⟨b4,0,none⟩))::(6, .pointer (some ⟨b6,0,none⟩))::(9, .int .i64 to)::kp_) (fun s=>hpH D y h++((b4,cells [.int .u8 (op.c:Nat), .int .u64 (op.h:Nat), .int .i64 op.a, .int .i64 op.b, .int .u64 (op.v:Nat)] 36)::(b6,cells [.int .i64 0, .int .u64 0, .int .u64 0, .int .i64 0, .int .i64 0, .int .i64 0, .int .i64 0, .bool false] 43)::F)) (fun s=>True) ?_ ?_
    ·rcases htv with⟨q1,q2⟩|⟨q1,sl,q2,q3⟩
     ·subst q2;refine K.block (K.seq (K.region ?_));refine zdg ?_;refine zg3 ?_;refine zak ?_;refine zaK ?_;refine zaw ?_;exact zkx
     ·simp only[q2,Option.getD_some,Option.isSome_some];subst q3;refine K.block (K.seq (K.region ?_));refine zdg ?_;refine zfS ?_;refine zj ?_;refine zy ?_;refine zdX ?_;exact zkx
    ·rintro⟨⟩-;simp only[hpH_app];refine K.seq ?_;refine K.drawn _ [(0,0),(1,0),(2,0),(3,0),(5,1),(6,1),(7,1),(4,2),(8,2),(9,0),(10,0),(11,0),(12,0),(13,0)] (by kernel_rfl) (by kernel_rfl) (by kernel_rfl) (by kernel_rfl) (by kernel_rfl) (by kernel_rfl) Part.all ?_;refine zgj ?_;refine zP ?_;refine zft fun T hT=>?_;refine zgU ?_;rintro _ _ ⟨rfl,rfl⟩;refine zaM ?_;clear hT T;refine zk fun T hT=>?_;refine zoT ?_;rintro _ _ ⟨rfl,rfl⟩;refine zaM ?_;clear hT T;refine zeH ?_;refine zhU ?_;refine zB ?_;refine ziH ?_;refine K.loopT (σ:=WrS) [(0,_),(2,_),(4,_),(6,_),(9,_),(72,_)] (fun s kp_=>(73, .int .i64 (s.k:Nat))::kp_) (fun s=>hpH D s.y (wrS D.C h old to s.k)++((b4,cells [.int .u8 (op.c:Nat), .int .u64 (op.h:Nat), .int .i64 op.a, .int .i64 op.b, .int .u64 (op.v:Nat)] 36)::(b6,cells [.int .i64 0, .int .u64 0, .int .u64 0, .int .i64 0, .int .i64 0, .int .i64 0, .int .i64 0, .bool false] 43)::F)) (fun s=>s.k≤2∧HpR D nf nk s.y (wrS D.C h old to s.k)) (fun s=>2-s.k) (⟨y,0⟩) jc ja (⟨Nat.zero_le _,h1⟩) ?_;rintro⟨y1,k⟩ ⟨hk,h2⟩;dsimp only at hk h2⊢
     by_cases hlt2:k<2
     ·have hk01:k=0∨k=1:=by omega
      rcases hk01 with hk01|hk01
      ·subst hk01
       have hnx:wrS D.C h old to 1={wrS D.C h old to 0 with s:=Jd D.C.g D.C.long (wrS D.C h old to 0).s old}:=jkP (C:=D.C) (h:=h) (old:=old) (to:=to) (k:=0) (by decide)
       by_cases h0:old≥0
       ·have hS:=fun A=>hSh A 0 y1 h2 old hold h0
        rw[←hnx] at hS
        have hlt2':((0:Nat):Int)<2:=by decide
        simp only[hpH_app];refine zg2 ?_;refine zoV ?_;refine zap ?_;refine zac ?_;refine zak ?_;refine znw ?_;refine zz fun T hT=>?_;refine zmg ?_;rintro _ _ ⟨rfl,y2,h3,rfl⟩;refine ze ?_;clear hT T;refine zR ?_;refine zb0 ?_;exact KE.again ⟨y2,1⟩ jc (by first|exact ja|(simp only[hpH_app];exact ja)) ⟨by show 1≤2;decide,h3⟩ (by show 2-1<2-0;decide)
       ·have hS:wrS D.C h old to 1=wrS D.C h old to 0:=by rw[hnx];unfold Jd;rw [if_neg h0]
        have hlt2':((0:Nat):Int)<2:=by decide
        refine zg2 ?_;refine zoV ?_;refine zap ?_;refine zbS ?_;refine zat ?_;refine zb0 ?_;exact KE.again ⟨y1,1⟩ jc (by rw[hS];exact ja) ⟨by show 1≤2;decide,by rw[hS];exact h2⟩ (by show 2-1<2-0;decide)
      ·subst hk01
       have hnx:wrS D.C h old to 2={wrS D.C h old to 1 with s:=Jd D.C.g D.C.long (wrS D.C h old to 1).s to}:=jkP (C:=D.C) (h:=h) (old:=old) (to:=to) (k:=1) (by decide)
       by_cases h0:to≥0
       ·have hS:=fun A=>hSh A 1 y1 h2 to hto h0
        rw[←hnx] at hS
        have hlt2':((1:Nat):Int)<2:=by decide
        simp only[hpH_app];refine zg2 ?_;refine zoV ?_;refine zap ?_;refine zac ?_;refine zak ?_;refine znw ?_;refine zz fun T hT=>?_;refine zmg ?_;rintro _ _ ⟨rfl,y2,h3,rfl⟩;refine ze ?_;clear hT T;refine zR ?_;refine zb0 ?_;exact KE.again ⟨y2,2⟩ jc (by first|exact ja|(simp only[hpH_app];exact ja)) ⟨by show 2≤2;decide,h3⟩ (by show 2-2<2-1;decide)
       ·have hS:wrS D.C h old to 2=wrS D.C h old to 1:=by rw[hnx];unfold Jd;rw [if_neg h0]
        have hlt2':((1:Nat):Int)<2:=by decide
        refine zg2 ?_;refine zoV ?_;refine zap ?_;refine zbS ?_;refine zat ?_;refine zb0 ?_;exact KE.again ⟨y1,2⟩ jc (by rw[hS];exact ja) ⟨by show 2≤2;decide,by rw[hS];exact h2⟩ (by show 2-2<2-1;decide)
     ·have e2:k=2:=by omega
      subst e2
      have hlt2': ¬((2:Nat):Int)<2:=by decide
      skip
      refine za4 ?_;refine zsP ?_;refine zR ?_;refine za4 ?_;simp only[hpH_app]
      skip
      refine zJ ?_
      (first|refine K.seq (K.drawn _ [(0,0),(1,0),(2,0),(3,0),(5,1),(6,1),(7,1),(8,1),(4,2),(9,4),(10,4),(11,4)] (by kernel_rfl) (by kernel_rfl) (by kernel_rfl) (by kernel_rfl) (by kernel_rfl) (by kernel_rfl) Part.all ?_)|refine K.seq (K.seq (K.drawn _ [(0,0),(1,0),(2,0),(3,0),(5,1),(6,1),(7,1),(8,1),(4,2),(9,4),(10,4),(11,4)] (by kernel_rfl) (by kernel_rfl) (by kernel_rfl) (by kernel_rfl) (by kernel_rfl) (by kernel_rfl) Part.all ?_))|refine K.drawn _ [(0,0),(1,0),(2,0),(3,0),(5,1),(6,1),(7,1),(8,1),(4,2),(9,4),(10,4),(11,4)] (by kernel_rfl) (by kernel_rfl) (by kernel_rfl) (by kernel_rfl) (by kernel_rfl) (by kernel_rfl) Part.all ?_)
      refine zfb ?_;refine zgo ?_;refine zP ?_;refine zmd ?_;refine zeK ?_;refine zk fun T hT=>?_;refine(CallV.part (CallV.fn (hB2 _ y1 _ h2)) (by first|exact ja|(simp only[hpH_app];exact ja))).mono ?_;rintro _ _ ⟨rfl,rfl⟩;refine zaM ?_;clear hT T;refine zjb fun T hT=>?_;refine(CallV.part (CallV.fn (hSR _ y1 h2)) (by first|exact ja|(simp only[hpH_app];exact ja))).mono ?_;rintro _ _ ⟨rfl,y2,h3,rfl⟩;refine zi ?_;clear hT T;refine zjb fun T hT=>?_;refine(CallV.fn (htold _ _)).mono ?_;rintro _ _ ⟨rfl,rfl⟩;refine zi ?_;clear hT T;refine zsO ?_;refine zam ?_;refine zjY ?_;exact zqG
 ·rw[if_pos he];refine zoU ?_;refine zhy ?_;intro b4 b6;refine znz ?_;refine zM ?_;refine zd5 ?_;refine zn ?_;refine zpF ?_;refine zbG ?_;exact zkY
end
end Go.Proofs.YtebiafomiemgbaaGreatDoor.Sw
