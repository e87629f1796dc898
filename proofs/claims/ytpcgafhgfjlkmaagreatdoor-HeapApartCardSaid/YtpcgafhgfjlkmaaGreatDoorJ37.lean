/-The walker and the contracts that the law needs,part 37. -/
import Derived.Test.YtpcgafhgfjlkmaaGreatDoorD1
import Derived.ArgAppend
import Derived.ChangeMaps5
import Derived.Deep.Fields
import Derived.Deep.LoopGhost
import Derived.Deep.OwnRows
import Derived.Deep.Quiet
import Derived.Deep.Slices
import Derived.IntWalk
import Derived.Laws.Cells
import Derived.Laws.CopyOwn
import Derived.Laws.Externs
import Derived.Laws.FloatArith
import Derived.Laws.IdiomStrings
import Derived.Laws.NewFold
import Derived.Laws.StructEq
import Derived.Lib.BitFns
import Derived.Lib.Hide
import Derived.Lib.SmallJoins
import Derived.Lib.TrailingZeros
import Derived.Maps.RangeRun
import Derived.OrdersIn
import Derived.ProofKit
import Derived.RangeFuncBound
import Derived.RangeFuncCalls
import Derived.RangeFuncLeaves
import Derived.RangeFuncNested
import Derived.RecoverIn
import Derived.Shelf.Bits.Mul64
import Derived.Shelf.Slices.Turned
import Derived.Shelf.Spec.TrailingZeros
import Derived.Shelf.Strconv.Itoa0
import Derived.SizedLaws
import Derived.Sort.BigQuietIn
import Derived.StillTailTactics
import Derived.Test.YtpcgafhgfjlkmaaGreatDoorProg
import Derived.WalkKit
import Derived.Test.YtpcgafhgfjlkmaaGreatDoorJ34
import Derived.Test.YtpcgafhgfjlkmaaGreatDoorJ35
set_option linter.unusedVariables false set_option linter.unusedSimpArgs false namespace Go.Proofs.YtpcgafhgfjlkmaaGreatDoor.Sw
set_option maxHeartbeats 8000000
open Go.Proofs.YtpcgafhgfjlkmaaGreatDoor renaming lo → qL, hi → qH
open Go.RowKit
set_option linter.unusedVariables false
set_option linter.unusedSimpArgs false
set_option maxRecDepth 10000
section
variable {w0 : World} {D : HpD} {nf nk n : Nat} {y y' : CyM} {h : HpP} {s s' : CyP} {F : jb} {op : OpP} {z : jg}
theorem hpfreeV {G:jb} (nf nk:Nat) (y:CyM) (h:HpP) (h1:HpR D nf nk y h):CallV Tryz.prog w0 (.func (.func 182) #[.pointer (some ⟨D.b,0,none⟩)] #[]) [] (hpH D y h++G) (fun r H'=>r= .bool (j5 h.s)∧H'=hpH D y h++G):=
 CallV.bound (first:=[.pointer (some ⟨D.b,0,none⟩)]) (jfO h1)
theorem ref_lt {C:HpC} {h:HpP} {a:Int} (hI:HeI C h) (hn:n<C.g.slots) (hz:C.g.L[n]?=some z) (h1:(JR h.s.W.x z a).2=0) (h2:(JR h.s.W.x z a).1=true) (h3: ¬(refP h.s.W.x C.g.slots z a).1<0): ∃ t:Nat,(refP h.s.W.x C.g.slots z a).1=(t:Nat)∧t<C.g.slots:=by
 have hf:=(jcJ h1).1
 rw[h2] at hf
 obtain⟨t,ht⟩: ∃ t:Nat,(refP h.s.W.x C.g.slots z a).1=(t:Nat):=⟨((refP h.s.W.x C.g.slots z a).1).toNat,by omega⟩
 have hr:refO C.g h.s.W.x ((n:Nat):Int) a=some ((t:Nat):Int):=by
  unfold refO;rw [jC hz,if_pos ⟨je4 hI.ok.rf hz hf,by omega⟩,ht]
 exact⟨t,ht,jf0 hr⟩
theorem hpread_K (hG:js w0) (hD:HpDok D) (hI:HeI D.C h) (h1:HpR D nf nk y h) (hn:n<D.C.g.slots) (hf:nf≤1000000) (hk:nk≤100000000):Call Tryz.prog w0 133 [.pointer (some ⟨D.b,0,none⟩),opV op, .int .i64 (n:Nat)] (hpH D y h++F) (fun r H'=>r=snV (JF D.C h (n:Nat) op.a).1∧HpQ D (nf+1) (nk+200000000) (JF D.C h (n:Nat) op.a).2 F H'):=by
 obtain⟨z,hz⟩:=jY hn
 have hC:=hD.C
 have hgn:=hC.gn
 have htold:=fun A (e:Int)=>ja0 (w0:=w0) (H:=A) (e:=e)
 have hfld:=fun A=>jjB (w0:=w0) (F:=A) (i:=op.a) hG h1 hz
 have hB:=fun A=>jd8 (w0:=w0) (F:=A) h1
 have hWd:=fun A=>hyWord_K (w0:=w0) (F:=A) (i:=op.a) hG h1 hz
 have hRf:=fun A=>hyRef_K (w0:=w0) (F:=A) (i:=op.a) hG h1 hz
 have hrm:=fun A=>jkx (w0:=w0) (G:=A) (is:=j5) hG hD hI h1 hf hk hpfreeV
 have hI2:=hI.mvs hC (jcS (wr:=true) hC hI (is:=j5))
 have hfr:=fun A (y1:CyM) (h2:HpR D (nf+1) (nk+200000000) y1 (Jz D.C j5 h))=>jfO (w0:=w0) (F:=A) h2
 unfold JF;rw[jC hz]
 have hlt:=ref_lt (a:=op.a) hI hn hz
 unfold HpQ at hrm⊢
 generalize JR h.s.W.x z op.a=fx at hfld hlt⊢
 obtain⟨isr,e⟩:=fx
 dsimp only at hfld hlt⊢;unfold opV
 by_cases he:e=0
 ·subst he;rw[if_neg (fun q=>q rfl)]
  cases isr with
  |false=>
   rw[if_pos rfl];refine zik ?_;refine zfI ?_;intro b4 b6;simp only[hpH_app];refine zdq ?_;refine zdg ?_;refine zU ?_;refine zk ?_;refine zhi ?_;refine zil ?_;refine zeI ?_;refine zH ?_;refine zeL ?_;refine zl fun T hT=>?_;refine zfb ?_;rintro _ _ ⟨rfl,rfl⟩;refine zak ?_;clear hT T;refine zl fun T hT=>?_;refine(CallV.part (CallV.fn (hWd _)) (by first|exact ja|(simp only[hpH_app];exact ja))).mono ?_;rintro _ _ ⟨rfl,rfl⟩;refine zak ?_;clear hT T;refine zdp ?_;refine zaf ?_;refine zco ?_;refine zht ?_;refine zcd ?_;exact zjF
  |true=>
   rw[if_neg (by decide)]
   by_cases h3:(refP h.s.W.x D.C.g.slots z op.a).1<0
   ·rw[if_pos h3];refine zik ?_;refine zfI ?_;intro b4 b6;simp only[hpH_app];refine zdq ?_;refine zdg ?_;refine zE ?_;refine zdd ?_;refine za1 ?_;refine zil ?_;refine zeI ?_;refine zH ?_;refine zeL ?_;refine zl fun T hT=>?_;refine zfb ?_;rintro _ _ ⟨rfl,rfl⟩;refine zak ?_;clear hT T;refine zl fun T hT=>?_;refine zjG ?_;rintro _ _ ⟨rfl,rfl⟩;refine zak ?_;clear hT T;refine zdp ?_;refine zev ?_;refine ze ?_;refine zab ?_;refine zac ?_;refine zfz ?_;refine zbE ?_;exact zjF
   ·rw[if_neg h3]
    obtain⟨t,ht,htl⟩:=hlt rfl rfl h3
    rw[ht];simp only[ht] at hRf
    have h0t: ¬((t:Nat):Int)<0:=by omega
    cases hb:j5 (Jz D.C j5 h).s with
    |false=>
     simp only[hb] at hfr;rw[if_pos rfl];refine zik ?_;refine zfI ?_;intro b4 b6;simp only[hpH_app];refine zdq ?_;refine zdg ?_;refine zE ?_;refine zdd ?_;refine za1 ?_;refine zil ?_;refine zeI ?_;refine zH ?_;refine zeL ?_;refine zl fun T hT=>?_;refine zfb ?_;rintro _ _ ⟨rfl,rfl⟩;refine zak ?_;clear hT T;refine zl fun T hT=>?_;refine zjG ?_;rintro _ _ ⟨rfl,rfl⟩;refine zak ?_;clear hT T;refine zdp ?_;refine zev ?_;refine ze ?_;refine zT ?_;refine z9 ?_;refine zm ?_;refine zaJ fun T hT=>?_;refine(CallV.part (CallV.fn (hrm _)) (by first|exact ja|(simp only[hpH_app];exact ja))).mono ?_;rintro _ _ ⟨rfl,y1,h2,rfl⟩;refine zd ?_;clear hT T;refine zW ?_;refine zo ?_;refine ji (hfr _ y1 h2) ja ?_;refine zU ?_;refine zjX ?_;exact zhj
    |true=>
     simp only[hb] at hfr;rw[if_neg (by decide)]
     have hT:=Jh (g:=D.C.g) (long:=D.C.long) (s:=(Jz D.C j5 h).s) ((t:Nat):Int)
     have hSh:=fun A (y1:CyM) (h2:HpR D (nf+1) (nk+200000000) y1 (Jz D.C j5 h))=>jfu (w0:=w0) (F:=A) h2 htl
     have hMi:=fun A (y1:CyM) (h2:HpR D (nf+1) (nk+200000000) y1 {Jz D.C j5 h with s:=shdC D.C.g D.C.long (Jz D.C j5 h).s (t:Nat)})=>jky (w0:=w0) (F:=A) hD h2 (by rw[hT];exact fun e he=>⟨(hI2.e e he).1,Int.le_trans (hI2.e e he).2 hgn.2⟩) htl (by rw[hT];exact freeB_some hb)
     dsimp only at hMi;rw[←hT];clear hT;unfold HpQ at hSh hMi;refine zik ?_;refine zfI ?_;intro b4 b6;simp only[hpH_app];refine zdq ?_;refine zdg ?_;refine zE ?_;refine zdd ?_;refine za1 ?_;refine zil ?_;refine zeI ?_;refine zH ?_;refine zeL ?_;refine zl fun T hT=>?_;refine zfb ?_;rintro _ _ ⟨rfl,rfl⟩;refine zak ?_;clear hT T;refine zl fun T hT=>?_;refine zjG ?_;rintro _ _ ⟨rfl,rfl⟩;refine zak ?_;clear hT T;refine zdp ?_;refine zev ?_;refine ze ?_;refine zT ?_;refine z9 ?_;refine zm ?_;refine zaJ fun T hT=>?_;refine(CallV.part (CallV.fn (hrm _)) (by first|exact ja|(simp only[hpH_app];exact ja))).mono ?_;rintro _ _ ⟨rfl,y1,h2,rfl⟩;refine zd ?_;clear hT T;refine zW ?_;refine zo ?_;refine ji (hfr _ y1 h2) ja ?_;simp only[hpH_app];refine zE ?_;refine zR ?_;refine za2 ?_;refine zb6 fun T hT=>?_;refine(CallV.part (CallV.fn (hSh _ y1 h2)) (by first|exact ja|(simp only[hpH_app];exact ja))).mono ?_;rintro _ _ ⟨rfl,y2,h4,rfl⟩;refine zd ?_;clear hT T;refine zW ?_;refine zat ?_;refine j4 (hMi _ y2 h4) ja ?_;rintro _ _ ⟨rfl,y3,h5,rfl⟩;refine zfz ?_;exact KE.fin je rfl jd (by first|exact ja|(simp only[hpH_app];exact ja)) ⟨rfl,y3,h5,rfl⟩
 ·rw[if_pos he];refine zik ?_;refine zfI ?_;intro b4 b6;refine zhy ?_;refine ze ?_;refine zag ?_;refine zk ?_;refine zac ?_;refine zo ?_;refine zhx ?_;refine zcd ?_;exact zjF
end
set_option maxRecDepth 10000
structure WrS where
 y:CyM
 k:Nat
def wrS (C:HpC) (h:HpP) (old to:Int) (k:Nat):HpP:=if k=0 then h else if k=1 then{h with s:=jM C.g C.long h.s old} else{h with s:=jM C.g C.long (jM C.g C.long h.s old) to}
section
variable {w0 : World} {D : HpD} {nf nk n : Nat} {y y' : CyM} {h : HpP} {s s' : CyP} {F : jb} {op : OpP} {z : jg}
theorem jjS {C:HpC} {old to:Int} {k:Nat} (hk:k<2):wrS C h old to (k+1)={wrS C h old to k with s:=jM C.g C.long (wrS C h old to k).s (if k=0 then old else to)}:=by
 match k,hk with
 |0,_=>rfl
 |1,_=>rfl
theorem jme {to:Int} (h1:HpR D nf nk y h) (ht: -1≤to∧to<(D.C.g.slots:Nat)) (h0:to≥0):Call Tryz.prog w0 191 [.pointer (some ⟨D.yb,0,none⟩), .int .i64 to] (hpH D y h++F) (fun r H'=>r= .int .i64 0∧HpQ D nf nk {h with s:=jM D.C.g D.C.long h.s to} F H'):=by
 obtain⟨t,rfl⟩: ∃ t:Nat,to=(t:Nat):=⟨to.toNat,by omega⟩
 unfold jM;rw[if_pos h0];exact jfu h1 (by omega)
set_option maxHeartbeats 1000000 in
theorem hpwrite_K (hG:js w0) (hD:HpDok D) (hI:HeI D.C h) (h1:HpR D nf nk y h) (hn:n<D.C.g.slots) (hv:op.v<18446744073709551616):Call Tryz.prog w0 134 [.pointer (some ⟨D.b,0,none⟩),opV op, .int .i64 (n:Nat)] (hpH D y h++F) (fun r H'=>r=snV (JZ D.C h (n:Nat) op.a op.v).1∧HpQ D nf nk (JZ D.C h (n:Nat) op.a op.v).2 F H'):=by
 obtain⟨z,hz⟩:=jY hn
 have hC:=hD.C
 have htold:=fun A (e:Int)=>ja0 (w0:=w0) (H:=A) (e:=e)
 have hfld:=fun A=>jjB (w0:=w0) (F:=A) (i:=op.a) hG h1 hz
 have hB:=fun A=>jd8 (w0:=w0) (F:=A) h1
 have hSW:=fun A=>jlD (w0:=w0) (F:=A) (i:=op.a) (w:=(op.v:Nat)) hG h1 hn hz ⟨by omega,by omega⟩
 have hsl:=fun A=>jcW (w0:=w0) (F:=A) hv h1
 have hRf:=fun A=>hyRef_K (w0:=w0) (F:=A) (i:=op.a) hG h1 hz
 have hB2:=fun A (y:CyM) (h:HpP) (h1:HpR D nf nk y h)=>jd8 (w0:=w0) (F:=A) h1
 unfold JZ;rw[jC hz]
 have hlt:=ref_lt (a:=op.a) hI hn hz
 have hff:=jcJ (x:=h.s.W.x) (y:=z) (i:=op.a)
 unfold HpQ at hSW⊢
 generalize JR h.s.W.x z op.a=fx at hfld hlt hff⊢
 obtain⟨isr,e⟩:=fx
 dsimp only at hfld hlt hff⊢;unfold opV
 by_cases he:e=0
 ·subst he;rw[if_neg (fun q=>q rfl)]
  cases isr with
  |false=>
   rw[if_pos rfl];refine zjH ?_;refine zfI ?_;intro b4 b6;simp only[hpH_app];refine zdq ?_;refine zdg ?_;refine zU ?_;refine zk ?_;refine zcI ?_;refine zar ?_
   (first|refine K.seq (K.drawn _ [(0,0),(1,0),(2,0),(3,0),(5,1),(6,1),(7,1),(8,1),(9,1),(4,2),(10,4),(11,4),(12,4)] (by kernel_rfl) (by kernel_rfl) (by kernel_rfl) (by kernel_rfl) (by kernel_rfl) (by kernel_rfl) Part.all ?_)|refine K.seq (K.seq (K.drawn _ [(0,0),(1,0),(2,0),(3,0),(5,1),(6,1),(7,1),(8,1),(9,1),(4,2),(10,4),(11,4),(12,4)] (by kernel_rfl) (by kernel_rfl) (by kernel_rfl) (by kernel_rfl) (by kernel_rfl) (by kernel_rfl) Part.all ?_))|refine K.drawn _ [(0,0),(1,0),(2,0),(3,0),(5,1),(6,1),(7,1),(8,1),(9,1),(4,2),(10,4),(11,4),(12,4)] (by kernel_rfl) (by kernel_rfl) (by kernel_rfl) (by kernel_rfl) (by kernel_rfl) (by kernel_rfl) Part.all ?_)
   refine zfv ?_;refine zgD ?_;refine zS ?_;refine zH ?_;refine zjy ?_;refine zc6 ?_
   (first|refine KD.v1 rfl rfl (Val.fieldSl (k:=4) rfl rfl) ?_|refine KD.v1 rfl rfl (Val.fieldAddr0 (k:=4) rfl rfl) ?_|refine KD.v1 rfl rfl (Val.fieldAddrZ rfl rfl) ?_|refine KD.v1 rfl rfl (Val.fieldAddr (k:=4) rfl rfl) ?_)
   refine zc6 ?_;refine zl fun T hT=>?_;refine zfb ?_;rintro _ _ ⟨rfl,rfl⟩;refine zak ?_;clear hT T;refine zgE fun T hT=>?_;refine(CallV.part (CallV.fn (hSW _)) (by first|exact ja|(simp only[hpH_app];exact ja))).mono ?_;rintro _ _ ⟨rfl,y1,h2,rfl⟩;refine zg ?_;clear hT T;refine zgE fun T hT=>?_;refine(CallV.fn (htold _ _)).mono ?_;rintro _ _ ⟨rfl,rfl⟩;refine zg ?_;clear hT T;refine zmc ?_;refine zD ?_;refine zgL ?_;refine zcd ?_;exact zhj
  |true=>
   rw[if_neg (by decide)]
   have hf:=(hff rfl).1
   by_cases h3:op.v≠0∧(hpSlot D.C.tn h.s.W.T op.v).isNone=true
   ·rw[if_pos h3]
    have h30: ¬((op.v:Nat):Int)=0:=by have:=h3.1;omega
    have h31:=Option.isNone_iff_eq_none.1 h3.2
    simp only[h31,Option.getD_none,Option.isSome_none] at hsl;refine zjH ?_;refine zfI ?_;intro b4 b6;refine zdq ?_;refine zdg ?_;refine zE ?_;refine zay ?_;refine ze ?_;refine zah ?_;refine zV ?_;refine zkN ?_;refine zhy ?_;refine zah ?_;refine zeK ?_;refine zdg ?_;refine zU ?_;refine zk ?_;refine zjV ?_;refine zcd ?_;exact zhk
   ·rw[if_neg h3]
    have hto: -1≤toW D.C h op.v∧toW D.C h op.v<(D.C.g.slots:Nat):=by
     unfold toW
     split
     ·exact⟨by omega,by omega⟩
     ·rename_i q0
      cases hq:hpSlot D.C.tn h.s.W.T op.v with
      |none=>exact absurd ⟨q0,by rw[hq];rfl⟩ h3
      |some sl=>
       have:=J8 hI.ok.w (jai hq)
       exact⟨by show-1≤sl;have:=this.1;omega,this.2⟩
    have htv:((op.v:Nat):Int)=0∧toW D.C h op.v= -1∨ ¬((op.v:Nat):Int)=0∧ ∃ sl,hpSlot D.C.tn h.s.W.T op.v=some sl∧toW D.C h op.v=sl:=by
     unfold toW
     by_cases q0:op.v=0
     ·exact .inl ⟨by omega,if_pos q0⟩
     ·refine .inr ⟨by omega,?_⟩;rw[if_neg q0]
      cases hq:hpSlot D.C.tn h.s.W.T op.v with
      |none=>exact absurd ⟨q0,by rw[hq];rfl⟩ h3
      |some sl=>exact⟨sl,rfl,rfl⟩
    obtain⟨to,hto'⟩: ∃ to,toW D.C h op.v=to:=⟨_,rfl⟩
    rw[hto'] at hto htv⊢
    have hold: -1≤(refP h.s.W.x D.C.g.slots z op.a).1∧(refP h.s.W.x D.C.g.slots z op.a).1<(D.C.g.slots:Nat):=by
     by_cases q:(refP h.s.W.x D.C.g.slots z op.a).1<0
     ·refine⟨?_,by omega⟩
      have hw:=(h1.p.i.w.w.at_ (fAt z op.a)).1
      unfold refP;rw[if_pos hf]
      split
      ·exact(by decide:(-1:Int)≤0)
      ·show-1≤wAt h.s.W.x (fAt z op.a)-1;omega
     ·obtain⟨t,ht,htl⟩:=hlt rfl rfl q
      rw[ht];exact⟨by omega,by omega⟩
    obtain⟨old,hol⟩: ∃ old,(refP h.s.W.x D.C.g.slots z op.a).1=old:=⟨_,rfl⟩
    rw[hol] at hold⊢;simp only[hol] at hRf
    have hx2:(wrS D.C h old to 2).s.W.x=h.s.W.x:=by show(jM D.C.g D.C.long (jM D.C.g D.C.long h.s old) to).W.x=_;rw [jb6,jb6]
    have hok:(Jl h.s.W.x D.C.g.slots z op.a to).1=0:=by unfold Jl;rw [if_neg (by omega),if_pos hf]
    have hSR:=fun A (y1:CyM) (h2:HpR D nf nk y1 (wrS D.C h old to 2))=>jmf (w0:=w0) (F:=A) (i:=op.a) (to:=to) hG h2 hz
    simp only[hx2,hok] at hSR
    have hput:({wrS D.C h old to 2 with s:={(wrS D.C h old to 2).s with W:={(wrS D.C h old to 2).s.W with x:=(Jl h.s.W.x D.C.g.slots z op.a to).2}}}:HpP)={h with s:=jbZ D.C.g (jM D.C.g D.C.long (jM D.C.g D.C.long h.s old) to) (n:Nat) op.a to}:=by
     unfold jbZ
     have hxx:(jM D.C.g D.C.long (jM D.C.g D.C.long h.s old) to).W.x=h.s.W.x:=hx2
     rw[jC hz,hxx]
     rfl
    rw[←hput];clear hput
    have hSh:=fun A (k:Nat) (y1:CyM) (h2:HpR D nf nk y1 (wrS D.C h old to k)) (to':Int) (ht: -1≤to'∧to'<(D.C.g.slots:Nat)) (h0:to'≥0)=>jme (w0:=w0) (F:=A) h2 ht h0
    unfold HpQ at hSR hSh;refine zjH ?_;refine zfI ?_;intro b4 b6;refine zdq ?_;refine zdg ?_;refine zE ?_;refine zay ?_;refine ze ?_;refine zah ?_;refine zV ?_;refine zkN ?_;refine zcw ?_;refine zaY ?_;refine K.cutT (σ:=Unit) [] jj (fun s kp_=>(0, .pointer (some ⟨D.b,0,none⟩))::(2, .int .i64 (n:Nat))::(4, .pointer (some ⟨b4,0,none⟩))::(6, .pointer (some ⟨b6,0,none⟩))::(9, .int .i64 to)::kp_) (fun s=>hpH D y h++((b4,cells [.int .u8 (op.c:Nat), .int .u64 (op.h:Nat), .int .i64 op.a, .int .i64 op.b, .int .u64 (op.v:Nat)] 35)::(b6,cells [.int .i64 0, .int .u64 0, .int .u64 0, .int .i64 0, .int .i64 0, .int .i64 0, .int .i64 0, .bool false] 42)::F)) (fun s=>True) ?_ ?_
    ·rcases htv with⟨q1,q2⟩|⟨q1,sl,q2,q3⟩
     ·subst q2;refine K.block (K.seq (K.region ?_));refine zah ?_;refine zp ?_;refine zfu ?_;refine zaS ?_;refine zbY ?_;refine zbD ?_;exact zgX
     ·simp only[q2,Option.getD_some,Option.isSome_some];subst q3;refine K.block (K.seq (K.region ?_));refine zah ?_;refine zeK ?_;refine zdg ?_;refine zE ?_;refine zdd ?_;exact zgX
    ·rintro⟨⟩-;simp only[hpH_app];refine K.seq ?_;refine zil ?_;refine zeI ?_;refine zH ?_;refine zeL ?_;refine zl fun T hT=>?_;refine zfb ?_;rintro _ _ ⟨rfl,rfl⟩;refine zak ?_;clear hT T;refine zl fun T hT=>?_;refine zjG ?_;rintro _ _ ⟨rfl,rfl⟩;refine zak ?_;clear hT T;refine zdp ?_;refine zev ?_;refine zm ?_;refine zM ?_;refine zcH ?_;refine K.loopT (σ:=WrS) [(0,_),(2,_),(4,_),(6,_),(9,_),(72,_)] (fun s kp_=>(73, .int .i64 (s.k:Nat))::kp_) (fun s=>hpH D s.y (wrS D.C h old to s.k)++((b4,cells [.int .u8 (op.c:Nat), .int .u64 (op.h:Nat), .int .i64 op.a, .int .i64 op.b, .int .u64 (op.v:Nat)] 35)::(b6,cells [.int .i64 0, .int .u64 0, .int .u64 0, .int .i64 0, .int .i64 0, .int .i64 0, .int .i64 0, .bool false] 42)::F)) (fun s=>s.k≤2∧HpR D nf nk s.y (wrS D.C h old to s.k)) (fun s=>2-s.k) (⟨y,0⟩) jj ja (⟨Nat.zero_le _,h1⟩) ?_;rintro⟨y1,k⟩ ⟨hk,h2⟩;dsimp only at hk h2⊢
     by_cases hlt2:k<2
     ·have hk01:k=0∨k=1:=by omega
      rcases hk01 with hk01|hk01
      ·subst hk01
       have hnx:wrS D.C h old to 1={wrS D.C h old to 0 with s:=jM D.C.g D.C.long (wrS D.C h old to 0).s old}:=jjS (C:=D.C) (h:=h) (old:=old) (to:=to) (k:=0) (by decide)
       by_cases h0:old≥0
       ·have hS:=fun A=>hSh A 0 y1 h2 old hold h0
        rw[←hnx] at hS
        have hlt2':((0:Nat):Int)<2:=by decide
        simp only[hpH_app];refine zaN ?_;refine zjI ?_;refine zcA ?_;refine zaz ?_;refine zaS ?_;refine ziv ?_;refine zb6 fun T hT=>?_;refine zig ?_;rintro _ _ ⟨rfl,y2,h3,rfl⟩;refine zd ?_;clear hT T;refine zN ?_;refine zcS ?_;exact KE.again ⟨y2,1⟩ jj (by first|exact ja|(simp only[hpH_app];exact ja)) ⟨by show 1≤2;decide,h3⟩ (by show 2-1<2-0;decide)
       ·have hS:wrS D.C h old to 1=wrS D.C h old to 0:=by rw[hnx];unfold jM;rw [if_neg h0]
        have hlt2':((0:Nat):Int)<2:=by decide
        refine zaN ?_;refine zjI ?_;refine zcA ?_;refine zbO ?_;refine zbq ?_;refine zcS ?_;exact KE.again ⟨y1,1⟩ jj (by rw[hS];exact ja) ⟨by show 1≤2;decide,by rw[hS];exact h2⟩ (by show 2-1<2-0;decide)
      ·subst hk01
       have hnx:wrS D.C h old to 2={wrS D.C h old to 1 with s:=jM D.C.g D.C.long (wrS D.C h old to 1).s to}:=jjS (C:=D.C) (h:=h) (old:=old) (to:=to) (k:=1) (by decide)
       by_cases h0:to≥0
       ·have hS:=fun A=>hSh A 1 y1 h2 to hto h0
        rw[←hnx] at hS
        have hlt2':((1:Nat):Int)<2:=by decide
        simp only[hpH_app];refine zaN ?_;refine zjI ?_;refine zcA ?_;refine zaz ?_;refine zaS ?_;refine ziv ?_;refine zb6 fun T hT=>?_;refine zig ?_;rintro _ _ ⟨rfl,y2,h3,rfl⟩;refine zd ?_;clear hT T;refine zN ?_;refine zcS ?_;exact KE.again ⟨y2,2⟩ jj (by first|exact ja|(simp only[hpH_app];exact ja)) ⟨by show 2≤2;decide,h3⟩ (by show 2-2<2-1;decide)
       ·have hS:wrS D.C h old to 2=wrS D.C h old to 1:=by rw[hnx];unfold jM;rw [if_neg h0]
        have hlt2':((1:Nat):Int)<2:=by decide
        refine zaN ?_;refine zjI ?_;refine zcA ?_;refine zbO ?_;refine zbq ?_;refine zcS ?_;exact KE.again ⟨y1,2⟩ jj (by rw[hS];exact ja) ⟨by show 2≤2;decide,by rw[hS];exact h2⟩ (by show 2-2<2-1;decide)
     ·have e2:k=2:=by omega
      subst e2
      have hlt2': ¬((2:Nat):Int)<2:=by decide
      skip
      refine zdJ ?_;refine zmd ?_;refine zN ?_;refine zdJ ?_;simp only[hpH_app]
      skip
      refine zar ?_
      (first|refine K.seq (K.drawn _ [(0,0),(1,0),(2,0),(3,0),(5,1),(6,1),(7,1),(8,1),(4,2),(9,4),(10,4),(11,4)] (by kernel_rfl) (by kernel_rfl) (by kernel_rfl) (by kernel_rfl) (by kernel_rfl) (by kernel_rfl) Part.all ?_)|refine K.seq (K.seq (K.drawn _ [(0,0),(1,0),(2,0),(3,0),(5,1),(6,1),(7,1),(8,1),(4,2),(9,4),(10,4),(11,4)] (by kernel_rfl) (by kernel_rfl) (by kernel_rfl) (by kernel_rfl) (by kernel_rfl) (by kernel_rfl) Part.all ?_))|refine K.drawn _ [(0,0),(1,0),(2,0),(3,0),(5,1),(6,1),(7,1),(8,1),(4,2),(9,4),(10,4),(11,4)] (by kernel_rfl) (by kernel_rfl) (by kernel_rfl) (by kernel_rfl) (by kernel_rfl) (by kernel_rfl) Part.all ?_)
      refine zfv ?_;refine zgD ?_;refine zS ?_;refine zH ?_;refine zjy ?_;refine zcm ?_;refine zl fun T hT=>?_;refine(CallV.part (CallV.fn (hB2 _ y1 _ h2)) (by first|exact ja|(simp only[hpH_app];exact ja))).mono ?_;rintro _ _ ⟨rfl,rfl⟩;refine zak ?_;clear hT T;refine zgE fun T hT=>?_;refine(CallV.part (CallV.fn (hSR _ y1 h2)) (by first|exact ja|(simp only[hpH_app];exact ja))).mono ?_;rintro _ _ ⟨rfl,y2,h3,rfl⟩;refine zg ?_;clear hT T;refine zgE fun T hT=>?_;refine(CallV.fn (htold _ _)).mono ?_;rintro _ _ ⟨rfl,rfl⟩;refine zg ?_;clear hT T;refine zmc ?_;refine zD ?_;refine zgL ?_;exact zkG
 ·rw[if_pos he];refine zjH ?_;refine zfI ?_;intro b4 b6;refine zhy ?_;refine ze ?_;refine zag ?_;refine zk ?_;refine zac ?_;refine zo ?_;refine zhx ?_;refine zcd ?_;exact zhk
end
end Go.Proofs.YtpcgafhgfjlkmaaGreatDoor.Sw
