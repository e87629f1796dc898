/-The walker and the contracts that the law needs,part 15. -/
import Derived.Test.YtpcgafhgfjlkmaaGreatDoorD1
import Derived.Shelf.Spec.TrailingZeros
import Derived.ArgAppend
import Derived.ChangeMaps5
import Derived.Deep.Fields
import Derived.Deep.LoopGhost
import Derived.Deep.OwnRows
import Derived.Deep.Quiet
import Derived.Deep.Slices
import Derived.IntWalk
import Derived.Laws.Cells
import Derived.Laws.CopyOwn
import Derived.Laws.Externs
import Derived.Laws.FloatArith
import Derived.Laws.IdiomStrings
import Derived.Laws.NewFold
import Derived.Laws.StructEq
import Derived.Lib.BitFns
import Derived.Lib.Hide
import Derived.Lib.SmallJoins
import Derived.Lib.TrailingZeros
import Derived.Maps.RangeRun
import Derived.OrdersIn
import Derived.ProofKit
import Derived.RangeFuncBound
import Derived.RangeFuncCalls
import Derived.RangeFuncLeaves
import Derived.RangeFuncNested
import Derived.RecoverIn
import Derived.Shelf.Bits.Mul64
import Derived.Shelf.Slices.Turned
import Derived.Shelf.Strconv.Itoa0
import Derived.SizedLaws
import Derived.Sort.BigQuietIn
import Derived.StillTailTactics
import Derived.Test.YtpcgafhgfjlkmaaGreatDoorProg
import Derived.WalkKit
import Derived.Test.YtpcgafhgfjlkmaaGreatDoorJ14
set_option linter.unusedVariables false set_option linter.unusedSimpArgs false set_option linter.unusedVariables false
set_option linter.unusedSimpArgs false
namespace Go.Proofs.YtpcgafhgfjlkmaaGreatDoor.Sw
set_option maxHeartbeats 8000000
open Go.Proofs.YtpcgafhgfjlkmaaGreatDoor renaming lo → qL, hi → qH
open Go.RowKit
set_option maxRecDepth 10000
def wdL:List Nat:=[16,16,16,8,8]
structure js (w:World):Prop where
 tab:TabAt 2 Lib.deBruijn64tab w
 wd: ∀ j n,wdL[j]?=some n→w.cell? ⟨0,j,none⟩=some (.int .i64 (n:Nat))
theorem js.only {w w':World} (h:js w) (ho:jV [] w w'):js w':=⟨fun j hj=>jhf ho (h.tab j hj),fun j n hn=>jhf ho (h.wd j n hn)⟩
theorem neg_nat {x:Nat} (h0:x≠0) (h:x<18446744073709551616):IntKind.u64.wrap (-(x:Int))=((18446744073709551616-x:Nat):Int):=by
 rw[IntKind.wrap_u64];omega
theorem ctz_K {w0:World} {H:jb} (hG:js w0) {x:Nat} (h:x<18446744073709551616) (h0:x≠0):
  Call Tryz.prog w0 275 [.int .u64 (x:Nat)] H (fun r H'=>r= .int .i64 (Lib.ctz 64 x:Nat)∧H'=H):=by
 obtain⟨hlow,hk⟩:=Lib.lowest_bit 64 x h0 h
 obtain⟨hi,htab⟩:=Lib.deBruijn64_at _ hk
 have hcell:=hG.tab _ hi
 have hx0: ¬(x:Int)=0:=by omega
 have hxl:18446744073709551616-x<18446744073709551616:=by omega
 have hlow':x&&&(18446744073709551616-x)=2^Lib.ctz 64 x:=hlow
 have hpw:=jgm hk
 obtain⟨c,hc⟩: ∃ c,c=Lib.ctz 64 x:=⟨_,rfl⟩
 rw[←hc] at hlow' hi htab hpw hcell hk⊢
 have hml:2^c*285870213051353865%18446744073709551616<18446744073709551616:=Nat.mod_lt _ (by decide)
 obtain⟨p,hp⟩: ∃ p,p=2^c:=⟨_,rfl⟩
 rw[←hp] at hlow' hi htab hpw hcell hml
 obtain⟨y,hy⟩: ∃ y,y=p*285870213051353865%18446744073709551616:=⟨_,rfl⟩
 have hmul:IntKind.u64.wrap ((p:Int)*285870213051353865)=(y:Int):=by
  rw[IntKind.wrap_u64,hy];omega
 rw[←hy] at hi htab hcell hml;clear hy
 obtain⟨idx,hidx⟩: ∃ idx,idx=y/288230376151711744:=⟨_,rfl⟩
 have hsh:(y:Int).fdiv (2^(min (Int.toNat 58) IntKind.u64.bits))=(idx:Int):=by
  have e:(2:Int)^(min (Int.toNat 58) IntKind.u64.bits)=288230376151711744:=by decide
  grind
 rw[←hidx] at hi htab hcell;rw[htab] at hcell
 have hidx':(idx:Int)<64:=by omega
 have hse:jI w0 H ⟨2,0+Int.toNat ((idx:Nat):Int)*1,none⟩ (.int .u8 (c:Nat)):=by
  rw[show 0+Int.toNat ((idx:Nat):Int)*1=idx by simp];exact jI.old hcell
 refine Call.enter1 (n:=14) (by rfl) Tryz.func275 rfl rfl rfl ?_;refine zaa ?_;refine zG ?_;refine zaR ?_;refine zbm ?_
 (first|(refine KL.v rfl (Val.neg rfl (by simp only[qL,qH];omega)) ?_)|(refine KL.v rfl (Val.negW rfl) ?_))
 rw[neg_nat h0 h];refine zgs ?_;rw[jc2 h hxl,hlow']
 (first|(refine KL.v rfl (Val.mul rfl rfl (by simp only[qL,qH];omega)) ?_)|(refine KL.v rfl (Val.mulW rfl rfl) ?_))
 rw[hmul];refine zdK ?_;rw[hsh];refine ze1 ?_;refine z8 ?_;refine ze2 ?_;exact zt
def nextB (bs:List Bool) (k:Nat) (v:Bool):Option Nat:=(List.range bs.length).find? fun i=>decide (k≤i)&&((bs[i]?).getD false==v)
theorem jl5 {bs:List Bool} {k i:Nat} {v:Bool} (hi:i<bs.length) (hk:k≤i) (hv:(bs[i]?).getD false=v) (hl: ∀ j,k≤j→j<i→(bs[j]?).getD false≠v):nextB bs k v=some i:=by
 unfold nextB;rw[List.find?_range_eq_some]
 grind
theorem ji2 {bs:List Bool} {k:Nat} {v:Bool} (h: ∀ j,k≤j→j<bs.length→(bs[j]?).getD false≠v):nextB bs k v=none:=by
 grind[nextB]
theorem jcV {bs:List Bool} {k i:Nat} {v:Bool} (h:nextB bs k v=some i):i<bs.length∧k≤i∧(bs[i]?).getD false=v∧ ∀ j,k≤j→j<i→(bs[j]?).getD false≠v:=by
 unfold nextB at h;rw[List.find?_range_eq_some] at h
 grind
def turnN (v:Bool):Nat:=if v then 0 else 18446744073709551615
theorem jh1 (v:Bool):turnN v<18446744073709551616:=by grind[turnN]
def jci (k q:Nat):Nat:=if q=k/64 then 2^(k%64)-1 else 0
theorem jkS (k q:Nat):jci k q<18446744073709551616:=by
 grind[jci,jgm]
def leftN (bs:List Bool) (k:Nat) (v:Bool) (q:Nat):Nat:=lessN (wordN bs q^^^turnN v) (jci k q)
theorem xor_lt {a b:Nat} (ha:a<18446744073709551616) (hb:b<18446744073709551616):a^^^b<18446744073709551616:=Nat.xor_lt_two_pow (n:=64) (by omega) (by omega)
theorem left_lt (bs:List Bool) (k:Nat) (v:Bool) (q:Nat):leftN bs k v q<18446744073709551616:=jku (xor_lt (jfC _ _) (jh1 _))
theorem left_bit {bs:List Bool} {k q t:Nat} {v:Bool} (hq:k/64≤q) (ht:t<64):(leftN bs k v q).testBit t=(((bs[64*q+t]?).getD false==v)&&decide (k≤64*q+t)):=by
 unfold leftN;rw[jhc (jkS _ _),Nat.testBit_xor,jez]
 have e1:(turnN v).testBit t=!v:=by
  unfold turnN
  cases v
  ·simp only[Bool.false_eq_true,if_false];rw[show(18446744073709551615:Nat)=2^64-1 by decide,Nat.testBit_two_pow_sub_one];grind
  grind
 grind[jci]
structure FrS where
 q:Nat
 A:jb
def frM (bi br bt k:Nat) (v:Bool) (rb:Nat):jb:=[(bi,cells [.int .i64 (k:Nat)] 3),(br,cells [.pointer (some ⟨rb,0,none⟩)] 113),(bt,cells [.int .u64 (turnN v:Nat)] 33)]
theorem jc0 {bi br bt k:Nat} {v:Bool} {rb:Nat} {F:jb}:frM bi br bt k v rb++F=(bi,cells [.int .i64 (k:Nat)] 3)::(br,cells [.pointer (some ⟨rb,0,none⟩)] 113)::(bt,cells [.int .u64 (turnN v:Nat)] 33)::F:=rfl
theorem from1_K {w0:World} {F A0:jb} {r:jan} {k bi br bt:Nat} {v:Bool} {yv:Value} (ok:RowOk r) (J:Nat→jb→Prop) (E:jb→Prop) (hk:k≤65536)
  (hy: ∀ q A,k/64≤q→q<(wordsOf r.bs).length→J q A→CallV Tryz.prog w0 yv [.int .i64 (q:Nat), .int .u64 (leftN r.bs k v q:Nat)] (A++(frM bi br bt k v r.b++(jH r++F)))
   (fun u H'=>(u= .bool true∧ ∃ A',J (q+1) A'∧H'=A'++(frM bi br bt k v r.b++(jH r++F)))∨(u= .bool false∧ ∃ A',E A'∧H'=A'++(frM bi br bt k v r.b++(jH r++F)))))
  (h0:J (k/64) A0):
  Call Tryz.prog w0 300 [yv, .pointer (some ⟨bi,0,none⟩), .pointer (some ⟨br,0,none⟩), .pointer (some ⟨bt,0,none⟩)] (A0++(frM bi br bt k v r.b++(jH r++F)))
   (fun _ H'=> ∃ A',H'=A'++(frM bi br bt k v r.b++(jH r++F))∧((∃ q,(wordsOf r.bs).length≤q∧J q A')∨E A')):=by
 have ok1:=ok.o
 have hn:=ok.n
 have hpl:=jgm (j:=k%64) (by omega)
 have hp1:1≤2^(k%64):=Nat.one_le_two_pow
 have hm:(k:Int)%64=((k%64:Nat):Int):=by omega
 have hd:(k:Int)/64=((k/64:Nat):Int):=by omega
 have ha0:((2^(k%64):Nat):Int)-1=((jci k (k/64):Nat):Int):=by grind[jci]
 have hwl:(wordsOf r.bs).length≤1024:=by grind[jby]
 refine Call.enter4 (n:=37) (by rfl) Tryz.func300 rfl rfl rfl ?_;simp only[Jg,jc0]
 skip
 refine zdJ ?_;refine zbo ?_
 (first|(refine KL.v rfl (Val.remN rfl rfl (by omega)) ?_)|(refine KL.v rfl (Val.rem rfl rfl (by omega)) ?_))
 rw[hm];refine KL.v rfl (Val.shl rfl rfl (by omega)) ?_;rw[jh6 (j:=k%64) (by omega)];refine zj7 ?_;rw[ha0];refine zaW ?_;refine zdJ ?_;refine zbo ?_;refine zlo ?_;rw[hd];refine zcO ?_;refine K.loopT (σ:=FrS) [(0,_),(2,_),(3,_)] (fun s kp_=>(6, .int .i64 (s.q:Nat))::(5, .int .u64 (jci k s.q:Nat))::kp_) (fun s=>s.A++(frM bi br bt k v r.b++(jH r++F))) (fun s=>k/64≤s.q∧J s.q s.A) (fun s=>(wordsOf r.bs).length-s.q) (⟨k/64,A0⟩) jj (by first|exact ja|(simp only[Jg,jc0];exact ja)) (⟨Nat.le_refl _,h0⟩) ?_;rintro⟨q,A⟩ ⟨hq,hJ⟩;dsimp only at hq hJ⊢;simp only[Jg,jc0]
 by_cases hlt:q<(wordsOf r.bs).length
 ·have hx:=jdY (bs:=r.bs) (k:=q) (by grind[jby])
  have hlw:=jfC r.bs q
  refine zaA ?_;refine zec ?_;refine zbp ?_;refine zab ?_;refine KL.nil (KE.next (K.condT rfl (K.skip (KE.next (K.seq (K.block (K.seq (K.seq ?_))))))));refine K.drawn [] [(0,0),(1,0),(2,0),(3,0),(4,0),(5,0),(6,0),(7,0),(8,0),(9,0),(10,0),(11,0),(12,0),(13,2),(14,0)] (by rfl) (by rfl) (by kernel_rfl) (by rfl) (by rfl) (by rfl) Part.nil ?_;refine zbf ?_;refine zbN ?_;refine zdf ?_;refine zj ?_;refine zbP ?_;refine zej ?_;refine zP ?_;refine KD.v0 rfl rfl (Val.xor rfl rfl) ?_;refine zj ?_;refine KD.v0 rfl rfl (Val.andNot rfl rfl) ?_;refine zl fun T hT=>?_;rw[xor_nat hlw (jh1 v),jhD (xor_lt hlw (jh1 v)) (jkS k q)];refine(CallV.part (hy q A hq hlt hJ) (by first|exact ja|(simp only[Jg,jc0];exact ja))).mono ?_;rintro _ _ (⟨rfl,A',hJ',rfl⟩|⟨rfl,A',hE',rfl⟩)
  ·have h0':(0:Int)=((jci k (q+1):Nat):Int):=by grind[jci]
   refine zg ?_;clear hT T;refine KD.v0 rfl rfl (Val.notT rfl) ?_;refine zD ?_;refine KE.next (K.condF rfl (K.skip (KE.next (K.region ?_))));refine zbY ?_;refine zbL ?_;refine ze ?_;refine zea ?_;rw[show(Value.int .u64 0)=Value.int .u64 ((jci k (q+1):Nat):Int) from by grind];exact KE.again ⟨q+1,A'⟩ jj (by first|exact ja|(simp only[Jg,jc0];exact ja)) ⟨by grind,hJ'⟩ (by grind)
  ·refine zg ?_;clear hT T;refine ze3 ?_;refine zD ?_;refine KE.next (K.condT rfl ?_);refine ziG ?_;refine ziu ?_;refine zbE ?_;refine zbS ?_;exact KE.fin je rfl jd (by first|exact ja|(simp only[Jg,jc0];exact ja)) ⟨A',rfl, .inr hE'⟩
 ·refine K.seq ?_;refine za7 ?_;refine zec ?_;refine zbp ?_;refine zT ?_;refine zcf ?_;exact KE.finN je rfl jd (by first|exact ja|(simp only[Jg,jc0];exact ja)) ⟨A,rfl, .inl ⟨q,by omega,hJ⟩⟩
theorem from_K {w0:World} {H:jb} {rb k:Nat} {v:Bool}:
  Call Tryz.prog w0 274 [.pointer (some ⟨rb,0,none⟩), .int .i64 (k:Nat), .int .u64 (turnN v:Nat)] H
   (fun u H'=> ∃ bi br bt,u= .func (.func 300) #[] [.pointer (some ⟨bi,0,none⟩), .pointer (some ⟨br,0,none⟩), .pointer (some ⟨bt,0,none⟩)].toArray∧H'=frM bi br bt k v rb++H):=by
 refine Call.enter3 (n:=8) (by rfl) Tryz.func274 rfl rfl rfl ?_;refine zaU ?_;intro b3 b4;refine zbR ?_;intro b5;refine zu ?_;refine zbF ?_;refine zf ?_;exact KE.fin (H':=frM b4 b3 b5 k v rb++H) je rfl jd (by rw[jc0];exact ja) ⟨b4,b3,b5,rfl,rfl⟩
def nxI (o:Option Nat):Int:=((o.getD 0:Nat):Int)
def NxJ (l D:Nat) (rc:Rec) (b7 b6 b3 rb:Nat) (bs:List Bool) (k:Nat) (v:Bool) (q:Nat) (A:jb):Prop:=
 A=[(l, .loop (rc .ready none)),(D, .deferred (some [])),(b7,cells [.bool false] 4),(b6,cells [.int .i64 0] 3),(b3,cells [.pointer (some ⟨rb,0,none⟩)] 113)]∧ ∀ j,k≤j→j<64*q→j<bs.length→(bs[j]?).getD false≠v
def NxE (l D:Nat) (rc:Rec) (b7 b6 b3 rb:Nat) (bs:List Bool) (k:Nat) (v:Bool) (A:jb):Prop:=
 ∃ i:Nat,nextB bs k v=some i∧A=[(l, .loop (rc .done (some .ret))),(D, .deferred (some [])),(b7,cells [.bool true] 4),(b6,cells [.int .i64 (i:Nat)] 3),(b3,cells [.pointer (some ⟨rb,0,none⟩)] 113)]
set_option maxHeartbeats 2000000 in
theorem jgu {w0:World} {F:jb} {r:jan} {k:Nat} {v:Bool} (ok:RowOk r) (hG:js w0) (hk:k≤1000000):
  Call Tryz.prog w0 235 [.pointer (some ⟨r.b,0,none⟩), .int .i64 (k:Nat), .bool v] (jH r++F)
   (fun u H'=>u= .tuple [.int .i64 (nxI (nextB r.bs k v)), .bool (nextB r.bs k v).isSome].toArray∧H'=jH r++F):=by
 have hmax:(if ((k:Nat):Int)<0 then(0:Int) else((k:Nat):Int))=((k:Nat):Int):=if_neg (by omega)
 have hn:=ok.n
 have hwl:(wordsOf r.bs).length≤1024:=by rw[jby];omega
 refine Call.enter3 (n:=36) (by kernel_rfl) Tryz.func235 rfl rfl rfl ?_;refine zdX ?_;intro b3 b6;refine zee ?_;intro b7;refine zaW ?_;refine K.cutT (σ:=Unit) [(1,_),(3,_),(6,_),(7,_)] jj (fun s kp_=>(8, .int .u64 (turnN v:Nat))::kp_) (fun s=>(b7,cells [.bool false] 4)::(b6,cells [.int .i64 0] 3)::(b3,cells [.pointer (some ⟨r.b,0,none⟩)] 113)::(jH r++F)) (fun s=>True) ?_ ?_
 ·cases v with
  |true=>
   refine za7 ?_;refine zaS ?_;refine zbY ?_;exact zgX
  |false=>
   refine za7 ?_;refine zbq ?_;exact zgX
 ·rintro _ _
  skip
  refine zdC ?_;refine KL.v rfl (Val.max rfl rfl) ?_;rw[hmax];refine zX ?_;refine zb6 fun T hT=>?_;refine(CallV.part (CallV.fn (has_K (r:=r) (i:=(k:Nat)))) ja).mono ?_;rintro _ _ ⟨rfl,rfl⟩
  by_cases hkl:k<r.bs.length
  ·rw[decide_eq_true (show 0≤((k:Nat):Int)∧((k:Nat):Int)<(r.bs.length:Nat) by omega)];refine zd ?_;clear hT T;refine zE ?_;refine z9 ?_;refine zp ?_;refine zat ?_;refine jat (from_K (rb:=r.b) (k:=k) (v:=v)) ?_;rintro _ _ ⟨bi,br,bt,rfl,rfl⟩;refine zb9 ?_;refine K.rangeFunc (lb:=[.pointer (some ⟨bi,0,none⟩), .pointer (some ⟨br,0,none⟩), .pointer (some ⟨bt,0,none⟩)]) rfl
    (fun D G=>G=(b7,cells [.bool false] 4)::(b6,cells [.int .i64 0] 3)::(b3,cells [.pointer (some ⟨r.b,0,none⟩)] 113)::(D, .deferred (some []))::(jH r++F)∧nextB r.bs k v=none)
    (fun D c G=>c= .ret∧ ∃ i:Nat,nextB r.bs k v=some i∧G=(b7,cells [.bool true] 4)::(b6,cells [.int .i64 (i:Nat)] 3)::(b3,cells [.pointer (some ⟨r.b,0,none⟩)] 113)::(D, .deferred (some []))::(jH r++F)) ?_ ?_ ?_
   ·intro l D rc hyl
    refine(Call.part (from1_K (F:=F) (r:=r) (k:=k) (v:=v) (bi:=bi) (br:=br) (bt:=bt) ok (NxJ l D rc b7 b6 b3 r.b r.bs k v) (NxE l D rc b7 b6 b3 r.b r.bs k v) (by omega)
     (A0:=[(l, .loop (rc .ready none)),(D, .deferred (some [])),(b7,cells [.bool false] 4),(b6,cells [.int .i64 0] 3),(b3,cells [.pointer (some ⟨r.b,0,none⟩)] 113)]) ?_ ⟨rfl,fun j h1 h2=>by omega⟩) (by simp only[List.cons_append,List.nil_append];exact ja)).mono ?_
    ·rintro q A hq hql ⟨rfl,hno⟩
     have hlw:=left_lt r.bs k v q
     obtain⟨w,hw⟩: ∃ w,w=leftN r.bs k v q:=⟨_,rfl⟩
     have hbit: ∀ t,t<64→w.testBit t=(((r.bs[64*q+t]?).getD false==v)&&decide (k≤64*q+t)):=fun t ht=>by rw[hw];exact left_bit hq ht
     rw[←hw] at hlw⊢;refine ziz ?_;refine ziD ?_;refine zge ?_;refine K.block ?_
     by_cases hw0:w=0
     ·have hw0':(w:Int)=0:=by omega
      refine zaA ?_;refine zJ ?_;refine zcI ?_;refine zc4 ?_;refine zdW ?_;refine zlr ?_
      exact KE.roundN j3.head (.inl ⟨rfl,_,⟨rfl,fun j h1 h2 h3 hv=>by
       by_cases hj:j<64*q
       ·exact hno j h1 hj h3 hv
       ·have:=hbit (j-64*q) (by omega)
        rw[hw0,show 64*q+(j-64*q)=j by omega,hv] at this
        simp at this;omega⟩,rfl⟩)
     ·have hw0': ¬(w:Int)=0:=by omega
      obtain⟨c1,c2,c3⟩:=ctz_bit hw0 hlw
      have hb:=hbit _ c1
      rw[c2] at hb;simp only[Bool.true_eq,Bool.and_eq_true,beq_iff_eq,decide_eq_true_eq] at hb;refine zaA ?_;refine zG ?_;refine zaG ?_;refine ziM ?_;refine zx fun T hT=>?_;refine(CallV.fn (ctz_K hG hlw hw0)).mono ?_;rintro _ _ ⟨rfl,rfl⟩
      obtain⟨c,hc⟩: ∃ c,c=Lib.ctz 64 w:=⟨_,rfl⟩
      rw[←hc] at c1 c2 c3 hb⊢
      have hqc:(q:Int)*64+(c:Int)=((64*q+c:Nat):Int):=by omega
      refine zd ?_;clear hT T;refine zbT ?_;refine zu ?_;refine zb6 fun T hT=>?_;rw[hqc];refine(CallV.part (CallV.fn (has_K (r:=r) (i:=((64*q+c:Nat):Int)))) ja).mono ?_;rintro _ _ ⟨rfl,rfl⟩
      have hlow: ∀ j,k≤j→j<64*q+c→j<r.bs.length→(r.bs[j]?).getD false≠v:=fun j h1 h2 h3 hv=>by
       by_cases hj:j<64*q
       ·exact hno j h1 hj h3 hv
       ·have h4:=c3 (j-64*q) (by omega)
        have h5:=hbit (j-64*q) (by omega)
        rw[h4,show 64*q+(j-64*q)=j by omega,hv] at h5
        simp at h5;omega
      by_cases hin:64*q+c<r.bs.length
      ·rw[decide_eq_true (show 0≤((64*q+c:Nat):Int)∧((64*q+c:Nat):Int)<(r.bs.length:Nat) by omega)];refine zd ?_;clear hT T;refine zf9 ?_;refine zO ?_;refine zcl ?_;refine zbS ?_;refine KE.part ((l, .loop (rc .busy none))::([(D, .deferred (some [])),(b7,cells [.bool true] 4),(b6,cells [.int .i64 ((64*q+c:Nat):Int)] 3),(b3,cells [.pointer (some ⟨r.b,0,none⟩)] 113)]++(frM bi br bt k v r.b++(jH r++F)))) (by simp only[List.cons_append,List.nil_append];rw [←hqc];exact ja) ?_;exact KE.roundR j3.head (.inr ⟨rfl,_,⟨64*q+c,jl5 hin hb.2 hb.1 fun j h1 h2=>hlow j h1 h2 (by omega),rfl⟩,rfl⟩)
      ·rw[decide_eq_false (show ¬(0≤((64*q+c:Nat):Int)∧((64*q+c:Nat):Int)<(r.bs.length:Nat)) by omega)];refine zd ?_;clear hT T;refine zis ?_;refine zlr ?_;exact KE.roundN j3.head (.inl ⟨rfl,_,⟨rfl,fun j h1 h2 h3=>hlow j h1 (by omega) h3⟩,rfl⟩)
    ·rintro u H' ⟨A',rfl,(⟨q,hq,rfl,hno⟩|⟨i,hi,rfl⟩)⟩
     ·refine .inl ⟨_,?_,rfl,ji2 fun j h1 h2=>hno j h1 (by rw[jby] at hq;omega) h2⟩;exact zf0
     ·refine .inr ⟨.ret,_,?_,rfl,i,hi,rfl⟩;exact zf0
   ·rintro D G ⟨rfl,hnx⟩;rw[hnx];refine zeU ?_;refine zO ?_;refine zcl ?_;exact zZ
   ·rintro D c G ⟨rfl,i,hi,rfl⟩;rw[hi];refine zdr ?_;exact zZ
  ·rw[decide_eq_false (show ¬(0≤((k:Nat):Int)∧((k:Nat):Int)<(r.bs.length:Nat)) by omega)]
   have hnx:nextB r.bs k v=none:=ji2 fun j h1 h2=>by omega
   refine zd ?_;clear hT T;rw[hnx];refine zeQ ?_;refine zO ?_;refine zcl ?_;refine zbE ?_;exact zZ
open Go.RowKit
set_option maxRecDepth 10000
theorem and_i64 {a b:Nat} (ha:a<9223372036854775808) (hb:b<9223372036854775808):jaq .and .i64 (a:Int) (b:Int)=((a&&&b:Nat):Int):=by
 show IntKind.i64.wrap ((BitVec.ofInt 64 (a:Int)&&&BitVec.ofInt 64 (b:Int)).toNat:Int)=_
 have:=Nat.and_lt_two_pow a (n:=63) (y:=b) (by omega)
 grind[qL,qH,jdv]
theorem ones_K {w0:World} {H:jb} {l:List Bool} (hl:l.length≤64):
  Call Tryz.prog w0 307 [.int .u64 (bitsN l:Nat)] H (fun r H'=>r= .int .i64 (l.count true:Nat)∧H'=H):=by
 have hx64:bitsN l<18446744073709551616:=by
  have h:=jfS l
  have h2:2^l.length≤2^64:=Nat.pow_le_pow_right (by omega) hl
  omega
 have hlaw:=fun x a b c=>pop_law hl (x:=x) (a:=a) (b:=b) (c:=c)
 obtain⟨x,hx⟩: ∃ x,x=bitsN l:=⟨_,rfl⟩
 rw[←hx] at hx64 hlaw⊢;clear hx
 --the steps
 obtain⟨u1,hu1⟩: ∃ u,u=x/2&&&6148914691236517205:=⟨_,rfl⟩
 obtain⟨v1,hv1⟩: ∃ u,u=x&&&6148914691236517205:=⟨_,rfl⟩
 obtain⟨x1,hx1⟩: ∃ u,u=u1+v1:=⟨_,rfl⟩
 obtain⟨u2,hu2⟩: ∃ u,u=x1/4&&&3689348814741910323:=⟨_,rfl⟩
 obtain⟨v2,hv2⟩: ∃ u,u=x1&&&3689348814741910323:=⟨_,rfl⟩
 obtain⟨x2,hx2⟩: ∃ u,u=u2+v2:=⟨_,rfl⟩
 obtain⟨u3,hu3⟩: ∃ u,u=x2/16:=⟨_,rfl⟩
 obtain⟨v3,hv3⟩: ∃ u,u=u3+x2:=⟨_,rfl⟩
 obtain⟨x3,hx3⟩: ∃ u,u=v3&&&1085102592571150095:=⟨_,rfl⟩
 obtain⟨a,ha⟩: ∃ u,u=x3+x3/256:=⟨_,rfl⟩
 obtain⟨b,hb⟩: ∃ u,u=a+a/65536:=⟨_,rfl⟩
 obtain⟨c,hc⟩: ∃ u,u=b+b/4294967296:=⟨_,rfl⟩
 have bu1:u1≤6148914691236517205:=by rw[hu1];exact Nat.and_le_right
 have bv1:v1≤6148914691236517205:=by rw[hv1];exact Nat.and_le_right
 have bu2:u2≤3689348814741910323:=by rw[hu2];exact Nat.and_le_right
 have bv2:v2≤3689348814741910323:=by rw[hv2];exact Nat.and_le_right
 have bx3:x3≤1085102592571150095:=by rw[hx3];exact Nat.and_le_right
 obtain⟨k1,k2,k3,k4⟩:=hlaw x3 a b c (by grind[g3,g2,g1,rep_85,rep_51,rep_15]) ha hb hc
 have s1:(x:Int).fdiv (2^(min (Int.toNat 1) IntKind.u64.bits))=((x/2:Nat):Int):=jcz (j:=1) (by omega)
 have s2:(x1:Int).fdiv (2^(min (Int.toNat 2) IntKind.u64.bits))=((x1/4:Nat):Int):=jcz (j:=2) (by omega)
 have s3:(x2:Int).fdiv (2^(min (Int.toNat 4) IntKind.u64.bits))=((x2/16:Nat):Int):=jcz (j:=4) (by omega)
 have s4:(x3:Int).fdiv (2^(min (Int.toNat 8) IntKind.u64.bits))=((x3/256:Nat):Int):=jcz (j:=8) (by omega)
 have s5:(a:Int).fdiv (2^(min (Int.toNat 16) IntKind.u64.bits))=((a/65536:Nat):Int):=jcz (j:=16) (by omega)
 have s6:(b:Int).fdiv (2^(min (Int.toNat 32) IntKind.u64.bits))=((b/4294967296:Nat):Int):=jcz (j:=32) (by omega)
 have m1:jaq .and .u64 ((x/2:Nat):Int) 6148914691236517205=(u1:Int):=by rw[hu1];exact jc2 (b:=6148914691236517205) (by omega) (by omega)
 have m2:jaq .and .u64 (x:Int) 6148914691236517205=(v1:Int):=by grind[jc2]
 have m3:jaq .and .u64 ((x1/4:Nat):Int) 3689348814741910323=(u2:Int):=by rw[hu2];exact jc2 (b:=3689348814741910323) (by omega) (by omega)
 have m4:jaq .and .u64 (x1:Int) 3689348814741910323=(v2:Int):=by grind[jc2]
 have m5:jaq .and .u64 (v3:Int) 1085102592571150095=(x3:Int):=by grind[jc2]
 have m6:jaq .and .i64 (c:Int) 127=(l.count true:Nat):=by
  rw[show jaq .and .i64 (c:Int) 127=((c&&&127:Nat):Int) from and_i64 (b:=127) (by omega) (by omega),show(127:Nat)=2^7-1 by decide,Nat.and_two_pow_sub_one_eq_mod,show 2^7=128 by decide,k1]
 have t1:(u1:Int)+(v1:Int)=(x1:Int):=by omega
 have t2:(u2:Int)+(v2:Int)=(x2:Int):=by omega
 have t3:((x2/16:Nat):Int)+(x2:Int)=(v3:Int):=by omega
 have t4:(x3:Int)+((x3/256:Nat):Int)=(a:Int):=by omega
 have t5:(a:Int)+((a/65536:Nat):Int)=(b:Int):=by omega
 have t6:(b:Int)+((b/4294967296:Nat):Int)=(c:Int):=by omega
 clear hu1 hv1 hu2 hv2 hx3 k1 hlaw;refine Call.enter1 (n:=35) (by rfl) Tryz.func307 rfl rfl rfl ?_;refine zae ?_;refine zaY ?_;refine zdC ?_;refine zdK ?_;rw[s1];refine zgs ?_;rw[m1];refine ze ?_;refine zgs ?_;rw[m2];refine zfP ?_;rw[t1];refine zaW ?_;refine zdC ?_;refine zdK ?_;rw[s2];refine zgs ?_;rw[m3];refine ze ?_;refine zgs ?_;rw[m4];refine zfP ?_;rw[t2];refine zaW ?_;refine zdC ?_;refine zdK ?_;rw[s3];refine ze ?_;refine zfP ?_;rw[t3];refine zgs ?_;rw[m5];refine zaW ?_;refine zbm ?_;refine zdK ?_;rw[s4];refine zfP ?_;rw[t4];refine zaW ?_;refine zbm ?_;refine zdK ?_;rw[s5];refine zfP ?_;rw[t5];refine zaW ?_;refine zbm ?_;refine zdK ?_;rw[s6];refine zfP ?_;rw[t6];refine zaW ?_;refine zdC ?_
 (first|(refine KL.v rfl (Val.conv rfl rfl rfl (by grind[qL,qH])) ?_)|(refine KL.v rfl (Val.convW rfl rfl rfl) ?_))
 refine zgs ?_;rw[m6];exact zt
theorem Count_K {w0:World} {F:jb} {r:jan} (ok:RowOk r):
  Call Tryz.prog w0 290 [.pointer (some ⟨r.b,0,none⟩)] (jH r++F) (fun u H'=>u= .int .i64 (r.bs.count true:Nat)∧H'=jH r++F):=by
 have ok1:=ok.o
 have hn:=ok.n
 have hwl:(wordsOf r.bs).length≤1024:=by grind[jby]
 have hcb: ∀ k,(r.bs.take k).count true≤65536:=fun k=>Nat.le_trans List.count_le_length (by grind)
 refine Call.enter1 (n:=24) (by rfl) Tryz.func290 rfl rfl rfl ?_;refine z7 ?_;refine z6 ?_;refine zq fun T hT=>?_;simp only[Jg];refine ziJ ?_;rintro _ _ ⟨rfl,rfl⟩;refine zd ?_;clear hT T;refine zeQ ?_;refine zK ?_;refine zB ?_;refine zbp ?_;refine zcH ?_;refine K.loopT (σ:=Nat) [(12,_),(13,_)] (fun s kp_=>(14, .int .i64 (s:Nat))::(3, .int .i64 ((r.bs.take (64*s)).count true:Nat))::kp_) (fun s=>(r.b,cells [oV r.o (wordsOf r.bs).length, .int .i64 (r.bs.length:Nat), .bool true] 164)::(oH uE 33 (wordsOf r.bs) r.o++F)) (fun s=>s≤(wordsOf r.bs).length) (fun s=>(wordsOf r.bs).length-s) (0) jj ja (by omega) ?_;rintro k hk
 have hck:=hcb (64*k)
 by_cases hlt:k<(wordsOf r.bs).length
 ·have hx:=jdY (bs:=r.bs) (k:=k) (by grind[jby])
  have hl:((r.bs.drop (64*k)).take 64).length≤64:=by grind
  have hsum:((r.bs.take (64*(k+1))).count true:Nat)=(r.bs.take (64*k)).count true+((r.bs.drop (64*k)).take 64).count true:=by
   grind
  have hcl:((r.bs.drop (64*k)).take 64).count true≤64:=Nat.le_trans List.count_le_length hl
  unfold wordN at hx;refine zaN ?_;refine zgt ?_;refine zcJ ?_;refine zk ?_;refine za0 ?_;refine zat ?_;refine jq (ones_K hl) ?_;refine zea ?_;refine zbL ?_;refine zal ?_;refine zff ?_;exact KE.again (k+1) jj ja (by omega) (by omega)
 ·have he:r.bs.take (64*k)=r.bs:=List.take_of_length_le (by grind[jby])
  rw[he];refine zeR ?_;refine ze ?_;exact zt
theorem jhX {w0:World} {v:Value} {l:List Int} (hS:SlW w0 uE v l) (hl:l.length≤4294967296):
  Call Tryz.prog w0 56 [v] [] (fun r H'=> ∃ o,oOk uE l o∧r=oV o l.length∧H'=oH uE 33 l o):=by
 refine Call.enter1 (n:=8) (by rfl) Tryz.func56 rfl rfl rfl ?_
 have hS0:=hS
 obtain⟨a,c,rfl,h1,h2,h3⟩:=hS.shape
 cases a with
 |none=>
  have hn:l=[]:=by
   grind
  subst hn;refine zaa ?_;refine zdL ?_;refine zav ?_;exact ziN
 |some a=>
  refine zaa ?_;refine zdL ?_;refine zz ?_;refine zaj ?_;intro b5;refine ze ?_;refine KL.e rfl (Eff.appLit (E:=uE) (ys:=l) rfl rfl rfl rfl rfl rfl rfl jF (by first|exact Sli.blk jF rfl (by first|decide|simp) (by first|decide|(unfold maxLen;omega)) rfl|exact Sli.old (by assumption)|exact Sli.own jn (by assumption) j6|assumption|exact Sli.part (by assumption) ja) (by omega) rfl) ?_;rintro _ _ ⟨o',ok',rfl,rfl⟩;refine zf ?_;exact ziO
theorem jia {w0:World} {F:jb} {r:jan} (ok:RowOk r):
  Call Tryz.prog w0 209 [.pointer (some ⟨r.b,0,none⟩)] (jH r++F) (fun u H'=> ∃ r',RowOk r'∧r'.bs=r.bs∧u= .pointer (some ⟨r'.b,0,none⟩)∧H'=jH r'++(jH r++F)):=by
 have ok1:=ok.o
 have hn:=ok.n
 have hwl:(wordsOf r.bs).length≤1024:=by grind[jby]
 refine Call.enter1 (n:=16) (by rfl) Tryz.func209 rfl rfl rfl ?_;refine zaa ?_;refine zq fun T hT=>?_;simp only[Jg];refine ziJ ?_;rintro _ _ ⟨rfl,rfl⟩;refine zd ?_;clear hT T;refine zbU ?_;refine K.drawn _ [(0,0),(1,0),(2,0),(3,0),(5,1),(6,1),(7,1),(8,1),(4,2),(9,0),(10,2),(11,0)] (by rfl) (by rfl) (by kernel_rfl) (by rfl) (by rfl) (by rfl) Part.all ?_;refine zb4 ?_;refine zdA ?_;refine zhI ?_;refine zba ?_;refine zl fun T hT=>?_;refine(CallV.pure fun w hw=>CallV.fn (jhX (Sli.own jn ok1 rfl w hw) (by omega))).mono ?_;rintro _ _ ⟨_,⟨o1,ko1,rfl,rfl⟩,rfl⟩;refine zg ?_;clear hT T;refine zlk ?_;intro b15;refine zbQ ?_;refine zaV ?_;exact KE.fin (H':=jH ⟨b15,r.bs,o1⟩++(jH r++F)) je rfl jd (by first|exact ja|(simp only[Jg];exact ja)) ⟨⟨b15,r.bs,o1⟩,⟨ko1,hn⟩,rfl,rfl,rfl⟩
set_option maxRecDepth 10000
def jz (n:Nat→Nat):Nat→Nat
 |0=>0
 |k+1=>jz n k+n k
def cutL {β:Type} (n:Nat→Nat) (f:Nat→Nat→β):Nat→List β
 |0=> []
 |m+1=>cutL n f m++(List.range (n m)).map (f m)
section
variable {β : Type} {n : Nat → Nat} {f : Nat → Nat → β}
theorem jbR: ∀ m,(cutL n f m).length=jz n m
 |0=>rfl
 |m+1=>by simp[cutL,jz,jbR m]
theorem jhe {k m:Nat} (h:k≤m):jz n k≤jz n m:=by
 induction m with
 |zero=>grind
 |succ m ih=>
  grind[jz]
theorem jbD {k m:Nat} (h:k<m):jz n k+n k≤jz n m:=jhe (n:=n) (show k+1≤m from h)
theorem jeQ {k d:Nat}: ∀ {m:Nat},k<m→d<n k→(cutL n f m)[jz n k+d]?=some (f k d)
 |m+1,hk,hd=>by
  rw[cutL]
  by_cases h:k=m
  ·subst h;rw[List.getElem?_append_right (by rw[jbR];omega),jbR,Nat.add_sub_cancel_left,List.getElem?_map,List.getElem?_range hd];rfl
  ·have:=jbD (n:=n) (show k<m by omega)
   rw[List.getElem?_append_left (by rw[jbR];omega)];exact jeQ (by omega) hd
theorem jfR {i:Nat}: ∀ {m:Nat},i<jz n m→ ∃ k d,k<m∧d<n k∧i=jz n k+d
 |0,h=>by grind[jz]
 |m+1,h=>by
  by_cases h1:i<jz n m
  ·obtain⟨k,d,hk,hd,e⟩:=jfR h1
   exact⟨k,d,by omega,hd,e⟩
  ·simp only[jz] at h;exact⟨m,i-jz n m,by omega,by omega,by omega⟩
theorem cut_at {m i:Nat} {x:β} (h:(cutL n f m)[i]?=some x): ∃ k d,k<m∧d<n k∧i=jz n k+d∧x=f k d:=by
 grind[jbR,jfR,jeQ]
theorem cum_uniq {k d k' d':Nat} (hd:d<n k) (hd':d'<n k') (h:jz n k+d=jz n k'+d'):k=k'∧d=d':=by
 rcases Nat.lt_trichotomy k k' with h1|h1|h1
 ·have:=jbD (n:=n) h1;omega
 ·grind
 ·have:=jbD (n:=n) h1;omega
end
structure PlG where
 cl:List Nat
 pg:Nat
 q:Nat
namespace PlG
def y (g:PlG) (k:Nat):Nat:=g.cl.getD k 0
def n (g:PlG) (k:Nat):Nat:=g.q/g.y k
def per (g:PlG) (k:Nat):Nat:=g.pg/g.y k
def pgs (g:PlG) (k:Nat):Nat:=(g.n k+g.per k-1)/g.per k
def m (g:PlG):Nat:=g.cl.length
def first (g:PlG) (k:Nat):Nat:=jz g.n k
def page (g:PlG) (k:Nat):Nat:=jz g.pgs k
def slots (g:PlG):Nat:=g.first g.m
def pages (g:PlG):Nat:=g.page g.m
def words (g:PlG):Nat:=g.pages*g.pg
end PlG
structure jg where
 cls:Nat
 size:Nat
 addr:Nat
 page:Nat
structure jeu where
 size:Nat
 first:Nat
 many:Nat
 page:Nat
 per:Nat
namespace PlG
def sl (g:PlG) (k d:Nat):jg:=⟨k,g.y k,(g.page k+d/g.per k)*g.pg+d%g.per k*g.y k,g.page k+d/g.per k⟩
def L (g:PlG):List jg:=cutL g.n g.sl g.m
def pt (g:PlG) (k:Nat):jeu:=⟨g.y k,g.first k,g.n k,g.page k,g.per k⟩
def parts (g:PlG):List jeu:=(List.range g.m).map g.pt
end PlG
structure jc (g:PlG):Prop where
 m:1≤g.m∧g.m≤8
 y: ∀ k,k<g.m→2≤g.y k∧g.y k≤g.pg∧g.y k≤g.q
 pg:g.pg≤64
 q:g.q≤4096
section
variable {g : PlG}
theorem jc.n (ok:jc g) {k:Nat} (hk:k<g.m):1≤g.n k∧g.n k≤2048:=by
 obtain⟨h1,h2,h3⟩:=ok.y k hk
 have:=ok.q
 refine zj8 ?_;exact Nat.le_trans (Nat.div_le_div_left h1 (by omega)) (by omega)
theorem jc.per (ok:jc g) {k:Nat} (hk:k<g.m):1≤g.per k∧g.per k≤32:=by
 obtain⟨h1,h2,h3⟩:=ok.y k hk
 have:=ok.pg
 refine zj8 ?_;exact Nat.le_trans (Nat.div_le_div_left h1 (by omega)) (by omega)
theorem jc.pgs (ok:jc g) {k:Nat} (hk:k<g.m):1≤g.pgs k∧g.pgs k≤g.n k:=by
 have h1:=ok.n hk
 have h2:=ok.per hk
 refine zj8 ?_;unfold PlG.pgs
 obtain⟨a,ha⟩: ∃ a,g.n k=a+1:=⟨g.n k-1,by omega⟩
 obtain⟨b,hb⟩: ∃ b,g.per k=b+1:=⟨g.per k-1,by omega⟩
 rw[ha,hb];refine Nat.div_le_of_le_mul ?_
 grind
theorem cum_le {f:Nat→Nat} {B:Nat}: ∀ {m:Nat},(∀ k,k<m→f k≤B)→jz f m≤m*B
 |0,_=>by simp[jz]
 |m+1,h=>by
  have h1:=cum_le (m:=m) (fun k hk=>h k (by omega))
  grind[jz]
theorem jc.first (ok:jc g) {k:Nat} (hk:k≤g.m):g.first k≤16384:=by
 have h:=cum_le (f:=g.n) (B:=2048) (m:=k) (fun j hj=>(ok.n (by omega)).2)
 have:=ok.m
 grind[PlG.first]
theorem jc.page (ok:jc g) {k:Nat} (hk:k≤g.m):g.page k≤16384:=by
 have h:=cum_le (f:=g.pgs) (B:=2048) (m:=k) (fun j hj=>Nat.le_trans (ok.pgs (by omega)).2 (ok.n (by omega)).2)
 have:=ok.m
 grind[PlG.page]
theorem jc.slots (ok:jc g):1≤g.slots∧g.slots≤16384:=by
 refine⟨?_,ok.first (Nat.le_refl _)⟩
 have h:=jbD (n:=g.n) (k:=0) (m:=g.m) (by have:=ok.m;omega)
 have:=(ok.n (k:=0) (by have:=ok.m;omega)).1
 grind[PlG.slots,PlG.first]
theorem jc.pages (ok:jc g):1≤g.pages∧g.pages≤16384:=by
 refine⟨?_,ok.page (Nat.le_refl _)⟩
 have h:=jbD (n:=g.pgs) (k:=0) (m:=g.m) (by have:=ok.m;omega)
 have:=(ok.pgs (k:=0) (by have:=ok.m;omega)).1
 grind[PlG.pages,PlG.page]
theorem jc.pg1 (ok:jc g):2≤g.pg:=by
 have h:=ok.y 0 (by have:=ok.m;omega)
 omega
theorem jc.words (ok:jc g):g.words≤1048576:=by
 have h1:=ok.pages.2
 have h2:=ok.pg
 exact Nat.le_trans (Nat.mul_le_mul h1 h2) (by omega)
theorem jbX:g.L.length=g.slots:=jbR _
theorem L_get {k d:Nat} (hk:k<g.m) (hd:d<g.n k):g.L[g.first k+d]?=some (g.sl k d):=jeQ hk hd
theorem L_at {i:Nat} {x:jg} (h:g.L[i]?=some x): ∃ k d,k<g.m∧d<g.n k∧i=g.first k+d∧x=g.sl k d:=cut_at h
theorem jc.inpg (ok:jc g) {k d:Nat} (hk:k<g.m) (hd:d<g.n k):d/g.per k<g.pgs k:=by
 have h2:=ok.per hk
 refine(Nat.le_div_iff_mul_le (by omega)).2 ?_
 have h3:=Nat.div_mul_le_self d (g.per k)
 grind
theorem jc.pg_lt (ok:jc g) {k d:Nat} (hk:k<g.m) (hd:d<g.n k):g.page k+d/g.per k<g.pages:=by
 have h1:=ok.inpg hk hd
 have h2:=jbD (n:=g.pgs) hk
 grind[PlG.pages,PlG.page]
theorem jc.inside (ok:jc g) {k d:Nat} (hk:k<g.m):d%g.per k*g.y k+g.y k≤g.pg:=by
 have h2:=ok.per hk
 have h3:=Nat.mod_lt d (show 0<g.per k by omega)
 have h4:(d%g.per k+1)*g.y k≤g.per k*g.y k:=Nat.mul_le_mul_right _ (by omega)
 have h5:g.per k*g.y k≤g.pg:=Nat.div_mul_le_self _ _
 grind
theorem jc.fits (ok:jc g) {i:Nat} {x:jg} (h:g.L[i]?=some x):x.addr+x.size≤g.words∧2≤x.size∧x.size≤64∧x.page<g.pages∧x.page*g.pg≤x.addr∧x.addr+x.size≤(x.page+1)*g.pg∧x.cls<g.m:=by
 obtain⟨k,d,hk,hd,rfl,rfl⟩:=L_at h
 have h1:=ok.pg_lt hk hd
 have h2:=ok.inside (d:=d) hk
 have h3:=ok.y k hk
 have h4:=ok.pg
 have h5:(g.page k+d/g.per k+1)*g.pg≤g.words:=Nat.mul_le_mul_right _ h1
 grind[PlG.sl]
theorem jc.apart (ok:jc g) {i i':Nat} {x x':jg} (h:g.L[i]?=some x) (h':g.L[i']?=some x') (hne:i≠i'):x.addr+x.size≤x'.addr∨x'.addr+x'.size≤x.addr:=by
 obtain⟨a1,_,_,_,a2,a3,_⟩:=ok.fits h
 obtain⟨b1,_,_,_,b2,b3,_⟩:=ok.fits h'
 rcases Nat.lt_trichotomy x.page x'.page with h1|h1|h1
 ·have:(x.page+1)*g.pg≤x'.page*g.pg:=Nat.mul_le_mul_right _ h1
  omega
 ·obtain⟨k,d,hk,hd,rfl,rfl⟩:=L_at h
  obtain⟨k',d',hk',hd',rfl,rfl⟩:=L_at h'
  obtain⟨e1,e2⟩:=cum_uniq (n:=g.pgs) (ok.inpg hk hd) (ok.inpg hk' hd') h1
  subst e1;simp only[PlG.sl] at a2 a3 b2 b3⊢;rw[e2]
  have hy:=ok.y k hk
  rcases Nat.lt_trichotomy (d%g.per k) (d'%g.per k) with h2|h2|h2
  ·have:(d%g.per k+1)*g.y k≤d'%g.per k*g.y k:=Nat.mul_le_mul_right _ h2
   grind
  ·have q1:=Nat.div_add_mod d (g.per k)
   have q2:=Nat.div_add_mod d' (g.per k)
   grind
  ·have:(d'%g.per k+1)*g.y k≤d%g.per k*g.y k:=Nat.mul_le_mul_right _ h2
   grind
 ·have:(x'.page+1)*g.pg≤x.page*g.pg:=Nat.mul_le_mul_right _ h1
  omega
theorem jcL:g.parts.length=g.m:=by simp[PlG.parts]
theorem jdj {k:Nat} (hk:k<g.m):g.parts[k]?=some (g.pt k):=by grind[PlG.parts]
end
end Go.Proofs.YtpcgafhgfjlkmaaGreatDoor.Sw
