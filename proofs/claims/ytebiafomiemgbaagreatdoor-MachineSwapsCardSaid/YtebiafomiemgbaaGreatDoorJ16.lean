/-The walker and the contracts that the law needs,part 16. -/
import Derived.Test.YtebiafomiemgbaaGreatDoorJ15
set_option linter.unusedVariables false set_option linter.unusedSimpArgs false set_option linter.unusedVariables false
set_option linter.unusedSimpArgs false
namespace Go.Proofs.YtebiafomiemgbaaGreatDoor.Sw
set_option maxHeartbeats 8000000
open Go.Proofs.YtebiafomiemgbaaGreatDoor renaming lo → qL, hi → qH
open Go.RowKit
set_option maxRecDepth 10000
def wdL:List Nat:=[16,16,16,8,8]
structure ji (w:World):Prop where
 tab:TabAt 2 Lib.deBruijn64tab w
 wd: ∀ j n,wdL[j]?=some n→w.cell? ⟨0,j,none⟩=some (.int .i64 (n:Nat))
theorem ji.only {w w':World} (h:ji w) (ho:jY [] w w'):ji w':=⟨fun j hj=>jij ho (h.tab j hj),fun j n hn=>jij ho (h.wd j n hn)⟩
theorem neg_nat {x:Nat} (h0:x≠0) (h:x<18446744073709551616):IntKind.u64.wrap (-(x:Int))=((18446744073709551616-x:Nat):Int):=by
 rw[IntKind.wrap_u64];omega
theorem ctz_K {w0:World} {H:jb} (hG:ji w0) {x:Nat} (h:x<18446744073709551616) (h0:x≠0):
  Call Tryz.prog w0 298 [.int .u64 (x:Nat)] H (fun r H'=>r= .int .i64 (Lib.ctz 64 x:Nat)∧H'=H):=by
 obtain⟨hlow,hk⟩:=Lib.lowest_bit 64 x h0 h
 obtain⟨hi,htab⟩:=Lib.deBruijn64_at _ hk
 have hcell:=hG.tab _ hi
 have hx0: ¬(x:Int)=0:=by omega
 have hxl:18446744073709551616-x<18446744073709551616:=by omega
 have hlow':x&&&(18446744073709551616-x)=2^Lib.ctz 64 x:=hlow
 have hpw:=jht hk
 obtain⟨c,hc⟩: ∃ c,c=Lib.ctz 64 x:=⟨_,rfl⟩
 rw[←hc] at hlow' hi htab hpw hcell hk⊢
 have hml:2^c*285870213051353865%18446744073709551616<18446744073709551616:=Nat.mod_lt _ (by decide)
 obtain⟨p,hp⟩: ∃ p,p=2^c:=⟨_,rfl⟩
 rw[←hp] at hlow' hi htab hpw hcell hml
 obtain⟨y,hy⟩: ∃ y,y=p*285870213051353865%18446744073709551616:=⟨_,rfl⟩
 have hmul:IntKind.u64.wrap ((p:Int)*285870213051353865)=(y:Int):=by
  rw[IntKind.wrap_u64,hy];omega
 rw[←hy] at hi htab hcell hml;clear hy
 obtain⟨idx,hidx⟩: ∃ idx,idx=y/288230376151711744:=⟨_,rfl⟩
 have hsh:(y:Int).fdiv (2^(min (Int.toNat 58) IntKind.u64.bits))=(idx:Int):=by
  have e:(2:Int)^(min (Int.toNat 58) IntKind.u64.bits)=288230376151711744:=by decide
  grind
 rw[←hidx] at hi htab hcell;rw[htab] at hcell
 have hidx':(idx:Int)<64:=by omega
 have hse:jJ w0 H ⟨2,0+Int.toNat ((idx:Nat):Int)*1,none⟩ (.int .u8 (c:Nat)):=by
  rw[show 0+Int.toNat ((idx:Nat):Int)*1=idx by simp];exact jJ.old hcell
 refine Call.enter1 (n:=14) (by rfl) Tryz.func298 rfl rfl rfl ?_;refine zai ?_;refine zC ?_;refine zax ?_;refine zcB ?_
 (first|(refine KL.v rfl (Val.neg rfl (by simp only[qL,qH];omega)) ?_)|(refine KL.v rfl (Val.negW rfl) ?_))
 rw[neg_nat h0 h];refine ziY ?_;rw[jeg h hxl,hlow']
 (first|(refine KL.v rfl (Val.mul rfl rfl (by simp only[qL,qH];omega)) ?_)|(refine KL.v rfl (Val.mulW rfl rfl) ?_))
 rw[hmul];refine zgL ?_;rw[hsh];refine zi0 ?_;refine zdm ?_;refine zaT ?_;exact zq
def nextB (bs:List Bool) (k:Nat) (v:Bool):Option Nat:=(List.range bs.length).find? fun i=>decide (k≤i)&&((bs[i]?).getD false==v)
theorem jmL {bs:List Bool} {k i:Nat} {v:Bool} (hi:i<bs.length) (hk:k≤i) (hv:(bs[i]?).getD false=v) (hl: ∀ j,k≤j→j<i→(bs[j]?).getD false≠v):nextB bs k v=some i:=by
 unfold nextB;rw[List.find?_range_eq_some]
 grind
theorem jjO {bs:List Bool} {k:Nat} {v:Bool} (h: ∀ j,k≤j→j<bs.length→(bs[j]?).getD false≠v):nextB bs k v=none:=by
 grind[nextB]
theorem jd4 {bs:List Bool} {k i:Nat} {v:Bool} (h:nextB bs k v=some i):i<bs.length∧k≤i∧(bs[i]?).getD false=v∧ ∀ j,k≤j→j<i→(bs[j]?).getD false≠v:=by
 unfold nextB at h;rw[List.find?_range_eq_some] at h
 grind
def turnN (v:Bool):Nat:=if v then 0 else 18446744073709551615
theorem jiY (v:Bool):turnN v<18446744073709551616:=by grind[turnN]
def jdl (k q:Nat):Nat:=if q=k/64 then 2^(k%64)-1 else 0
theorem jlN (k q:Nat):jdl k q<18446744073709551616:=by
 grind[jdl,jht]
def leftN (bs:List Bool) (k:Nat) (v:Bool) (q:Nat):Nat:=lessN (wordN bs q^^^turnN v) (jdl k q)
theorem xor_lt {a b:Nat} (ha:a<18446744073709551616) (hb:b<18446744073709551616):a^^^b<18446744073709551616:=Nat.xor_lt_two_pow (n:=64) (by omega) (by omega)
theorem left_lt (bs:List Bool) (k:Nat) (v:Bool) (q:Nat):leftN bs k v q<18446744073709551616:=jlr (xor_lt (jgM _ _) (jiY _))
theorem left_bit {bs:List Bool} {k q t:Nat} {v:Bool} (hq:k/64≤q) (ht:t<64):(leftN bs k v q).testBit t=(((bs[64*q+t]?).getD false==v)&&decide (k≤64*q+t)):=by
 unfold leftN;rw[jie (jlN _ _),Nat.testBit_xor,jfL]
 have e1:(turnN v).testBit t=!v:=by
  unfold turnN
  cases v
  ·simp only[Bool.false_eq_true,if_false];rw[show(18446744073709551615:Nat)=2^64-1 by decide,Nat.testBit_two_pow_sub_one];grind
  grind
 grind[jdl]
structure FrS where
 q:Nat
 A:jb
def frM (bi br bt k:Nat) (v:Bool) (rb:Nat):jb:=[(bi,cells [.int .i64 (k:Nat)] 3),(br,cells [.pointer (some ⟨rb,0,none⟩)] 129),(bt,cells [.int .u64 (turnN v:Nat)] 34)]
theorem jed {bi br bt k:Nat} {v:Bool} {rb:Nat} {F:jb}:frM bi br bt k v rb++F=(bi,cells [.int .i64 (k:Nat)] 3)::(br,cells [.pointer (some ⟨rb,0,none⟩)] 129)::(bt,cells [.int .u64 (turnN v:Nat)] 34)::F:=rfl
theorem from1_K {w0:World} {F A0:jb} {r:jaM} {k bi br bt:Nat} {v:Bool} {yv:Value} (ok:RowOk r) (J:Nat→jb→Prop) (E:jb→Prop) (hk:k≤65536)
  (hy: ∀ q A,k/64≤q→q<(wordsOf r.bs).length→J q A→CallV Tryz.prog w0 yv [.int .i64 (q:Nat), .int .u64 (leftN r.bs k v q:Nat)] (A++(frM bi br bt k v r.b++(jN r++F)))
   (fun u H'=>(u= .bool true∧ ∃ A',J (q+1) A'∧H'=A'++(frM bi br bt k v r.b++(jN r++F)))∨(u= .bool false∧ ∃ A',E A'∧H'=A'++(frM bi br bt k v r.b++(jN r++F)))))
  (h0:J (k/64) A0):
  Call Tryz.prog w0 327 [yv, .pointer (some ⟨bi,0,none⟩), .pointer (some ⟨br,0,none⟩), .pointer (some ⟨bt,0,none⟩)] (A0++(frM bi br bt k v r.b++(jN r++F)))
   (fun _ H'=> ∃ A',H'=A'++(frM bi br bt k v r.b++(jN r++F))∧((∃ q,(wordsOf r.bs).length≤q∧J q A')∨E A')):=by
 have ok1:=ok.o
 have hn:=ok.n
 have hpl:=jht (j:=k%64) (by omega)
 have hp1:1≤2^(k%64):=Nat.one_le_two_pow
 have hm:(k:Int)%64=((k%64:Nat):Int):=by omega
 have hd:(k:Int)/64=((k/64:Nat):Int):=by omega
 have ha0:((2^(k%64):Nat):Int)-1=((jdl k (k/64):Nat):Int):=by grind[jdl]
 have hwl:(wordsOf r.bs).length≤1024:=by grind[jcl]
 refine Call.enter4 (n:=37) (by rfl) Tryz.func327 rfl rfl rfl ?_;simp only[Jw,jed]
 skip
 refine za4 ?_;refine zhM ?_;refine zlH ?_;rw[hm];refine zkw ?_;rw[ji5 (j:=k%64) (by omega)];refine zp5 ?_;rw[ha0];refine zU ?_;refine za4 ?_;refine zhM ?_;refine zr1 ?_;rw[hd];refine zh8 ?_;refine K.loopT (σ:=FrS) [(0,_),(2,_),(3,_)] (fun s kp_=>(6, .int .i64 (s.q:Nat))::(5, .int .u64 (jdl k s.q:Nat))::kp_) (fun s=>s.A++(frM bi br bt k v r.b++(jN r++F))) (fun s=>k/64≤s.q∧J s.q s.A) (fun s=>(wordsOf r.bs).length-s.q) (⟨k/64,A0⟩) jc (by first|exact ja|(simp only[Jw,jed];exact ja)) (⟨Nat.le_refl _,h0⟩) ?_;rintro⟨q,A⟩ ⟨hq,hJ⟩;dsimp only at hq hJ⊢;simp only[Jw,jed]
 by_cases hlt:q<(wordsOf r.bs).length
 ·have hx:=jfa (bs:=r.bs) (k:=q) (by grind[jcl])
  have hlw:=jgM r.bs q
  refine zaF ?_;refine za0 ?_;refine zN ?_;refine zhL ?_;refine zI ?_;refine KL.nil (KE.next (K.condT rfl (K.skip (KE.next (K.seq (K.block (K.seq (K.seq ?_))))))));refine K.drawn [] [(0,0),(1,0),(2,0),(3,0),(4,0),(5,0),(6,0),(7,0),(8,0),(9,0),(10,0),(11,0),(12,0),(13,2),(14,0)] (by rfl) (by rfl) (by kernel_rfl) (by rfl) (by rfl) (by rfl) Part.nil ?_;refine zbo ?_;refine zcG ?_;refine zet ?_;refine zo ?_;refine zcI ?_;refine zfA ?_;refine zan ?_;refine KD.v0 rfl rfl (Val.xor rfl rfl) ?_;refine zo ?_;refine KD.v0 rfl rfl (Val.andNot rfl rfl) ?_;refine zk fun T hT=>?_;rw[xor_nat hlw (jiY v),jiH (xor_lt hlw (jiY v)) (jlN k q)];refine(CallV.part (hy q A hq hlt hJ) (by first|exact ja|(simp only[Jw,jed];exact ja))).mono ?_;rintro _ _ (⟨rfl,A',hJ',rfl⟩|⟨rfl,A',hE',rfl⟩)
  ·have h0':(0:Int)=((jdl k (q+1):Nat):Int):=by grind[jdl]
   refine zi ?_;clear hT T;refine KD.v0 rfl rfl (Val.notT rfl) ?_;refine zam ?_;refine KE.next (K.condF rfl (K.skip (KE.next (K.region ?_))));refine zaK ?_;refine zcj ?_;rw[show(Value.int .u64 0)=Value.int .u64 ((jdl k (q+1):Nat):Int) from by grind];exact KE.again ⟨q+1,A'⟩ jc (by first|exact ja|(simp only[Jw,jed];exact ja)) ⟨by grind,hJ'⟩ (by grind)
  ·refine zi ?_;clear hT T;refine zi1 ?_;refine zam ?_;refine KE.next (K.condT rfl ?_);refine zfy ?_;refine zrv ?_;refine zaS ?_;refine zef ?_;exact KE.fin je rfl jd (by first|exact ja|(simp only[Jw,jed];exact ja)) ⟨A',rfl, .inr hE'⟩
 ·refine K.seq ?_;refine zaH ?_;refine za0 ?_;refine zN ?_;refine zhL ?_;refine zin ?_;exact KE.finN je rfl jd (by first|exact ja|(simp only[Jw,jed];exact ja)) ⟨A,rfl, .inl ⟨q,by omega,hJ⟩⟩
theorem from_K {w0:World} {H:jb} {rb k:Nat} {v:Bool}:
  Call Tryz.prog w0 297 [.pointer (some ⟨rb,0,none⟩), .int .i64 (k:Nat), .int .u64 (turnN v:Nat)] H
   (fun u H'=> ∃ bi br bt,u= .func (.func 327) #[] [.pointer (some ⟨bi,0,none⟩), .pointer (some ⟨br,0,none⟩), .pointer (some ⟨bt,0,none⟩)].toArray∧H'=frM bi br bt k v rb++H):=by
 refine Call.enter3 (n:=8) (by rfl) Tryz.func297 rfl rfl rfl ?_;refine zew ?_;intro b3 b4;refine zfz ?_;intro b5;refine zah ?_;refine za5 ?_;refine zm ?_;exact KE.fin (H':=frM b4 b3 b5 k v rb++H) je rfl jd (by rw[jed];exact ja) ⟨b4,b3,b5,rfl,rfl⟩
def nxI (o:Option Nat):Int:=((o.getD 0:Nat):Int)
def NxJ (l D:Nat) (rc:Rec) (b7 b6 b3 rb:Nat) (bs:List Bool) (k:Nat) (v:Bool) (q:Nat) (A:jb):Prop:=
 A=[(l, .loop (rc .ready none)),(D, .deferred (some [])),(b7,cells [.bool false] 4),(b6,cells [.int .i64 0] 3),(b3,cells [.pointer (some ⟨rb,0,none⟩)] 129)]∧ ∀ j,k≤j→j<64*q→j<bs.length→(bs[j]?).getD false≠v
def NxE (l D:Nat) (rc:Rec) (b7 b6 b3 rb:Nat) (bs:List Bool) (k:Nat) (v:Bool) (A:jb):Prop:=
 ∃ i:Nat,nextB bs k v=some i∧A=[(l, .loop (rc .done (some .ret))),(D, .deferred (some [])),(b7,cells [.bool true] 4),(b6,cells [.int .i64 (i:Nat)] 3),(b3,cells [.pointer (some ⟨rb,0,none⟩)] 129)]
set_option maxHeartbeats 2000000 in
theorem jhz {w0:World} {F:jb} {r:jaM} {k:Nat} {v:Bool} (ok:RowOk r) (hG:ji w0) (hk:k≤1000000):
  Call Tryz.prog w0 252 [.pointer (some ⟨r.b,0,none⟩), .int .i64 (k:Nat), .bool v] (jN r++F)
   (fun u H'=>u= .tuple [.int .i64 (nxI (nextB r.bs k v)), .bool (nextB r.bs k v).isSome].toArray∧H'=jN r++F):=by
 have hmax:(if ((k:Nat):Int)<0 then(0:Int) else((k:Nat):Int))=((k:Nat):Int):=if_neg (by omega)
 have hn:=ok.n
 have hwl:(wordsOf r.bs).length≤1024:=by rw[jcl];omega
 refine Call.enter3 (n:=36) (by kernel_rfl) Tryz.func252 rfl rfl rfl ?_;refine zbc ?_;intro b3 b6;refine zbe ?_;intro b7;refine zal ?_;refine zU ?_;refine K.cutT (σ:=Unit) [(1,_),(3,_),(6,_),(7,_)] jc (fun s kp_=>(8, .int .u64 (turnN v:Nat))::kp_) (fun s=>(b7,cells [.bool false] 4)::(b6,cells [.int .i64 0] 3)::(b3,cells [.pointer (some ⟨r.b,0,none⟩)] 129)::(jN r++F)) (fun s=>True) ?_ ?_
 ·cases v with
  |true=>
   refine zaH ?_;refine zak ?_;refine zaK ?_;exact zkx
  |false=>
   refine zaH ?_;refine zat ?_;exact zkx
 ·rintro _ _
  skip
  refine zZ ?_;refine KL.v rfl (Val.max rfl rfl) ?_;rw[hmax];refine zbX ?_;refine zw ?_;refine zz fun T hT=>?_;refine(CallV.part (CallV.fn (has_K (r:=r) (i:=(k:Nat)))) ja).mono ?_;rintro _ _ ⟨rfl,rfl⟩
  by_cases hkl:k<r.bs.length
  ·rw[decide_eq_true (show 0≤((k:Nat):Int)∧((k:Nat):Int)<(r.bs.length:Nat) by omega)];refine ze ?_;clear hT T;refine zy ?_;refine za6 ?_;refine zw ?_;refine zbq ?_;refine JY (from_K (rb:=r.b) (k:=k) (v:=v)) ?_;rintro _ _ ⟨bi,br,bt,rfl,rfl⟩;refine zc1 ?_;refine K.rangeFunc (lb:=[.pointer (some ⟨bi,0,none⟩), .pointer (some ⟨br,0,none⟩), .pointer (some ⟨bt,0,none⟩)]) rfl
    (fun D G=>G=(b7,cells [.bool false] 4)::(b6,cells [.int .i64 0] 3)::(b3,cells [.pointer (some ⟨r.b,0,none⟩)] 129)::(D, .deferred (some []))::(jN r++F)∧nextB r.bs k v=none)
    (fun D c G=>c= .ret∧ ∃ i:Nat,nextB r.bs k v=some i∧G=(b7,cells [.bool true] 4)::(b6,cells [.int .i64 (i:Nat)] 3)::(b3,cells [.pointer (some ⟨r.b,0,none⟩)] 129)::(D, .deferred (some []))::(jN r++F)) ?_ ?_ ?_
   ·intro l D rc hyl
    refine(Call.part (from1_K (F:=F) (r:=r) (k:=k) (v:=v) (bi:=bi) (br:=br) (bt:=bt) ok (NxJ l D rc b7 b6 b3 r.b r.bs k v) (NxE l D rc b7 b6 b3 r.b r.bs k v) (by omega)
     (A0:=[(l, .loop (rc .ready none)),(D, .deferred (some [])),(b7,cells [.bool false] 4),(b6,cells [.int .i64 0] 3),(b3,cells [.pointer (some ⟨r.b,0,none⟩)] 129)]) ?_ ⟨rfl,fun j h1 h2=>by omega⟩) (by simp only[List.cons_append,List.nil_append];exact ja)).mono ?_
    ·rintro q A hq hql ⟨rfl,hno⟩
     have hlw:=left_lt r.bs k v q
     obtain⟨w,hw⟩: ∃ w,w=leftN r.bs k v q:=⟨_,rfl⟩
     have hbit: ∀ t,t<64→w.testBit t=(((r.bs[64*q+t]?).getD false==v)&&decide (k≤64*q+t)):=fun t ht=>by rw[hw];exact left_bit hq ht
     rw[←hw] at hlw⊢;simp only[List.cons_append,List.nil_append];refine zqc ?_;refine za4 ?_;refine zaK ?_;refine za4 ?_;refine zlx ?_;refine K.block ?_
     by_cases hw0:w=0
     ·have hw0':(w:Int)=0:=by omega
      refine zaF ?_;refine zO ?_;refine zaR ?_;refine zrL ?_;refine zr4 ?_
      exact KE.roundN jI.head (.inl ⟨rfl,_,⟨rfl,fun j h1 h2 h3 hv=>by
       by_cases hj:j<64*q
       ·exact hno j h1 hj h3 hv
       ·have:=hbit (j-64*q) (by omega)
        rw[hw0,show 64*q+(j-64*q)=j by omega,hv] at this
        simp at this;omega⟩,rfl⟩)
     ·have hw0': ¬(w:Int)=0:=by omega
      obtain⟨c1,c2,c3⟩:=ctz_bit hw0 hlw
      have hb:=hbit _ c1
      rw[c2] at hb;simp only[Bool.true_eq,Bool.and_eq_true,beq_iff_eq,decide_eq_true_eq] at hb;refine zaF ?_;refine zC ?_;refine zba ?_;refine KL.v rfl (Val.mul rfl rfl (by simp only[qL,qH];omega)) ?_;refine zz fun T hT=>?_;refine(CallV.fn (ctz_K hG hlw hw0)).mono ?_;rintro _ _ ⟨rfl,rfl⟩
      obtain⟨c,hc⟩: ∃ c,c=Lib.ctz 64 w:=⟨_,rfl⟩
      rw[←hc] at c1 c2 c3 hb⊢
      have hqc:(q:Int)*64+(c:Int)=((64*q+c:Nat):Int):=by omega
      refine ze ?_;clear hT T;refine zbl ?_;refine zgs ?_;refine zz fun T hT=>?_;rw[hqc];refine(CallV.part (CallV.fn (has_K (r:=r) (i:=((64*q+c:Nat):Int)))) ja).mono ?_;rintro _ _ ⟨rfl,rfl⟩
      have hlow: ∀ j,k≤j→j<64*q+c→j<r.bs.length→(r.bs[j]?).getD false≠v:=fun j h1 h2 h3 hv=>by
       by_cases hj:j<64*q
       ·exact hno j h1 hj h3 hv
       ·have h4:=c3 (j-64*q) (by omega)
        have h5:=hbit (j-64*q) (by omega)
        rw[h4,show 64*q+(j-64*q)=j by omega,hv] at h5
        simp at h5;omega
      by_cases hin:64*q+c<r.bs.length
      ·rw[decide_eq_true (show 0≤((64*q+c:Nat):Int)∧((64*q+c:Nat):Int)<(r.bs.length:Nat) by omega)];refine ze ?_;clear hT T;refine zbP ?_;refine zaq ?_;refine zdB ?_;refine zef ?_;refine KE.part ((l, .loop (rc .busy none))::([(D, .deferred (some [])),(b7,cells [.bool true] 4),(b6,cells [.int .i64 ((64*q+c:Nat):Int)] 3),(b3,cells [.pointer (some ⟨r.b,0,none⟩)] 129)]++(frM bi br bt k v r.b++(jN r++F)))) (by simp only[List.cons_append,List.nil_append];rw [←hqc];exact ja) ?_;exact KE.roundR jI.head (.inr ⟨rfl,_,⟨64*q+c,jmL hin hb.2 hb.1 fun j h1 h2=>hlow j h1 h2 (by omega),rfl⟩,rfl⟩)
      ·rw[decide_eq_false (show ¬(0≤((64*q+c:Nat):Int)∧((64*q+c:Nat):Int)<(r.bs.length:Nat)) by omega)];refine ze ?_;clear hT T;refine zh6 ?_;refine zr4 ?_;exact KE.roundN jI.head (.inl ⟨rfl,_,⟨rfl,fun j h1 h2 h3=>hlow j h1 (by omega) h3⟩,rfl⟩)
    ·rintro u H' ⟨A',rfl,(⟨q,hq,rfl,hno⟩|⟨i,hi,rfl⟩)⟩
     ·refine .inl ⟨_,?_,rfl,jjO fun j h1 h2=>hno j h1 (by rw[jcl] at hq;omega) h2⟩;exact zlk
     ·refine .inr ⟨.ret,_,?_,rfl,i,hi,rfl⟩;exact zlk
   ·rintro D G ⟨rfl,hnx⟩;rw[hnx];refine zaw ?_;refine zV ?_;refine zaq ?_;refine zdB ?_;exact zH
   ·rintro D c G ⟨rfl,i,hi,rfl⟩;rw[hi];refine ziP ?_;exact zH
  ·rw[decide_eq_false (show ¬(0≤((k:Nat):Int)∧((k:Nat):Int)<(r.bs.length:Nat)) by omega)]
   have hnx:nextB r.bs k v=none:=jjO fun j h1 h2=>by omega
   refine ze ?_;clear hT T;rw[hnx];refine zaQ ?_;refine zaq ?_;refine zdB ?_;refine zaS ?_;exact zH
open Go.RowKit
set_option maxRecDepth 10000
structure HdP where
 c:Int
 r:Int
 w:Int
def hdV (h:HdP):Value:= .agg [.int .i64 h.c, .int .i64 h.r, .int .i64 h.w].toArray
def JT (h:HdP):Bool:=decide (0≤h.c∧h.c<8∧0≤h.r∧0≤h.w∧h.r≤63∧h.w≤63-h.r)
theorem jhv {w0:World} {H:jb} {h:HdP}:Call Tryz.prog w0 226 [hdV h] H (fun r H'=>r= .bool (JT h)∧H'=H):=by
 obtain⟨c,r,w⟩:=h
 unfold hdV
 have yes:(0≤c∧c<8∧0≤r∧0≤w∧r≤63∧w≤63-r)→JT ⟨c,r,w⟩=true:=fun h=>decide_eq_true h
 have no: ¬(0≤c∧c<8∧0≤r∧0≤w∧r≤63∧w≤63-r)→JT ⟨c,r,w⟩=false:=fun h=>decide_eq_false h
 refine Call.enter1 (n:=34) (by rfl) Tryz.func226 rfl rfl rfl ?_
 by_cases h1:c≥0
 ·by_cases h2:c<8
  ·by_cases h3:r≥0
   ·by_cases h4:w≥0
    ·by_cases h5:r≤63
     ·by_cases h6:w≤63-r
      ·rw[yes ⟨h1,h2,h3,h4,h5,h6⟩];refine ziQ ?_;intro b1;refine zac ?_;refine zaV ?_;refine zI ?_;refine zgc ?_;refine zac ?_;refine zbH ?_;refine zc8 ?_;refine zac ?_;refine zgc ?_;refine zec ?_;refine zbH ?_;refine zc8 ?_;refine zbK ?_;refine ziO ?_;refine zec ?_;exact zbO
      ·rw[no (by omega)];refine ziQ ?_;intro b1;refine zac ?_;refine zaV ?_;refine zI ?_;refine zgc ?_;refine zac ?_;refine zbH ?_;refine zc8 ?_;refine zac ?_;refine zgc ?_;refine zec ?_;refine zbH ?_;refine zc8 ?_;refine zbK ?_;refine ziO ?_;refine zhN ?_;exact zbO
     ·rw[no (by omega)];refine ziQ ?_;intro b1;refine zac ?_;refine zaV ?_;refine zI ?_;refine zgc ?_;refine zac ?_;refine zbH ?_;refine zc8 ?_;refine zac ?_;refine zgc ?_;refine zhN ?_;refine zA ?_;refine zhi ?_;exact zq
    ·rw[no (by omega)];refine ziQ ?_;intro b1;refine zac ?_;refine zaV ?_;refine zI ?_;refine zgc ?_;refine zac ?_;refine zbH ?_;refine zc8 ?_;refine zbS ?_;refine zA ?_;refine zbg ?_;refine zhi ?_;exact zq
   ·rw[no (by omega)];refine ziQ ?_;intro b1;refine zac ?_;refine zaV ?_;refine zI ?_;refine zgc ?_;refine zbS ?_;refine zA ?_;refine zbg ?_;refine zbg ?_;refine zhi ?_;exact zq
  ·rw[no (by omega)];refine ziQ ?_;intro b1;refine zac ?_;refine zaV ?_;refine zW ?_;refine zA ?_;refine zbg ?_;refine zbg ?_;refine zbg ?_;refine zhi ?_;exact zq
 ·rw[no (by omega)];refine ziQ ?_;intro b1;refine zpy ?_;refine zbg ?_;refine zbg ?_;refine zbg ?_;refine zhi ?_;exact zq
theorem wd_ok:WsOk wdL:=⟨by decide,by decide,by decide⟩
theorem wd_sees {w0:World} {H:jb} (hG:ji w0):SeesA w0 H ⟨0,0,none⟩ 5 [.int .i64 16, .int .i64 16, .int .i64 16, .int .i64 8, .int .i64 8]:=by
 refine⟨rfl,fun j v hj=>jJ.old ?_⟩
 have e:(Addr.mk 0 0 none).add j=⟨0,j,none⟩:=by
  unfold Addr.add;grind
 rw[e]
 match j,hj with
 |0,hj=>cases hj;exact hG.wd 0 16 rfl
 |1,hj=>cases hj;exact hG.wd 1 16 rfl
 |2,hj=>cases hj;exact hG.wd 2 16 rfl
 |3,hj=>cases hj;exact hG.wd 3 8 rfl
 |4,hj=>cases hj;exact hG.wd 4 8 rfl
 |j+5,hj=>grind
def putN (c r w:Nat):Nat:=w*2^16+r*2^32+c*2^48+199*2^56
theorem pack_put (c r w:Nat):packK wdL [0,w,r,c,199] 5=putN c r w:=by
 have h1:=jc6 (ws:=wdL) (vs:=[0,w,r,c,199]) (k:=0) rfl
 have h2:=jc6 (ws:=wdL) (vs:=[0,w,r,c,199]) (k:=1) rfl
 have h3:=jc6 (ws:=wdL) (vs:=[0,w,r,c,199]) (k:=2) rfl
 have h4:=jc6 (ws:=wdL) (vs:=[0,w,r,c,199]) (k:=3) rfl
 have h5:=jc6 (ws:=wdL) (vs:=[0,w,r,c,199]) (k:=4) rfl
 have e0:packK wdL [0,w,r,c,199] 0=0:=rfl
 rw[show(wdL.take 0).sum=0 from rfl] at h1;rw[show(wdL.take 1).sum=16 from rfl] at h2;rw[show(wdL.take 2).sum=32 from rfl] at h3;rw[show(wdL.take 3).sum=48 from rfl] at h4;rw[show(wdL.take 4).sum=56 from rfl] at h5;rw[h5,h4,h3,h2,h1,e0];unfold putN
 generalize 2^16=a
 generalize 2^32=b
 generalize 2^48=d
 generalize 2^56=e
 rw[Nat.zero_mul,Nat.zero_add]
theorem packed_K {w0:World} {H:jb} {vv:Value} {c r w:Nat} (hG:ji w0) (hc8:c<8) (hr:r<64) (hw:w<64) (hV:Sli w0 H uE vv (natL [0,w,r,c,199])) (hc:vv.cells=[vv].toArray):
  Call Tryz.prog w0 299 [vv] H (fun u H'=>u= .int .u64 (putN c r w:Nat)∧H'=H):=by
 have hwd:=wd_sees (H:=H) hG
 refine Call.enter1 (n:=14) (by rfl) Tryz.func299 rfl rfl rfl ?_;refine zav ?_;refine zky ?_;refine zbQ ?_;intro b3;refine KL.v rfl (Val.sliceA rfl rfl rfl) ?_;refine zz fun T hT=>?_;refine(CallV.fn (Pack_K (ws:=wdL) (vs:=[0,w,r,c,199]) wd_ok rfl ?_ (Sli.blk ju rfl (by decide) (by decide) rfl) (hV.part ja) hc)).mono ?_
 ·grind[hi,wdL]
 ·rintro _ _ ⟨rfl,rfl⟩;rw[show packK wdL [0,w,r,c,199] wdL.length=putN c r w from pack_put c r w];refine ze ?_;clear hT T;refine zY ?_;refine zap ?_;exact zq
theorem Put_K {w0:World} {H:jb} {h:HdP} (hG:ji w0) (hm:JT h=true):
  Call Tryz.prog w0 255 [hdV h] H (fun u H'=>u= .tuple [.int .u64 (putN h.c.toNat h.r.toNat h.w.toNat:Nat), .int .i64 0].toArray∧H'=H):=by
 obtain⟨c,r,w⟩:=h
 have hb:0≤c∧c<8∧0≤r∧0≤w∧r≤63∧w≤63-r:=of_decide_eq_true hm
 obtain⟨c,rfl⟩: ∃ q:Nat,c=q:=⟨c.toNat,by omega⟩
 obtain⟨r,rfl⟩: ∃ q:Nat,r=q:=⟨r.toNat,by omega⟩
 obtain⟨w,rfl⟩: ∃ q:Nat,w=q:=⟨w.toNat,by omega⟩
 have hu:hdV ⟨(c:Int),(r:Int),(w:Int)⟩= .agg [.int .i64 (c:Int), .int .i64 (r:Int), .int .i64 (w:Int)].toArray:=rfl
 rw[hu];dsimp only[Int.toNat_natCast];refine Call.enter1 (n:=18) (by rfl) Tryz.func255 rfl rfl rfl ?_;refine zb7 ?_;intro b1;refine zcY fun T hT=>?_;refine(CallV.fn (jhv (h:=⟨(c:Int),(r:Int),(w:Int)⟩))).mono ?_;rintro _ _ ⟨rfl,rfl⟩;rw[hm];refine ze ?_;clear hT T;refine zy ?_;refine zK ?_;refine zaa ?_;refine zaT ?_;refine zae ?_;refine zaT ?_;refine zN ?_;refine zaT ?_;refine zar ?_;intro b16;refine zp ?_;refine jp (packed_K (c:=c) (r:=r) (w:=w) hG (by omega) (by omega) (by omega) (Sli.blk ju rfl (by simp[natL]) (by decide) rfl) rfl) ?_;exact zb5
def getH (w:Nat):Option HdP:=
 if w%2^16=0∧w/2^56%2^8=199∧JT ⟨((w/2^48%2^8:Nat):Int),((w/2^32%2^16:Nat):Int),((w/2^16%2^16:Nat):Int)⟩=true then some ⟨((w/2^48%2^8:Nat):Int),((w/2^32%2^16:Nat):Int),((w/2^16%2^16:Nat):Int)⟩ else none
theorem dig_wd (w:Nat):digK wdL w 5=[w%2^16,w/2^16%2^16,w/2^32%2^16,w/2^48%2^8,w/2^56%2^8]:=by
 have h1:=jdt (ws:=wdL) (w:=w) (k:=0) rfl
 have h2:=jdt (ws:=wdL) (w:=w) (k:=1) rfl
 have h3:=jdt (ws:=wdL) (w:=w) (k:=2) rfl
 have h4:=jdt (ws:=wdL) (w:=w) (k:=3) rfl
 have h5:=jdt (ws:=wdL) (w:=w) (k:=4) rfl
 have e0:digK wdL w 0=[]:=rfl
 rw[show(wdL.take 0).sum=0 from rfl,Nat.pow_zero,Nat.div_one] at h1;rw[show(wdL.take 1).sum=16 from rfl] at h2;rw[show(wdL.take 2).sum=32 from rfl] at h3;rw[show(wdL.take 3).sum=48 from rfl] at h4;rw[show(wdL.take 4).sum=56 from rfl] at h5;rw[h5,h4,h3,h2,h1,e0]
 rfl
def hGetP (w:Nat):Value:=match getH w with
 |some h=> .tuple [hdV h, .int .i64 0].toArray
 |none=> .tuple [hdV ⟨0,0,0⟩, .int .i64 5].toArray
theorem hGet_K {w0:World} {H:jb} {w:Nat} (hG:ji w0) (hw:w<18446744073709551616):
  Call Tryz.prog w0 168 [.int .u64 (w:Nat)] H (fun u H'=>u=hGetP w∧H'=H):=by
 obtain⟨d0,hd0⟩: ∃ d,d=w%2^16:=⟨_,rfl⟩
 obtain⟨d1,hd1⟩: ∃ d,d=w/2^16%2^16:=⟨_,rfl⟩
 obtain⟨d2,hd2⟩: ∃ d,d=w/2^32%2^16:=⟨_,rfl⟩
 obtain⟨d3,hd3⟩: ∃ d,d=w/2^48%2^8:=⟨_,rfl⟩
 obtain⟨d4,hd4⟩: ∃ d,d=w/2^56%2^8:=⟨_,rfl⟩
 have b1:d1<65536:=by omega
 have b2:d2<65536:=by omega
 have b3':d3<256:=by omega
 have hg:getH w=if d0=0∧d4=199∧JT ⟨(d3:Int),(d2:Int),(d1:Int)⟩=true then some ⟨(d3:Int),(d2:Int),(d1:Int)⟩ else none:=by grind[getH]
 obtain⟨D,hD⟩: ∃ D,D=natL (digK wdL w wdL.length):=⟨_,rfl⟩
 have hD':D=[(d0:Int),(d1:Int),(d2:Int),(d3:Int),(d4:Int)]:=by
  rw[hD,show wdL.length=5 from rfl,dig_wd,←hd0,←hd1,←hd2,←hd3,←hd4];rfl
 have hDl:D.length=5:=by grind
 have x0:D[Int.toNat 0]?=some (d0:Int):=by grind
 have x1:D[Int.toNat 1]?=some (d1:Int):=by grind
 have x2:D[Int.toNat 2]?=some (d2:Int):=by grind
 have x3:D[Int.toNat 3]?=some (d3:Int):=by grind
 have x4:D[Int.toNat 4]?=some (d4:Int):=by grind
 clear hd0 hd1 hd2 hd3 hd4 hD';refine Call.enter1 (n:=45) (by rfl) Tryz.func168 rfl rfl rfl ?_;refine zbx ?_;intro b2;refine zU ?_
 have hwd:=wd_sees (H:=(b2,cells [.int .i64 0, .int .i64 0, .int .i64 0] 233)::H) hG
 refine zG ?_;refine zky ?_;refine zbQ ?_;intro b4;refine KL.v rfl (Val.sliceA rfl rfl rfl) ?_;refine zz fun T hT=>?_;refine(CallV.fn (jlR (ws:=wdL) wd_ok rfl hw (Sli.blk ju rfl (by decide) (by decide) rfl))).mono ?_;rintro _ _ ⟨o,ko,rfl,rfl⟩;rw[←hD] at ko⊢;refine ze ?_;clear hT T;refine zY ?_;refine zdK ?_;refine K.drawn _ [(0,1),(1,1),(2,1),(3,1),(4,1),(5,1),(6,1),(7,1),(8,1),(9,1),(10,1),(11,1),(12,1),(13,2),(14,2)] (by rfl) (by rfl) (by kernel_rfl) (by rfl) (by rfl) (by rfl) Part.all ?_;refine zP ?_;refine zqd ?_;refine zlI ?_;refine zhO ?_;refine zP ?_;refine zqd ?_;refine zlI ?_;refine zhO ?_;refine zP ?_;refine zqd ?_;refine zlI ?_;refine zhO ?_;refine KD.v1 rfl rfl (Val.build jdh rfl rfl jdk) ?_;refine ze4 ?_;intro b7;refine zlJ ?_;refine zfU ?_;refine zb9 ?_
 have hres: ∀ b:Bool,b=JT ⟨(d3:Int),(d2:Int),(d1:Int)⟩→hGetP w=if d0=0∧d4=199∧b=true then .tuple [.agg [.int .i64 (d3:Nat), .int .i64 (d2:Nat), .int .i64 (d1:Nat)].toArray, .int .i64 0].toArray else .tuple [.agg [.int .i64 0, .int .i64 0, .int .i64 0].toArray, .int .i64 5].toArray:=fun b hb=>by
  unfold hGetP;rw[hg,hb]
  by_cases h:d0=0∧d4=199∧JT ⟨(d3:Int),(d2:Int),(d1:Int)⟩=true
  ·rw[if_pos h,if_pos h];rfl
  ·rw[if_neg h,if_neg h];rfl
 by_cases h0:(d0:Int)≠0
 ·have hr:=hres _ rfl
  rw[if_neg (by omega)] at hr;rw[hr];refine zaF ?_;refine zlK ?_;refine zdp ?_;refine zM ?_;refine zgd ?_;refine zem ?_;refine zbh ?_;refine zcQ ?_;exact zaL
 by_cases h4:(d4:Int)≠199
 ·have hr:=hres _ rfl
  rw[if_neg (by omega)] at hr;rw[hr];refine zaF ?_;refine zlK ?_;refine zdp ?_;refine zfh ?_;refine zlK ?_;refine zl ?_;refine zdp ?_;refine zl ?_;refine zM ?_;refine zx ?_;refine zem ?_;refine zbh ?_;refine zcQ ?_;exact zaL
 refine zaF ?_;refine zlK ?_;refine zdp ?_;refine zfh ?_;refine zlK ?_;refine zl ?_;refine zdp ?_;refine zl ?_;refine zcz ?_;refine zd4 ?_;refine zu fun T hT=>?_;refine(CallV.fn (jhv (h:=⟨(d3:Int),(d2:Int),(d1:Int)⟩))).mono ?_;rintro _ _ ⟨rfl,rfl⟩
 cases hm:JT ⟨(d3:Int),(d2:Int),(d1:Int)⟩ with
 |true=>
  have hr:=hres true hm.symm
  rw[if_pos ⟨by omega,by omega,rfl⟩] at hr;refine ze ?_;clear hT T;rw[hr];refine zpI ?_;refine zaX ?_;refine zau ?_;refine zeV ?_;exact zq
 |false=>
  have hr:=hres false hm.symm
  rw[if_neg (by simp)] at hr;refine ze ?_;clear hT T;rw[hr];refine zeC ?_;refine za8 ?_;refine zcQ ?_;exact zaL
open Go.RowKit
set_option maxRecDepth 10000
def jac (x:List Int):Prop:= ∀ w∈x,0≤w∧w<18446744073709551616
theorem jac.set {x:List Int} (h:jac x) {a:Nat} {w:Int} (hw:0≤w∧w<18446744073709551616):jac (x.set a w):=by
 intro v hv
 rcases List.mem_or_eq_of_mem_set hv with h1|h1
 ·exact h v h1
 omega
theorem jac.cleared {x:List Int} (h:jac x) {a b:Nat}:jac (cleared x a b 0):=by
 intro v hv;simp only[Go.Proofs.YtebiafomiemgbaaGreatDoor.cleared,List.mem_append] at hv
 rcases hv with(h1|h1)|h1
 ·exact h v (List.mem_of_mem_take h1)
 ·grind
 ·exact h v (List.mem_of_mem_drop h1)
theorem jac.rep (n:Nat):jac (List.replicate n 0):=by
 intro v hv;grind
def wAt (x:List Int) (a:Nat):Int:=(x[a]?).getD 0
theorem wAt_get {x:List Int} {a:Nat} (h:a<x.length):x[a]?=some (wAt x a):=by
 grind[wAt]
theorem jac.at_ {x:List Int} (h:jac x) (a:Nat):0≤wAt x a∧wAt x a<18446744073709551616:=by
 unfold wAt
 cases hx:x[a]? with
 |none=>simp
 |some w=>exact h w (List.mem_of_getElem? hx)
def jaz (p:jq) (h:HdP):Bool:=JT h&&(decide (h.c=p.cls)&&decide (h.r+h.w+1≤p.size))
def headP (x:List Int) (p:jq):Option HdP:=match getH (wAt x p.addr).toNat with
 |some h=>if jaz p h then some h else none
 |none=>none
def J6 (x:List Int) (p:jq):List Int:=cleared x p.addr (p.addr+p.size) 0
def putW (h:HdP):Int:=(putN h.c.toNat h.r.toNat h.w.toNat:Nat)
def makeP (x:List Int) (p:jq) (h:HdP):Int × List Int:=
 if jaz p h then(if (headP x p).isSome then(8,x) else(0,(J6 x p).set p.addr (putW h))) else(2,x)
def fldP (x:List Int) (p:jq) (ref:Bool) (i:Int):Int:=match headP x p with
 |none=>5
 |some h=>if 0≤i∧i<h.r+h.w∧decide (i<h.r)=ref then 0 else 110
def fAt (p:jq) (i:Int):Nat:=p.addr+1+i.toNat
def refP (x:List Int) (n:Nat) (p:jq) (i:Int):Int × Int:=
 if fldP x p true i=0 then(if wAt x (fAt p i)>n then(0,5) else(wAt x (fAt p i)-1,0)) else(0,fldP x p true i)
def Jy (x:List Int) (n:Nat) (p:jq) (i to:Int):Int × List Int:=
 if to< -1∨to≥n then(2,x) else if fldP x p true i=0 then(0,x.set (fAt p i) (to+1)) else(fldP x p true i,x)
def wordP (x:List Int) (p:jq) (i:Int):Int × Int:=
 if fldP x p false i=0 then(wAt x (fAt p i),0) else(0,fldP x p false i)
def JV (x:List Int) (p:jq) (i w:Int):Int × List Int:=
 if fldP x p false i=0 then(0,x.set (fAt p i) w) else(fldP x p false i,x)
theorem jdI {p:jq} {h:HdP} (e:jaz p h=true):JT h=true∧h.c=p.cls∧h.r+h.w+1≤p.size:=by
 grind[jaz]
theorem jfk {x:List Int} {p:jq} {h:HdP} (e:headP x p=some h):getH (wAt x p.addr).toNat=some h∧jaz p h=true:=by
 grind[headP,getH,wAt]
theorem jaq {x:List Int} {p:jq} {ref:Bool} {i:Int} (e:fldP x p ref i=0):0≤i∧fAt p i<p.addr+p.size∧p.addr<fAt p i:=by
 unfold fldP at e
 cases hh:headP x p with
 |none=>grind
 |some h=>
  rw[hh] at e;dsimp only at e
  obtain⟨_,hl⟩:=jfk hh
  obtain⟨hm,_,hs⟩:=jdI hl
  grind[JT,fAt]
theorem jd0 {x:List Int} {p:jq} (h:p.addr+p.size≤x.length):(J6 x p).length=x.length:=jgw (by omega) h
theorem jiG {x:List Int} {p:jq} {h:HdP} (hp:p.addr+p.size≤x.length):(makeP x p h).2.length=x.length:=by
 grind[makeP,jd0]
theorem jjN {x:List Int} {n:Nat} {p:jq} {i to:Int}:(Jy x n p i to).2.length=x.length:=by
 grind[Jy]
theorem jmc {x:List Int} {p:jq} {i w:Int}:(JV x p i w).2.length=x.length:=by
 grind[JV]
theorem putW_bnd {h:HdP} (hm:JT h=true):0≤putW h∧putW h<18446744073709551616:=by
 grind[JT,putW,putN]
theorem jjd {x:List Int} {p:jq} {h:HdP} (hx:jac x):jac (makeP x p h).2:=by
 unfold makeP;split
 ·rename_i hl
  split
  ·omega
  ·exact(jac.cleared hx).set (putW_bnd (jdI hl).1)
 omega
theorem jmB {x:List Int} {p:jq} {i w:Int} (hx:jac x) (hw:0≤w∧w<18446744073709551616):jac (JV x p i w).2:=by
 unfold JV;split
 ·exact hx.set hw
 omega
theorem jj9 {x:List Int} {n:Nat} {p:jq} {i to:Int} (hx:jac x) (hn:n≤1000000):jac (Jy x n p i to).2:=by
 unfold Jy;split
 ·omega
 ·split
  ·exact hx.set (by omega)
  omega
def usedL:List jq→List Bool→Nat
 | [],_=>0
 |_,[]=>0
 |p::l,b::A=>(if b then p.size else 0)+usedL l A
theorem jfX: ∀ {l:List jq} {A:List Bool} {i:Nat} {p:jq} (v:Bool),l[i]?=some p→i<A.length→usedL l (A.set i v)+(if A[i]?=some true then p.size else 0)=usedL l A+(if v then p.size else 0)
 |p::l,b::A,0,p',v,h,hA=>by
  grind[usedL]
 |p::l,b::A,i+1,p',v,h,hA=>by
  simp only[List.getElem?_cons_succ] at h
  have:=jfX (l:=l) (A:=A) (i:=i) v h (by grind)
  grind[usedL]
 | [],A,i,p',v,h,hA=>by grind
theorem used_le {B:Nat}: ∀ {l:List jq} {A:List Bool},(∀ p∈l,p.size≤B)→usedL l A≤l.length*B
 | [],A,_=>by simp[usedL]
 |p::l,[],_=>by simp[usedL]
 |p::l,b::A,h=>by
  have h1:=used_le (l:=l) (A:=A) (fun q hq=>h q (.tail _ hq))
  have h2:=h p (.head _)
  simp only[usedL,List.length_cons,Nat.succ_mul]
  grind
theorem jkS: ∀ {l:List jq} {n:Nat},usedL l (List.replicate n false)=0
 | [],n=>by rfl
 |p::l,0=>rfl
 |p::l,n+1=>by simp[usedL,List.replicate_succ,jkS (l:=l) (n:=n)]
def jb8 (A:List Bool) (first many:Nat):Option Nat:=((List.range many).map (first+ ·)).find? fun i=>(A[i]?).getD true=false
theorem jdY {A:List Bool} {f m i:Nat} (h:jb8 A f m=some i):f≤i∧i<f+m∧A[i]?=some false∧ ∀ j,f≤j→j<i→A[j]?≠some false:=by
 unfold jb8 at h;rw[List.find?_eq_some_iff_append] at h
 obtain⟨hp,la,lb,he,hn⟩:=h
 have hl:la.length+(lb.length+1)=m:=by have:=congrArg List.length he;simpa using this.symm
 have hi:i=f+la.length:=by
  have h2:((List.range m).map (f+ ·))[la.length]?=some i:=by rw[he];simp
  rw[List.getElem?_map,List.getElem?_range (by omega)] at h2
  simpa using h2.symm
 refine⟨by omega,by omega,?_,?_⟩
 ·cases hx:A[i]? with
  |none=>rw [hx] at hp;simp at hp
  |some b=>rw [hx] at hp;simp at hp;rw [hp]
 ·intro j hj1 hj2 hj
  have h2:((List.range m).map (f+ ·))[j-f]?=some j:=by
   rw[List.getElem?_map,List.getElem?_range (by omega)];simp;omega
  rw[he,List.getElem?_append_left (by omega)] at h2
  have:=hn j (List.mem_of_getElem? h2)
  rw[hj] at this
  simp at this
theorem jkC {A:List Bool} {f m:Nat} (h:jb8 A f m=none): ∀ j,f≤j→j<f+m→A[j]?≠some false:=by
 intro j h1 h2 hj;unfold jb8 at h;rw[List.find?_eq_none] at h;refine h j ?_ (by grind);exact List.mem_map.2 ⟨j-f,List.mem_range.2 (by omega),by omega⟩
theorem free_is {A:List Bool} {f m i:Nat} (h1:f≤i) (h2:i<f+m) (h3:A[i]?=some false) (h4: ∀ j,f≤j→j<i→A[j]?≠some false):jb8 A f m=some i:=by
 cases hf:jb8 A f m with
 |none=>grind[h3,jkC,h1,h2]
 |some j=>
  obtain⟨g1,g2,g3,g4⟩:=jdY hf
  grind
theorem free_no {A:List Bool} {f m:Nat} (h: ∀ j,f≤j→j<f+m→A[j]?≠some false):jb8 A f m=none:=by
 grind[jb8,g1,g2,g3]
def takeP (g:PlG) (A:List Bool) (k:Int):Int × Int × List Bool:=
 if 0≤k∧k<(g.m:Nat) then
  match jb8 A (g.first k.toNat) (g.n k.toNat) with
  |some i=>(i,0,A.set i true)
  |none=>(0,6,A)
 else(0,2,A)
def jdP:List Bool→List Bool→Bool
 |a::A,d::D=>(!d||a)&&jdP A D
 |_,_=>true
def jc0:List Bool→List Bool→List Bool
 |a::A,d::D=>(a&&!d)::jc0 A D
 |A,_=>A
def jbp (A D:List Bool):Int × List Bool:=if D.length=A.length then(if jdP A D then(0,jc0 A D) else(9,A)) else(2,A)
end Go.Proofs.YtebiafomiemgbaaGreatDoor.Sw
