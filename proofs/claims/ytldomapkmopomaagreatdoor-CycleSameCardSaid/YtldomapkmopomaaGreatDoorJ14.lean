/-The walker and the contracts that the law needs,part 14. -/
import Derived.Test.YtldomapkmopomaaGreatDoorD1
import Derived.Shelf.Spec.TrailingZeros
import Derived.ArgAppend
import Derived.ChangeMaps5
import Derived.Deep.Fields
import Derived.Deep.LoopGhost
import Derived.Deep.OwnRows
import Derived.Deep.Quiet
import Derived.Deep.Slices
import Derived.IntWalk
import Derived.Laws.Cells
import Derived.Laws.CopyOwn
import Derived.Laws.Externs
import Derived.Laws.FloatArith
import Derived.Laws.IdiomStrings
import Derived.Laws.NewFold
import Derived.Laws.StructEq
import Derived.Lib.BitFns
import Derived.Lib.Hide
import Derived.Lib.SmallJoins
import Derived.Lib.TrailingZeros
import Derived.Maps.RangeRun
import Derived.OrdersIn
import Derived.ProofKit
import Derived.RangeFuncBound
import Derived.RangeFuncCalls
import Derived.RangeFuncLeaves
import Derived.RangeFuncNested
import Derived.RecoverIn
import Derived.Shelf.Bits.Mul64
import Derived.Shelf.Slices.Turned
import Derived.Shelf.Strconv.Itoa0
import Derived.SizedLaws
import Derived.Sort.BigQuietIn
import Derived.StillTailTactics
import Derived.Test.YtldomapkmopomaaGreatDoorProg
import Derived.WalkKit
import Derived.Test.YtldomapkmopomaaGreatDoorJ13
set_option linter.unusedVariables false set_option linter.unusedSimpArgs false namespace Go.Proofs.YtldomapkmopomaaGreatDoor.Sw
set_option maxHeartbeats 8000000
open Go.Proofs.YtldomapkmopomaaGreatDoor renaming lo → qL, hi → qH
open Go.RowKit
set_option linter.unusedVariables false
set_option linter.unusedSimpArgs false
set_option maxRecDepth 10000
def wdL:List Nat:=[16,16,16,8,8]
structure jw (w:World):Prop where
 tab:TabAt 0 Lib.deBruijn64tab w
 wd: ∀ j n,wdL[j]?=some n→w.cell? ⟨1,j,none⟩=some (.int .i64 (n:Nat))
theorem jw.only {w w':World} (h:jw w) (ho:jQ [] w w'):jw w':=⟨fun j hj=>jfh ho (h.tab j hj),fun j n hn=>jfh ho (h.wd j n hn)⟩
theorem neg_nat {x:Nat} (h0:x≠0) (h:x<18446744073709551616):IntKind.u64.wrap (-(x:Int))=((18446744073709551616-x:Nat):Int):=by
 rw[IntKind.wrap_u64];omega
theorem ctz_K {w0:World} {H:jb} (hG:jw w0) {x:Nat} (h:x<18446744073709551616) (h0:x≠0):
  Call Tryz.prog w0 180 [.int .u64 (x:Nat)] H (fun r H'=>r= .int .i64 (Lib.ctz 64 x:Nat)∧H'=H):=by
 obtain⟨hlow,hk⟩:=Lib.lowest_bit 64 x h0 h
 obtain⟨hi,htab⟩:=Lib.deBruijn64_at _ hk
 have hcell:=hG.tab _ hi
 have hx0: ¬(x:Int)=0:=by omega
 have hxl:18446744073709551616-x<18446744073709551616:=by omega
 have hlow':x&&&(18446744073709551616-x)=2^Lib.ctz 64 x:=hlow
 have hpw:=pow_lt hk
 obtain⟨c,hc⟩: ∃ c,c=Lib.ctz 64 x:=⟨_,rfl⟩
 rw[←hc] at hlow' hi htab hpw hcell hk⊢
 have hml:2^c*285870213051353865%18446744073709551616<18446744073709551616:=Nat.mod_lt _ (by decide)
 obtain⟨p,hp⟩: ∃ p,p=2^c:=⟨_,rfl⟩
 rw[←hp] at hlow' hi htab hpw hcell hml
 obtain⟨y,hy⟩: ∃ y,y=p*285870213051353865%18446744073709551616:=⟨_,rfl⟩
 have hmul:IntKind.u64.wrap ((p:Int)*285870213051353865)=(y:Int):=by
  rw[IntKind.wrap_u64,hy];omega
 rw[←hy] at hi htab hcell hml;clear hy
 obtain⟨idx,hidx⟩: ∃ idx,idx=y/288230376151711744:=⟨_,rfl⟩
 have hsh:(y:Int).fdiv (2^(min (Int.toNat 58) IntKind.u64.bits))=(idx:Int):=by
  have e:(2:Int)^(min (Int.toNat 58) IntKind.u64.bits)=288230376151711744:=by decide
  rw[e,Int.fdiv_eq_ediv_of_nonneg _ (by omega),hidx];omega
 rw[←hidx] at hi htab hcell;rw[htab] at hcell
 have hidx':(idx:Int)<64:=by omega
 have hse:jA w0 H ⟨0,0+Int.toNat ((idx:Nat):Int)*1,none⟩ (.int .u8 (c:Nat)):=by
  rw[show 0+Int.toNat ((idx:Nat):Int)*1=idx by simp];exact jA.old hcell
 refine Call.enter1 (n:=14) (by kernel_rfl) Tryz.func180 rfl rfl rfl ?_;refine yr15 ?_;refine zk ?_;refine yr3 ?_;rw[neg_nat h0 h];refine yr1 ?_;rw[jb0 h hxl,hlow'];refine yr1 ?_;rw[hmul];refine yr1 ?_;rw[hsh];refine yr7 ?_;exact zd
def nextB (bs:List Bool) (k:Nat) (v:Bool):Option Nat:=(List.range bs.length).find? fun i=>decide (k≤i)&&((bs[i]?).getD false==v)
theorem nextB_some {bs:List Bool} {k i:Nat} {v:Bool} (hi:i<bs.length) (hk:k≤i) (hv:(bs[i]?).getD false=v) (hl: ∀ j,k≤j→j<i→(bs[j]?).getD false≠v):nextB bs k v=some i:=by
 unfold nextB;rw[List.find?_range_eq_some];refine⟨by simp[hk,hv],List.mem_range.2 hi,fun j hj=>?_⟩
 by_cases h:k≤j
 ·simp[h,hl j h hj]
 ·simp[h]
theorem jgC {bs:List Bool} {k:Nat} {v:Bool} (h: ∀ j,k≤j→j<bs.length→(bs[j]?).getD false≠v):nextB bs k v=none:=by
 unfold nextB;rw[List.find?_eq_none];intro j hj
 have:=List.mem_range.1 hj
 by_cases hk:k≤j
 ·simp[hk,h j hk this]
 ·simp[hk]
theorem jaZ {bs:List Bool} {k i:Nat} {v:Bool} (h:nextB bs k v=some i):i<bs.length∧k≤i∧(bs[i]?).getD false=v∧ ∀ j,k≤j→j<i→(bs[j]?).getD false≠v:=by
 unfold nextB at h;rw[List.find?_range_eq_some] at h
 obtain⟨h1,h2,h3⟩:=h
 simp only[Bool.and_eq_true,decide_eq_true_eq,beq_iff_eq] at h1;refine⟨List.mem_range.1 h2,h1.1,h1.2,fun j hj hji=>?_⟩
 have:=h3 j hji
 simpa [hj] using this
def turnN (v:Bool):Nat:=if v then 0 else 18446744073709551615
theorem jfR (v:Bool):turnN v<18446744073709551616:=by unfold turnN;split<;>omega
def jbe (k q:Nat):Nat:=if q=k/64 then 2^(k%64)-1 else 0
theorem ahead_lt (k q:Nat):jbe k q<18446744073709551616:=by
 unfold jbe
 have:=pow_lt (j:=k%64) (by omega)
 split<;>omega
def leftN (bs:List Bool) (k:Nat) (v:Bool) (q:Nat):Nat:=lessN (wordN bs q^^^turnN v) (jbe k q)
theorem xor_lt {a b:Nat} (ha:a<18446744073709551616) (hb:b<18446744073709551616):a^^^b<18446744073709551616:=Nat.xor_lt_two_pow (n:=64) (by omega) (by omega)
theorem left_lt (bs:List Bool) (k:Nat) (v:Bool) (q:Nat):leftN bs k v q<18446744073709551616:=lessN_lt (xor_lt (jeb _ _) (jfR _))
theorem left_bit {bs:List Bool} {k q t:Nat} {v:Bool} (hq:k/64≤q) (ht:t<64):(leftN bs k v q).testBit t=(((bs[64*q+t]?).getD false==v)&&decide (k≤64*q+t)):=by
 unfold leftN;rw[jfe (ahead_lt _ _),Nat.testBit_xor,jbN]
 have e1:(turnN v).testBit t=!v:=by
  unfold turnN
  cases v
  ·simp only[Bool.false_eq_true,if_false];rw[show(18446744073709551615:Nat)=2^64-1 by decide,Nat.testBit_two_pow_sub_one];simp[ht]
  ·simp
 have e2:(jbe k q).testBit t=!decide (k≤64*q+t):=by
  unfold jbe
  by_cases e:q=k/64
  ·rw[if_pos e,Nat.testBit_two_pow_sub_one]
   by_cases h:t<k%64
   ·simp[h];omega
   ·simp[h];omega
  ·rw[if_neg e]
   simp;omega
 rw[e1,e2];simp only[ht,decide_true,Bool.true_and,Bool.not_not]
 congr 1
 cases (bs[64*q+t]?).getD false<;>cases v<;>rfl
structure FrS where
 q:Nat
 A:jb
def frM (bi br bt k:Nat) (v:Bool) (rb:Nat):jb:=[(bi,cells [.int .i64 (k:Nat)] 3),(br,cells [.pointer (some ⟨rb,0,none⟩)] 117),(bt,cells [.int .u64 (turnN v:Nat)] 116)]
theorem jbX {bi br bt k:Nat} {v:Bool} {rb:Nat} {F:jb}:frM bi br bt k v rb++F=(bi,cells [.int .i64 (k:Nat)] 3)::(br,cells [.pointer (some ⟨rb,0,none⟩)] 117)::(bt,cells [.int .u64 (turnN v:Nat)] 116)::F:=rfl
theorem from1_K {w0:World} {F A0:jb} {r:J7} {k bi br bt:Nat} {v:Bool} {yv:Value} (ok:RowOk r) (J:Nat→jb→Prop) (E:jb→Prop) (hk:k≤65536)
  (hy: ∀ q A,k/64≤q→q<(wordsOf r.bs).length→J q A→CallV Tryz.prog w0 yv [.int .i64 (q:Nat), .int .u64 (leftN r.bs k v q:Nat)] (A++(frM bi br bt k v r.b++(jz r++F)))
   (fun u H'=>(u= .bool true∧ ∃ A',J (q+1) A'∧H'=A'++(frM bi br bt k v r.b++(jz r++F)))∨(u= .bool false∧ ∃ A',E A'∧H'=A'++(frM bi br bt k v r.b++(jz r++F)))))
  (h0:J (k/64) A0):
  Call Tryz.prog w0 246 [yv, .pointer (some ⟨bi,0,none⟩), .pointer (some ⟨br,0,none⟩), .pointer (some ⟨bt,0,none⟩)] (A0++(frM bi br bt k v r.b++(jz r++F)))
   (fun _ H'=> ∃ A',H'=A'++(frM bi br bt k v r.b++(jz r++F))∧((∃ q,(wordsOf r.bs).length≤q∧J q A')∨E A')):=by
 have ok1:=ok.o
 have hn:=ok.n
 have hpl:=pow_lt (j:=k%64) (by omega)
 have hp1:1≤2^(k%64):=Nat.one_le_two_pow
 have hm:(k:Int)%64=((k%64:Nat):Int):=by omega
 have hd:(k:Int)/64=((k/64:Nat):Int):=by omega
 have ha0:((2^(k%64):Nat):Int)-1=((jbe k (k/64):Nat):Int):=by unfold jbe;rw [if_pos rfl];omega
 have hwl:(wordsOf r.bs).length≤1024:=by rw[jak];omega
 refine Call.enter4 (n:=37) (by kernel_rfl) Tryz.func246 rfl rfl rfl ?_;simp only[jB,jbX]
 skip
 refine zk ?_;refine yr2 ?_;rw[hm];refine yr1 ?_;rw[jfV (j:=k%64) (by omega)];refine yr1 ?_;rw[ha0];refine yr3 ?_;refine zk ?_;refine yr2 ?_;rw[hd];refine yr4 ?_;refine K.loopT (σ:=FrS) [(0,_),(2,_),(3,_)] (fun s kp_=>(6, .int .i64 (s.q:Nat))::(5, .int .u64 (jbe k s.q:Nat))::kp_) (fun s=>s.A++(frM bi br bt k v r.b++(jz r++F))) (fun s=>k/64≤s.q∧J s.q s.A) (fun s=>(wordsOf r.bs).length-s.q) (⟨k/64,A0⟩) jg (by first|exact ja|(simp only[jB,jbX];exact ja)) (⟨Nat.le_refl _,h0⟩) ?_;rintro⟨q,A⟩ ⟨hq,hJ⟩;dsimp only at hq hJ⊢;simp only[jB,jbX]
 by_cases hlt:q<(wordsOf r.bs).length
 ·have hx:=jcA (bs:=r.bs) (k:=q) (by rw[jak] at hlt;exact hlt)
  have hlw:=jeb r.bs q
  refine yr19 ?_;refine K.drawn [] [(0,0),(1,0),(2,0),(3,0),(4,0),(5,0),(6,0),(7,0),(8,0),(9,0),(10,0),(11,0),(12,0),(13,2),(14,0)] (by kernel_rfl) (by kernel_rfl) (by kernel_rfl) (by kernel_rfl) (by kernel_rfl) (by kernel_rfl) Part.nil ?_;refine zg ?_;refine zg ?_;refine zaa ?_;refine zQ ?_;refine zg ?_;refine zN ?_;refine zbA ?_;refine zo ?_;refine KD.v0 rfl rfl (Val.xor rfl rfl) ?_;refine zg ?_;refine KD.v0 rfl rfl (Val.andNot rfl rfl) ?_;refine zi fun T hT=>?_;rw[xor_nat hlw (jfR v),jfC (xor_lt hlw (jfR v)) (ahead_lt k q)];refine(CallV.part (hy q A hq hlt hJ) (by first|exact ja|(simp only[jB,jbX];exact ja))).mono ?_;rintro _ _ (⟨rfl,A',hJ',rfl⟩|⟨rfl,A',hE',rfl⟩)
  ·have h0':(0:Int)=((jbe k (q+1):Nat):Int):=by unfold jbe;rw [if_neg (by omega)];rfl
   refine zh ?_;clear hT T;refine KD.v0 rfl rfl (Val.notT rfl) ?_;refine zp ?_;refine yr14 ?_;rw[show(Value.int .u64 0)=Value.int .u64 ((jbe k (q+1):Nat):Int) from by rw[←h0']];exact KE.again ⟨q+1,A'⟩ jg (by first|exact ja|(simp only[jB,jbX];exact ja)) ⟨by show k/64≤q+1;omega,hJ'⟩ (by show(wordsOf r.bs).length-(q+1)<(wordsOf r.bs).length-q;omega)
  ·refine zh ?_;clear hT T;refine zbB ?_;refine zp ?_;refine yr8 ?_;exact KE.fin jd rfl jc (by first|exact ja|(simp only[jB,jbX];exact ja)) ⟨A',rfl, .inr hE'⟩
 ·refine yr17 ?_;exact KE.finN jd rfl jc (by first|exact ja|(simp only[jB,jbX];exact ja)) ⟨A,rfl, .inl ⟨q,by omega,hJ⟩⟩
theorem from_K {w0:World} {H:jb} {rb k:Nat} {v:Bool}:
  Call Tryz.prog w0 179 [.pointer (some ⟨rb,0,none⟩), .int .i64 (k:Nat), .int .u64 (turnN v:Nat)] H
   (fun u H'=> ∃ bi br bt,u= .func (.func 246) #[] [.pointer (some ⟨bi,0,none⟩), .pointer (some ⟨br,0,none⟩), .pointer (some ⟨bt,0,none⟩)].toArray∧H'=frM bi br bt k v rb++H):=by
 refine Call.enter3 (n:=8) (by kernel_rfl) Tryz.func179 rfl rfl rfl ?_;refine yr2 ?_;refine zbU ?_;intro b3 b4 b5;refine yr10 ?_;exact KE.fin (H':=frM b4 b3 b5 k v rb++H) jd rfl jc (by rw[jbX];exact ja) ⟨b4,b3,b5,rfl,rfl⟩
def nxI (o:Option Nat):Int:=((o.getD 0:Nat):Int)
def NxJ (l D:Nat) (rc:Rec) (b7 b6 b3 rb:Nat) (bs:List Bool) (k:Nat) (v:Bool) (q:Nat) (A:jb):Prop:=
 A=[(l, .loop (rc .ready none)),(D, .deferred (some [])),(b7,cells [.bool false] 4),(b6,cells [.int .i64 0] 3),(b3,cells [.pointer (some ⟨rb,0,none⟩)] 117)]∧ ∀ j,k≤j→j<64*q→j<bs.length→(bs[j]?).getD false≠v
def NxE (l D:Nat) (rc:Rec) (b7 b6 b3 rb:Nat) (bs:List Bool) (k:Nat) (v:Bool) (A:jb):Prop:=
 ∃ i:Nat,nextB bs k v=some i∧A=[(l, .loop (rc .done (some .ret))),(D, .deferred (some [])),(b7,cells [.bool true] 4),(b6,cells [.int .i64 (i:Nat)] 3),(b3,cells [.pointer (some ⟨rb,0,none⟩)] 117)]
set_option maxHeartbeats 2000000 in
theorem jc6 {w0:World} {F:jb} {r:J7} {k:Nat} {v:Bool} (ok:RowOk r) (hG:jw w0) (hk:k≤1000000):
  Call Tryz.prog w0 105 [.pointer (some ⟨r.b,0,none⟩), .int .i64 (k:Nat), .bool v] (jz r++F)
   (fun u H'=>u= .tuple [.int .i64 (nxI (nextB r.bs k v)), .bool (nextB r.bs k v).isSome].toArray∧H'=jz r++F):=by
 have hmax:(if ((k:Nat):Int)<0 then(0:Int) else((k:Nat):Int))=((k:Nat):Int):=if_neg (by omega)
 have hn:=ok.n
 have hwl:(wordsOf r.bs).length≤1024:=by rw[jak];omega
 refine Call.enter3 (n:=36) (by kernel_rfl) Tryz.func105 rfl rfl rfl ?_;refine yr2 ?_;refine zj ?_;intro b3 b6;refine zf ?_;intro b7;refine yr7 ?_;refine K.cutT (σ:=Unit) [(1,_),(3,_),(6,_),(7,_)] jg (fun s kp_=>(8, .int .u64 (turnN v:Nat))::kp_) (fun s=>(b7,cells [.bool false] 4)::(b6,cells [.int .i64 0] 3)::(b3,cells [.pointer (some ⟨r.b,0,none⟩)] 117)::(jz r++F)) (fun s=>True) ?_ ?_
 ·cases v with
  |true=>
   refine yr9 ?_;exact zbY
  |false=>
   refine yr7 ?_;exact zbY
 ·rintro _ _
  skip
  refine zk ?_;refine yr2 ?_;rw[hmax];refine yq8 fun T hT=>?_;refine(CallV.part (CallV.fn (has_K (r:=r) (i:=(k:Nat)))) ja).mono ?_;refine zq ?_
  by_cases hkl:k<r.bs.length
  ·rw[decide_eq_true (show 0≤((k:Nat):Int)∧((k:Nat):Int)<(r.bs.length:Nat) by omega)];refine za ?_;clear hT T;refine yq12 fun T hT=>?_;refine(CallV.fn (from_K (rb:=r.b) (k:=k) (v:=v))).mono ?_;rintro _ _ ⟨bi,br,bt,rfl,rfl⟩;refine za ?_;clear hT T;refine yr3 ?_;refine K.rangeFunc (lb:=[.pointer (some ⟨bi,0,none⟩), .pointer (some ⟨br,0,none⟩), .pointer (some ⟨bt,0,none⟩)]) rfl
    (fun D G=>G=(b7,cells [.bool false] 4)::(b6,cells [.int .i64 0] 3)::(b3,cells [.pointer (some ⟨r.b,0,none⟩)] 117)::(D, .deferred (some []))::(jz r++F)∧nextB r.bs k v=none)
    (fun D c G=>c= .ret∧ ∃ i:Nat,nextB r.bs k v=some i∧G=(b7,cells [.bool true] 4)::(b6,cells [.int .i64 (i:Nat)] 3)::(b3,cells [.pointer (some ⟨r.b,0,none⟩)] 117)::(D, .deferred (some []))::(jz r++F)) ?_ ?_ ?_
   ·intro l D rc hyl
    refine(Call.part (from1_K (F:=F) (r:=r) (k:=k) (v:=v) (bi:=bi) (br:=br) (bt:=bt) ok (NxJ l D rc b7 b6 b3 r.b r.bs k v) (NxE l D rc b7 b6 b3 r.b r.bs k v) (by omega)
     (A0:=[(l, .loop (rc .ready none)),(D, .deferred (some [])),(b7,cells [.bool false] 4),(b6,cells [.int .i64 0] 3),(b3,cells [.pointer (some ⟨r.b,0,none⟩)] 117)]) ?_ ⟨rfl,fun j h1 h2=>by omega⟩) (by simp only[List.cons_append,List.nil_append];exact ja)).mono ?_
    ·rintro q A hq hql ⟨rfl,hno⟩
     have hlw:=left_lt r.bs k v q
     obtain⟨w,hw⟩: ∃ w,w=leftN r.bs k v q:=⟨_,rfl⟩
     have hbit: ∀ t,t<64→w.testBit t=(((r.bs[64*q+t]?).getD false==v)&&decide (k≤64*q+t)):=fun t ht=>by rw[hw];exact left_bit hq ht
     rw[←hw] at hlw⊢;simp only[List.cons_append,List.nil_append];refine zd6 ?_;refine zk ?_;refine yr2 ?_;refine zk ?_;refine yr4 ?_
     by_cases hw0:w=0
     ·have hw0':(w:Int)=0:=by omega
      refine yr11 ?_;refine ze5 ?_
      exact KE.roundN jH.head (.inl ⟨rfl,_,⟨rfl,fun j h1 h2 h3 hv=>by
       by_cases hj:j<64*q
       ·exact hno j h1 hj h3 hv
       ·have:=hbit (j-64*q) (by omega)
        rw[hw0,show 64*q+(j-64*q)=j by omega,hv] at this
        simp at this;omega⟩,rfl⟩)
     ·have hw0': ¬(w:Int)=0:=by omega
      obtain⟨c1,c2,c3⟩:=ctz_bit hw0 hlw
      have hb:=hbit _ c1
      rw[c2] at hb;simp only[Bool.true_eq,Bool.and_eq_true,beq_iff_eq,decide_eq_true_eq] at hb;refine yq15 fun T hT=>?_;refine(CallV.fn (ctz_K hG hlw hw0)).mono ?_;rintro _ _ ⟨rfl,rfl⟩
      obtain⟨c,hc⟩: ∃ c,c=Lib.ctz 64 w:=⟨_,rfl⟩
      rw[←hc] at c1 c2 c3 hb⊢
      have hqc:(q:Int)*64+(c:Int)=((64*q+c:Nat):Int):=by omega
      refine za ?_;clear hT T;refine yq8 fun T hT=>?_;rw[hqc];refine(CallV.part (CallV.fn (has_K (r:=r) (i:=((64*q+c:Nat):Int)))) ja).mono ?_;refine zq ?_
      have hlow: ∀ j,k≤j→j<64*q+c→j<r.bs.length→(r.bs[j]?).getD false≠v:=fun j h1 h2 h3 hv=>by
       by_cases hj:j<64*q
       ·exact hno j h1 hj h3 hv
       ·have h4:=c3 (j-64*q) (by omega)
        have h5:=hbit (j-64*q) (by omega)
        rw[h4,show 64*q+(j-64*q)=j by omega,hv] at h5
        simp at h5;omega
      by_cases hin:64*q+c<r.bs.length
      ·rw[decide_eq_true (show 0≤((64*q+c:Nat):Int)∧((64*q+c:Nat):Int)<(r.bs.length:Nat) by omega)];refine za ?_;clear hT T;refine yr12 ?_;refine KE.part ((l, .loop (rc .busy none))::([(D, .deferred (some [])),(b7,cells [.bool true] 4),(b6,cells [.int .i64 ((64*q+c:Nat):Int)] 3),(b3,cells [.pointer (some ⟨r.b,0,none⟩)] 117)]++(frM bi br bt k v r.b++(jz r++F)))) (by simp only[List.cons_append,List.nil_append];rw [←hqc];exact ja) ?_;exact KE.roundR jH.head (.inr ⟨rfl,_,⟨64*q+c,nextB_some hin hb.2 hb.1 fun j h1 h2=>hlow j h1 h2 (by omega),rfl⟩,rfl⟩)
      ·rw[decide_eq_false (show ¬(0≤((64*q+c:Nat):Int)∧((64*q+c:Nat):Int)<(r.bs.length:Nat)) by omega)];refine za ?_;clear hT T;refine yr5 ?_;refine ze5 ?_;exact KE.roundN jH.head (.inl ⟨rfl,_,⟨rfl,fun j h1 h2 h3=>hlow j h1 (by omega) h3⟩,rfl⟩)
    ·rintro u H' ⟨A',rfl,(⟨q,hq,rfl,hno⟩|⟨i,hi,rfl⟩)⟩
     ·refine .inl ⟨_,?_,rfl,jgC fun j h1 h2=>hno j h1 (by rw[jak] at hq;omega) h2⟩;exact zco
     ·refine .inr ⟨.ret,_,?_,rfl,i,hi,rfl⟩;exact zco
   ·rintro D G ⟨rfl,hnx⟩;rw[hnx];refine yr9 ?_;exact zd
   ·rintro D c G ⟨rfl,i,hi,rfl⟩;rw[hi];refine yr3 ?_;exact zd
  ·rw[decide_eq_false (show ¬(0≤((k:Nat):Int)∧((k:Nat):Int)<(r.bs.length:Nat)) by omega)]
   have hnx:nextB r.bs k v=none:=jgC fun j h1 h2=>by omega
   refine za ?_;clear hT T;rw[hnx];refine yr12 ?_;exact zd
open Go.RowKit
set_option maxRecDepth 10000
theorem and_i64 {a b:Nat} (ha:a<9223372036854775808) (hb:b<9223372036854775808):jaa .and .i64 (a:Int) (b:Int)=((a&&&b:Nat):Int):=by
 show IntKind.i64.wrap ((BitVec.ofInt 64 (a:Int)&&&BitVec.ofInt 64 (b:Int)).toNat:Int)=_
 rw[BitVec.toNat_and,jbq (by omega),jbq (by omega)]
 have:=Nat.and_lt_two_pow a (n:=63) (y:=b) (by omega)
 exact jcq (by simp only[qL,qH];omega)
theorem ones_K {w0:World} {H:jb} {l:List Bool} (hl:l.length≤64):
  Call Tryz.prog w0 217 [.int .u64 (bitsN l:Nat)] H (fun r H'=>r= .int .i64 (l.count true:Nat)∧H'=H):=by
 have hx64:bitsN l<18446744073709551616:=by
  have h:=jeq l
  have h2:2^l.length≤2^64:=Nat.pow_le_pow_right (by omega) hl
  omega
 have hlaw:=fun x a b c=>pop_law hl (x:=x) (a:=a) (b:=b) (c:=c)
 obtain⟨x,hx⟩: ∃ x,x=bitsN l:=⟨_,rfl⟩
 rw[←hx] at hx64 hlaw⊢;clear hx
 --the steps
 obtain⟨u1,hu1⟩: ∃ u,u=x/2&&&6148914691236517205:=⟨_,rfl⟩
 obtain⟨v1,hv1⟩: ∃ u,u=x&&&6148914691236517205:=⟨_,rfl⟩
 obtain⟨x1,hx1⟩: ∃ u,u=u1+v1:=⟨_,rfl⟩
 obtain⟨u2,hu2⟩: ∃ u,u=x1/4&&&3689348814741910323:=⟨_,rfl⟩
 obtain⟨v2,hv2⟩: ∃ u,u=x1&&&3689348814741910323:=⟨_,rfl⟩
 obtain⟨x2,hx2⟩: ∃ u,u=u2+v2:=⟨_,rfl⟩
 obtain⟨u3,hu3⟩: ∃ u,u=x2/16:=⟨_,rfl⟩
 obtain⟨v3,hv3⟩: ∃ u,u=u3+x2:=⟨_,rfl⟩
 obtain⟨x3,hx3⟩: ∃ u,u=v3&&&1085102592571150095:=⟨_,rfl⟩
 obtain⟨a,ha⟩: ∃ u,u=x3+x3/256:=⟨_,rfl⟩
 obtain⟨b,hb⟩: ∃ u,u=a+a/65536:=⟨_,rfl⟩
 obtain⟨c,hc⟩: ∃ u,u=b+b/4294967296:=⟨_,rfl⟩
 have bu1:u1≤6148914691236517205:=by rw[hu1];exact Nat.and_le_right
 have bv1:v1≤6148914691236517205:=by rw[hv1];exact Nat.and_le_right
 have bu2:u2≤3689348814741910323:=by rw[hu2];exact Nat.and_le_right
 have bv2:v2≤3689348814741910323:=by rw[hv2];exact Nat.and_le_right
 have bx3:x3≤1085102592571150095:=by rw[hx3];exact Nat.and_le_right
 obtain⟨k1,k2,k3,k4⟩:=hlaw x3 a b c (by unfold g3 g2 g1;rw [rep_85,rep_51,rep_15,←hu1,←hv1,←hx1,←hu2,←hv2,←hx2,←hu3,←hv3,hx3]) ha hb hc
 have s1:(x:Int).fdiv (2^(min (Int.toNat 1) IntKind.u64.bits))=((x/2:Nat):Int):=ja0 (j:=1) (by omega)
 have s2:(x1:Int).fdiv (2^(min (Int.toNat 2) IntKind.u64.bits))=((x1/4:Nat):Int):=ja0 (j:=2) (by omega)
 have s3:(x2:Int).fdiv (2^(min (Int.toNat 4) IntKind.u64.bits))=((x2/16:Nat):Int):=ja0 (j:=4) (by omega)
 have s4:(x3:Int).fdiv (2^(min (Int.toNat 8) IntKind.u64.bits))=((x3/256:Nat):Int):=ja0 (j:=8) (by omega)
 have s5:(a:Int).fdiv (2^(min (Int.toNat 16) IntKind.u64.bits))=((a/65536:Nat):Int):=ja0 (j:=16) (by omega)
 have s6:(b:Int).fdiv (2^(min (Int.toNat 32) IntKind.u64.bits))=((b/4294967296:Nat):Int):=ja0 (j:=32) (by omega)
 have m1:jaa .and .u64 ((x/2:Nat):Int) 6148914691236517205=(u1:Int):=by rw[hu1];exact jb0 (b:=6148914691236517205) (by omega) (by omega)
 have m2:jaa .and .u64 (x:Int) 6148914691236517205=(v1:Int):=by rw[hv1];exact jb0 (b:=6148914691236517205) (by omega) (by omega)
 have m3:jaa .and .u64 ((x1/4:Nat):Int) 3689348814741910323=(u2:Int):=by rw[hu2];exact jb0 (b:=3689348814741910323) (by omega) (by omega)
 have m4:jaa .and .u64 (x1:Int) 3689348814741910323=(v2:Int):=by rw[hv2];exact jb0 (b:=3689348814741910323) (by omega) (by omega)
 have m5:jaa .and .u64 (v3:Int) 1085102592571150095=(x3:Int):=by rw[hx3];exact jb0 (b:=1085102592571150095) (by omega) (by omega)
 have m6:jaa .and .i64 (c:Int) 127=(l.count true:Nat):=by
  rw[show jaa .and .i64 (c:Int) 127=((c&&&127:Nat):Int) from and_i64 (b:=127) (by omega) (by omega),show(127:Nat)=2^7-1 by decide,Nat.and_two_pow_sub_one_eq_mod,show 2^7=128 by decide,k1]
 have t1:(u1:Int)+(v1:Int)=(x1:Int):=by omega
 have t2:(u2:Int)+(v2:Int)=(x2:Int):=by omega
 have t3:((x2/16:Nat):Int)+(x2:Int)=(v3:Int):=by omega
 have t4:(x3:Int)+((x3/256:Nat):Int)=(a:Int):=by omega
 have t5:(a:Int)+((a/65536:Nat):Int)=(b:Int):=by omega
 have t6:(b:Int)+((b/4294967296:Nat):Int)=(c:Int):=by omega
 clear hu1 hv1 hu2 hv2 hx3 k1 hlaw;refine Call.enter1 (n:=35) (by kernel_rfl) Tryz.func217 rfl rfl rfl ?_;refine yr5 ?_;refine zk ?_;refine yr2 ?_;rw[s1];refine yr1 ?_;rw[m1];refine yr2 ?_;rw[m2];refine yr1 ?_;rw[t1];refine yr3 ?_;refine zk ?_;refine yr2 ?_;rw[s2];refine yr1 ?_;rw[m3];refine yr2 ?_;rw[m4];refine yr1 ?_;rw[t2];refine yr3 ?_;refine zk ?_;refine yr2 ?_;rw[s3];refine yr2 ?_;rw[t3];refine yr1 ?_;rw[m5];refine yr3 ?_;refine zk ?_;refine yr3 ?_;rw[s4];refine yr1 ?_;rw[t4];refine yr3 ?_;refine zk ?_;refine yr3 ?_;rw[s5];refine yr1 ?_;rw[t5];refine yr3 ?_;refine zk ?_;refine yr3 ?_;rw[s6];refine yr1 ?_;rw[t6];refine yr3 ?_;refine zk ?_;refine yr3 ?_;rw[m6];refine yr4 ?_;exact zd
theorem Count_K {w0:World} {F:jb} {r:J7} (ok:RowOk r):
  Call Tryz.prog w0 147 [.pointer (some ⟨r.b,0,none⟩)] (jz r++F) (fun u H'=>u= .int .i64 (r.bs.count true:Nat)∧H'=jz r++F):=by
 have ok1:=ok.o
 have hn:=ok.n
 have hwl:(wordsOf r.bs).length≤1024:=by rw[jak];omega
 have hcb: ∀ k,(r.bs.take k).count true≤65536:=fun k=>Nat.le_trans List.count_le_length (by rw[List.length_take];omega)
 refine Call.enter1 (n:=24) (by kernel_rfl) Tryz.func147 rfl rfl rfl ?_;refine yq14 fun T hT=>?_;simp only[jB];refine zcq ?_;rintro _ _ ⟨rfl,rfl⟩;refine za ?_;clear hT T;refine yr15 ?_;refine K.loopT (σ:=Nat) [(12,_),(13,_)] (fun s kp_=>(14, .int .i64 (s:Nat))::(3, .int .i64 ((r.bs.take (64*s)).count true:Nat))::kp_) (fun s=>(r.b,cells [oV r.o (wordsOf r.bs).length, .int .i64 (r.bs.length:Nat), .bool true] 183)::(oH uE 116 (wordsOf r.bs) r.o++F)) (fun s=>s≤(wordsOf r.bs).length) (fun s=>(wordsOf r.bs).length-s) (0) jg ja (by omega) ?_;rintro k hk
 have hck:=hcb (64*k)
 by_cases hlt:k<(wordsOf r.bs).length
 ·have hx:=jcA (bs:=r.bs) (k:=k) (by rw[jak] at hlt;exact hlt)
  have hl:((r.bs.drop (64*k)).take 64).length≤64:=by rw[List.length_take];omega
  have hsum:((r.bs.take (64*(k+1))).count true:Nat)=(r.bs.take (64*k)).count true+((r.bs.drop (64*k)).take 64).count true:=by
   rw[show 64*(k+1)=64*k+64 by omega,List.take_add,List.count_append]
  have hcl:((r.bs.drop (64*k)).take 64).count true≤64:=Nat.le_trans List.count_le_length hl
  unfold wordN at hx;refine yq21 fun T hT=>?_;refine(CallV.fn (ones_K hl)).mono ?_;rintro _ _ ⟨rfl,rfl⟩;refine za ?_;clear hT T;refine yr9 ?_;exact KE.again (k+1) jg ja (by omega) (by omega)
 ·have he:r.bs.take (64*k)=r.bs:=List.take_of_length_le (by rw[jak] at hlt;omega)
  rw[he];refine yr19 ?_;exact zd
theorem jfN {w0:World} {v:Value} {l:List Int} (hS:SlW w0 uE v l) (hl:l.length≤4294967296):
  Call Tryz.prog w0 84 [v] [] (fun r H'=> ∃ o,oOk uE l o∧r=oV o l.length∧H'=oH uE 116 l o):=by
 refine Call.enter1 (n:=8) (by kernel_rfl) Tryz.func84 rfl rfl rfl ?_
 have hS0:=hS
 obtain⟨a,c,rfl,h1,h2,h3⟩:=hS.shape
 cases a with
 |none=>
  have hn:l=[]:=by
   cases l with
   |nil=>rfl
   |cons x r=>obtain⟨b,o,h⟩:=h3 (by simp);cases h
  subst hn;refine yr20 ?_;exact KE.fin jd rfl jc ja ⟨none,rfl,rfl,rfl⟩
 |some a=>
  refine yr17 ?_;refine zt ?_;intro b5;refine yr1 ?_;refine KL.e rfl (Eff.appLit (E:=uE) (ys:=l) rfl rfl rfl rfl rfl rfl rfl jq (by first|exact Sli.blk jq rfl (by first|decide|simp) (by first|decide|(unfold maxLen;omega)) rfl|exact Sli.old (by assumption)|exact Sli.own jh (by assumption) jG|assumption|exact Sli.part (by assumption) ja) (by first|assumption|omega|(simp<;>fail)|(simp;omega)) rfl) ?_;rintro _ _ ⟨o',ok',rfl,rfl⟩;refine yr4 ?_;exact KE.fin jd rfl jc ja ⟨o',ok',rfl,rfl⟩
theorem jew {w0:World} {F:jb} {r:J7} (ok:RowOk r):
  Call Tryz.prog w0 86 [.pointer (some ⟨r.b,0,none⟩)] (jz r++F) (fun u H'=> ∃ r',RowOk r'∧r'.bs=r.bs∧u= .pointer (some ⟨r'.b,0,none⟩)∧H'=jz r'++(jz r++F)):=by
 have ok1:=ok.o
 have hn:=ok.n
 have hwl:(wordsOf r.bs).length≤1024:=by rw[jak];omega
 refine Call.enter1 (n:=16) (by kernel_rfl) Tryz.func86 rfl rfl rfl ?_;refine yq9 fun T hT=>?_;simp only[jB];refine zcq ?_;rintro _ _ ⟨rfl,rfl⟩;refine za ?_;clear hT T;refine yr6 ?_;refine K.drawn _ [(0,0),(1,0),(2,0),(3,0),(5,1),(6,1),(7,1),(8,1),(4,2),(9,0),(10,2),(11,0)] (by kernel_rfl) (by kernel_rfl) (by kernel_rfl) (by kernel_rfl) (by kernel_rfl) (by kernel_rfl) Part.all ?_;refine zau ?_;refine zaw ?_;refine zbZ ?_;refine zx ?_;refine zi fun T hT=>?_;refine(CallV.pure fun w hw=>CallV.fn (jfN (Sli.own jh ok1 rfl w hw) (by omega))).mono ?_;rintro _ _ ⟨_,⟨o1,ko1,rfl,rfl⟩,rfl⟩;refine zh ?_;clear hT T;refine ze1 ?_;intro b15;refine zaK ?_;refine yr2 ?_;exact KE.fin (H':=jz ⟨b15,r.bs,o1⟩++(jz r++F)) jd rfl jc (by first|exact ja|(simp only[jB];exact ja)) ⟨⟨b15,r.bs,o1⟩,⟨ko1,hn⟩,rfl,rfl,rfl⟩
set_option maxRecDepth 10000
def jy (n:Nat→Nat):Nat→Nat
 |0=>0
 |k+1=>jy n k+n k
def cutL {β:Type} (n:Nat→Nat) (f:Nat→Nat→β):Nat→List β
 |0=> []
 |m+1=>cutL n f m++(List.range (n m)).map (f m)
section
variable {β : Type} {n : Nat → Nat} {f : Nat → Nat → β}
theorem jbb: ∀ m,(cutL n f m).length=jy n m
 |0=>rfl
 |m+1=>by simp[cutL,jy,jbb m]
theorem jfg {k m:Nat} (h:k≤m):jy n k≤jy n m:=by
  induction m with
  | zero => have : k = 0 := by omega
            subst this;exact Nat.le_refl _
  |succ m ih=>
    by_cases hk:k=m+1
    ·subst hk;exact Nat.le_refl _
    ·have:=ih (by omega);simp only[jy];omega
theorem ja7 {k m:Nat} (h:k<m):jy n k+n k≤jy n m:=jfg (n:=n) (show k+1≤m from h)
theorem jdx {k d:Nat}: ∀ {m:Nat},k<m→d<n k→(cutL n f m)[jy n k+d]?=some (f k d)
 |m+1,hk,hd=>by
  rw[cutL]
  by_cases h:k=m
  ·subst h;rw[List.getElem?_append_right (by rw[jbb];omega),jbb,Nat.add_sub_cancel_left,List.getElem?_map,List.getElem?_range hd];rfl
  ·have:=ja7 (n:=n) (show k<m by omega)
   rw[List.getElem?_append_left (by rw[jbb];omega)];exact jdx (by omega) hd
theorem jep {i:Nat}: ∀ {m:Nat},i<jy n m→ ∃ k d,k<m∧d<n k∧i=jy n k+d
 |0,h=>by simp[jy] at h
 |m+1,h=>by
  by_cases h1:i<jy n m
  ·obtain⟨k,d,hk,hd,e⟩:=jep h1
   exact⟨k,d,by omega,hd,e⟩
  ·simp only[jy] at h;exact⟨m,i-jy n m,by omega,by omega,by omega⟩
theorem cut_at {m i:Nat} {x:β} (h:(cutL n f m)[i]?=some x): ∃ k d,k<m∧d<n k∧i=jy n k+d∧x=f k d:=by
 have hi:i<jy n m:=by have:=(List.getElem?_eq_some_iff.1 h).1;rwa[jbb] at this
 obtain⟨k,d,hk,hd,rfl⟩:=jep hi
 rw[jdx hk hd] at h
 cases h
 exact⟨k,d,hk,hd,rfl,rfl⟩
theorem cum_uniq {k d k' d':Nat} (hd:d<n k) (hd':d'<n k') (h:jy n k+d=jy n k'+d'):k=k'∧d=d':=by
 rcases Nat.lt_trichotomy k k' with h1|h1|h1
 ·have:=ja7 (n:=n) h1;omega
 ·subst h1;omega
 ·have:=ja7 (n:=n) h1;omega
end
structure PlG where
 cl:List Nat
 pg:Nat
 q:Nat
namespace PlG
def y (g:PlG) (k:Nat):Nat:=g.cl.getD k 0
def n (g:PlG) (k:Nat):Nat:=g.q/g.y k
def per (g:PlG) (k:Nat):Nat:=g.pg/g.y k
def pgs (g:PlG) (k:Nat):Nat:=(g.n k+g.per k-1)/g.per k
def m (g:PlG):Nat:=g.cl.length
def first(g:PlG) (k:Nat):Nat:=jy g.n k
def page (g:PlG) (k:Nat):Nat:=jy g.pgs k
def slots (g:PlG):Nat:=g.first g.m
def pages (g:PlG):Nat:=g.page g.m
def words (g:PlG):Nat:=g.pages*g.pg
end PlG
structure ju where
 cls:Nat
 size:Nat
 addr:Nat
 page:Nat
structure PartP where
 size:Nat
 first:Nat
 many:Nat
 page:Nat
 per:Nat
namespace PlG
def sl (g:PlG) (k d:Nat):ju:=⟨k,g.y k,(g.page k+d/g.per k)*g.pg+d%g.per k*g.y k,g.page k+d/g.per k⟩
def L (g:PlG):List ju:=cutL g.n g.sl g.m
def pt (g:PlG) (k:Nat):PartP:=⟨g.y k,g.first k,g.n k,g.page k,g.per k⟩
def parts (g:PlG):List PartP:=(List.range g.m).map g.pt
end PlG
structure je (g:PlG):Prop where
 m:1≤g.m∧g.m≤8
 y: ∀ k,k<g.m→2≤g.y k∧g.y k≤g.pg∧g.y k≤g.q
 pg:g.pg≤64
 q:g.q≤4096
section
variable {g : PlG}
theorem je.n (ok:je g) {k:Nat} (hk:k<g.m):1≤g.n k∧g.n k≤2048:=by
 obtain⟨h1,h2,h3⟩:=ok.y k hk
 have:=ok.q
 refine zd7 ?_;unfold PlG.n;exact Nat.le_trans (Nat.div_le_div_left h1 (by omega)) (by omega)
theorem je.per (ok:je g) {k:Nat} (hk:k<g.m):1≤g.per k∧g.per k≤32:=by
 obtain⟨h1,h2,h3⟩:=ok.y k hk
 have:=ok.pg
 refine zd7 ?_;unfold PlG.per;exact Nat.le_trans (Nat.div_le_div_left h1 (by omega)) (by omega)
theorem je.pgs (ok:je g) {k:Nat} (hk:k<g.m):1≤g.pgs k∧g.pgs k≤g.n k:=by
 have h1:=ok.n hk
 have h2:=ok.per hk
 refine zd7 ?_;unfold PlG.pgs
 obtain⟨a,ha⟩: ∃ a,g.n k=a+1:=⟨g.n k-1,by omega⟩
 obtain⟨b,hb⟩: ∃ b,g.per k=b+1:=⟨g.per k-1,by omega⟩
 rw[ha,hb];refine Nat.div_le_of_le_mul ?_;rw[Nat.add_mul];simp only[Nat.mul_add];omega
theorem cum_le {f:Nat→Nat} {B:Nat}: ∀ {m:Nat},(∀ k,k<m→f k≤B)→jy f m≤m*B
 |0,_=>by simp[jy]
 |m+1,h=>by
  have h1:=cum_le (m:=m) (fun k hk=>h k (by omega))
  have h2:=h m (by omega)
  simp only[jy,Nat.succ_mul];omega
theorem je.first (ok:je g) {k:Nat} (hk:k≤g.m):g.first k≤16384:=by
 have h:=cum_le (f:=g.n) (B:=2048) (m:=k) (fun j hj=>(ok.n (by omega)).2)
 have:=ok.m
 unfold PlG.first;omega
theorem je.page (ok:je g) {k:Nat} (hk:k≤g.m):g.page k≤16384:=by
 have h:=cum_le (f:=g.pgs) (B:=2048) (m:=k) (fun j hj=>Nat.le_trans (ok.pgs (by omega)).2 (ok.n (by omega)).2)
 have:=ok.m
 unfold PlG.page;omega
theorem je.slots (ok:je g):1≤g.slots∧g.slots≤16384:=by
 refine⟨?_,ok.first (Nat.le_refl _)⟩
 have h:=ja7 (n:=g.n) (k:=0) (m:=g.m) (by have:=ok.m;omega)
 have:=(ok.n (k:=0) (by have:=ok.m;omega)).1
 unfold PlG.slots PlG.first;omega
theorem je.pages (ok:je g):1≤g.pages∧g.pages≤16384:=by
 refine⟨?_,ok.page (Nat.le_refl _)⟩
 have h:=ja7 (n:=g.pgs) (k:=0) (m:=g.m) (by have:=ok.m;omega)
 have:=(ok.pgs (k:=0) (by have:=ok.m;omega)).1
 unfold PlG.pages PlG.page;omega
theorem je.pg1 (ok:je g):2≤g.pg:=by
 have h:=ok.y 0 (by have:=ok.m;omega)
 omega
theorem je.words (ok:je g):g.words≤1048576:=by
 have h1:=ok.pages.2
 have h2:=ok.pg
 exact Nat.le_trans (Nat.mul_le_mul h1 h2) (by omega)
theorem jah:g.L.length=g.slots:=jbb _
theorem L_get {k d:Nat} (hk:k<g.m) (hd:d<g.n k):g.L[g.first k+d]?=some (g.sl k d):=jdx hk hd
theorem L_at {i:Nat} {x:ju} (h:g.L[i]?=some x): ∃ k d,k<g.m∧d<g.n k∧i=g.first k+d∧x=g.sl k d:=cut_at h
theorem je.inpg (ok:je g) {k d:Nat} (hk:k<g.m) (hd:d<g.n k):d/g.per k<g.pgs k:=by
 have h1:=ok.n hk
 have h2:=ok.per hk
 unfold PlG.pgs;refine(Nat.le_div_iff_mul_le (by omega)).2 ?_
 have h3:=Nat.div_mul_le_self d (g.per k)
 rw[Nat.succ_mul];omega
theorem je.pg_lt (ok:je g) {k d:Nat} (hk:k<g.m) (hd:d<g.n k):g.page k+d/g.per k<g.pages:=by
 have h1:=ok.inpg hk hd
 have h2:=ja7 (n:=g.pgs) hk
 unfold PlG.pages;unfold PlG.page at*;omega
theorem je.inside (ok:je g) {k d:Nat} (hk:k<g.m):d%g.per k*g.y k+g.y k≤g.pg:=by
 have h2:=ok.per hk
 have h3:=Nat.mod_lt d (show 0<g.per k by omega)
 have h4:(d%g.per k+1)*g.y k≤g.per k*g.y k:=Nat.mul_le_mul_right _ (by omega)
 have h5:g.per k*g.y k≤g.pg:=Nat.div_mul_le_self _ _
 rw[Nat.succ_mul] at h4
 omega
theorem je.fits (ok:je g) {i:Nat} {x:ju} (h:g.L[i]?=some x):x.addr+x.size≤g.words∧2≤x.size∧x.size≤64∧x.page<g.pages∧x.page*g.pg≤x.addr∧x.addr+x.size≤(x.page+1)*g.pg∧x.cls<g.m:=by
 obtain⟨k,d,hk,hd,rfl,rfl⟩:=L_at h
 have h1:=ok.pg_lt hk hd
 have h2:=ok.inside (d:=d) hk
 have h3:=ok.y k hk
 have h4:=ok.pg
 have h5:(g.page k+d/g.per k+1)*g.pg≤g.words:=Nat.mul_le_mul_right _ h1
 rw[Nat.succ_mul] at h5;simp only[PlG.sl,Nat.succ_mul];refine⟨by omega,by omega,by omega,h1,by omega,by omega,hk⟩
theorem je.apart (ok:je g) {i i':Nat} {x x':ju} (h:g.L[i]?=some x) (h':g.L[i']?=some x') (hne:i≠i'):x.addr+x.size≤x'.addr∨x'.addr+x'.size≤x.addr:=by
 obtain⟨a1,_,_,_,a2,a3,_⟩:=ok.fits h
 obtain⟨b1,_,_,_,b2,b3,_⟩:=ok.fits h'
 rcases Nat.lt_trichotomy x.page x'.page with h1|h1|h1
 ·have:(x.page+1)*g.pg≤x'.page*g.pg:=Nat.mul_le_mul_right _ h1
  left;omega
 ·obtain⟨k,d,hk,hd,rfl,rfl⟩:=L_at h
  obtain⟨k',d',hk',hd',rfl,rfl⟩:=L_at h'
  obtain⟨e1,e2⟩:=cum_uniq (n:=g.pgs) (ok.inpg hk hd) (ok.inpg hk' hd') h1
  subst e1;simp only[PlG.sl] at a2 a3 b2 b3⊢;rw[e2]
  have hy:=ok.y k hk
  rcases Nat.lt_trichotomy (d%g.per k) (d'%g.per k) with h2|h2|h2
  ·have:(d%g.per k+1)*g.y k≤d'%g.per k*g.y k:=Nat.mul_le_mul_right _ h2
   rw[Nat.succ_mul] at this
   left;omega
  ·exfalso
   have q1:=Nat.div_add_mod d (g.per k)
   have q2:=Nat.div_add_mod d' (g.per k)
   rw[←e2,←h2] at q2
   omega
  ·have:(d'%g.per k+1)*g.y k≤d%g.per k*g.y k:=Nat.mul_le_mul_right _ h2
   rw[Nat.succ_mul] at this
   right;omega
 ·have:(x'.page+1)*g.pg≤x.page*g.pg:=Nat.mul_le_mul_right _ h1
  right;omega
theorem jbP:g.parts.length=g.m:=by simp[PlG.parts]
theorem jch {k:Nat} (hk:k<g.m):g.parts[k]?=some (g.pt k):=by simp[PlG.parts,hk]
end
end Go.Proofs.YtldomapkmopomaaGreatDoor.Sw
