/-What the law needs of its own,part 2. -/
import Derived.Test.YtebiafomiemgbaaGreatDoorWMtU5x1
set_option linter.unusedVariables false set_option linter.unusedSimpArgs false set_option linter.unusedVariables false
set_option linter.unusedSimpArgs false
namespace Go.Proofs.YtebiafomiemgbaaGreatDoor.Sw
set_option maxHeartbeats 8000000
open Go.Proofs.YtebiafomiemgbaaGreatDoor renaming lo → qL, hi → qH
open Go.RowKit
set_option maxRecDepth 10000
structure MtE where
 b:Nat
 g:FmM
section
variable {w0 : World} {F : jb} {b nf : Nat} {c : Cfg} {m : McP} {M : McM} {x : EnP}
theorem jdA (hG:ji w0) (z:McZ b c m nf M) (hf:nf≤900000) (hx:EnOk x):Call Tryz.prog w0 66 [.pointer (some ⟨b,0,none⟩),enV x] (mcH M++F)
  (fun r H'=>r= .tuple [.agg (wtL (mcDoes c m.hs x).1.1).toArray, .bool (mcDoes c m.hs x).1.2].toArray∧ ∃ f',f'.b=M.f.b∧FmZ M.f.b c (mcDoes c m.hs x).2 (nf+2) f'∧H'=mcH {M with f:=f'}++F):=by
 have hzf:=z.f
 have hzb:=z.b
 have hst:=fun A (p:PkP) (hu:p.u<256)=>zStep (w0:=w0) (F:=A) (p:=p) hG z.f hf hu rfl rfl
 have hdo:=fun A=>zDo (w0:=w0) (F:=A) (i:=x.t) (op:=x.o) hG z.f hf ⟨hx.c,hx.h,hx.v⟩ rfl rfl
 have hwr:=fun A=>jcU (w0:=w0) (H:=A) (e:=250)
 unfold wrongW told wtL at hwr;dsimp only at hwr
 obtain⟨hb,hl,ho⟩:M.b=b∧M.l=m.l∧oOk wtE M.l M.o:=⟨z.b,z.l,z.o⟩
 subst hb
 have hu8:=hx.u
 unfold enV enL
 by_cases h2:x.k=2
 ·rw[je7 h2]
  have h2':((x.k:Nat):Int)=2:=by omega
  have hs:=fun A=>hst A ⟨x.w,((x.u/8:Nat):Int),x.u%8⟩ (by grind)
  simp only[pkV] at hs
  obtain⟨xk,xt,⟨oc,oh,oa,ob,ov⟩,xw,xu⟩:=x
  dsimp only at h2 h2' hs hu8⊢
  have e1:((xu:Nat):Int)/8=((xu/8:Nat):Int):=by omega
  have e2:((xu:Nat):Int)%8=((xu%8:Nat):Int):=by omega
  rw[←e1,←e2] at hs;refine zla ?_;refine zf5 ?_;intro b3 b4;refine zlo ?_;refine zJ ?_;refine zm5 ?_;refine zfb ?_;refine zhV ?_;refine zaC ?_;refine zgo ?_;refine zeO ?_;refine zm6 ?_;refine zm7 ?_;refine zeO ?_;refine zm8 ?_;refine zbT ?_;refine zk fun T hT=>?_;refine zm9 ?_;rintro _ _ ⟨rfl,f',zf',rfl⟩;refine zi ?_;clear hT T;refine zdj ?_;refine zgm ?_;exact zna
 ·by_cases h1:x.k=1
  ·have h1':((x.k:Nat):Int)=1:=by omega
   have h2': ¬((x.k:Nat):Int)=2:=by omega
   by_cases h0:(faDo c m.hs x.t x.o).1.2=0
   ·rw[jc9 h1 h0];rw[h0] at hdo
    obtain⟨⟨⟨e,hh,w,addr,us,si,cy,ac⟩,er⟩,hs9,hv⟩: ∃ (q:SnP × Int) (h9:List HpP),faDo c m.hs x.t x.o=(q,h9):=⟨_,_,rfl⟩
    rw[hv] at h0;simp only[hv] at hdo⊢
    obtain⟨xk,xt,⟨oc,oh,oa,ob,ov⟩,xw,xu⟩:=x
    unfold opV snV at hdo;dsimp only at h1' h2' hdo⊢;unfold wtL;refine zgw ?_;simp only[mcH_app];subst h0;refine zfa ?_;intro b3 b4;refine ze6 ?_;refine K.cutT (σ:=MtE) [(3,_),(4,_)] jc (fun s kp_=>(6, .pointer (some ⟨s.b,0,none⟩))::(7, .int .i64 0)::kp_) (fun s=>(s.b,cells [.int .i64 e, .int .u64 (hh:Nat), .int .u64 w, .int .i64 addr, .int .i64 us, .int .i64 si, .int .i64 cy, .bool ac] 43)::((b4,cells [.int .i64 0, .int .i64 0, .int .u64 0, .int .u64 0, .int .i64 0, .int .i64 0, .int .i64 0, .int .i64 0, .bool false] 80)::((b3,cells [.int .u8 (xk:Nat), .int .i64 xt, .int .u8 (oc:Nat), .int .u64 (oh:Nat), .int .i64 oa, .int .i64 ob, .int .u64 (ov:Nat), .int .i64 xw, .int .u8 (xu:Nat)] 91)::((M.b,cells [.pointer (some ⟨M.f.b,0,none⟩),oV M.o M.l.length] 101)::(oH wtE 80 M.l M.o++(fmH s.g++F)))))) (fun s=>FmZ M.f.b c hs9 (nf+2) s.g) ?_ ?_
    ·skip
     refine zge ?_;refine KD.fork2 (x:=8) (y:=12) (o1:=[(9,1),(10,1),(11,1),(12,2),(13,2),(14,0)]) (o2:=[(8,2),(9,0),(10,0),(11,1),(13,2),(14,0)]) (by kernel_rfl) rfl rfl (by kernel_rfl) (by kernel_rfl) ?_ ?_
     ·refine zT fun T hT=>?_;refine zbv ?_;rintro _ _ ⟨rfl,f1,zf1,rfl⟩;refine zi ?_;clear hT T;refine znx ?_;intro b6;exact zs2
     ·(refine jP.e rfl (Eff.alloc rfl) ?_;rintro _ _ ⟨b6,rfl,rfl⟩;refine⟨ja,?_⟩)
      refine zk fun T hT=>?_;refine zbv ?_;rintro _ _ ⟨rfl,f1,zf1,rfl⟩;refine zi ?_;clear hT T;exact zf9
    ·rintro⟨b6,f1⟩ zf1;dsimp only at zf1⊢;refine zaH ?_;refine zeF ?_;refine zae ?_;refine zau ?_;refine zgm ?_;exact zfO
   ·rw[jbQ (by omega) fun _=>h0]
    have hno:(faDo c m.hs x.t x.o).1.2=2∧(faDo c m.hs x.t x.o).2=m.hs:=by
     rcases fa_cases m.hs x.t with⟨j,h,e,g⟩|g
     ·rw[e,JO g] at h0;grind
     grind[jao]
    rw[hno.1,hno.2] at hdo
    obtain⟨⟨⟨e,hh,w,addr,us,si,cy,ac⟩,er⟩,hs9,hv⟩: ∃ (q:SnP × Int) (h9:List HpP),faDo c m.hs x.t x.o=(q,h9):=⟨_,_,rfl⟩
    simp only[hv] at hdo⊢
    obtain⟨xk,xt,⟨oc,oh,oa,ob,ov⟩,xw,xu⟩:=x
    unfold opV snV at hdo;dsimp only at h1' h2' hdo⊢;unfold wtL wrongW told;refine zgw ?_;refine zf5 ?_;intro b3 b4;refine ze6 ?_;refine K.cutT (σ:=MtE) [(3,_),(4,_)] jc (fun s kp_=>(6, .pointer (some ⟨s.b,0,none⟩))::(7, .int .i64 2)::kp_) (fun s=>(s.b,cells [.int .i64 e, .int .u64 (hh:Nat), .int .u64 w, .int .i64 addr, .int .i64 us, .int .i64 si, .int .i64 cy, .bool ac] 43)::((b4,cells [.int .i64 0, .int .i64 0, .int .u64 0, .int .u64 0, .int .i64 0, .int .i64 0, .int .i64 0, .int .i64 0, .bool false] 80)::((b3,cells [.int .u8 (xk:Nat), .int .i64 xt, .int .u8 (oc:Nat), .int .u64 (oh:Nat), .int .i64 oa, .int .i64 ob, .int .u64 (ov:Nat), .int .i64 xw, .int .u8 (xu:Nat)] 91)::((M.b,cells [.pointer (some ⟨M.f.b,0,none⟩),oV M.o M.l.length] 101)::(oH wtE 80 M.l M.o++(fmH s.g++F)))))) (fun s=>FmZ M.f.b c m.hs (nf+2) s.g) ?_ ?_
    ·skip
     refine zge ?_;refine KD.fork2 (x:=8) (y:=12) (o1:=[(9,1),(10,1),(11,1),(12,2),(13,2),(14,0)]) (o2:=[(8,2),(9,0),(10,0),(11,1),(13,2),(14,0)]) (by kernel_rfl) rfl rfl (by kernel_rfl) (by kernel_rfl) ?_ ?_
     ·refine zT fun T hT=>?_;refine zbv ?_;rintro _ _ ⟨rfl,f1,zf1,rfl⟩;refine zi ?_;clear hT T;refine znx ?_;intro b6;exact zs2
     ·(refine jP.e rfl (Eff.alloc rfl) ?_;rintro _ _ ⟨b6,rfl,rfl⟩;refine⟨ja,?_⟩)
      refine zk fun T hT=>?_;refine zbv ?_;rintro _ _ ⟨rfl,f1,zf1,rfl⟩;refine zi ?_;clear hT T;exact zf9
    ·rintro⟨b6,f1⟩ zf1;dsimp only at zf1⊢;refine zaH ?_;refine zC ?_;refine zh6 ?_;refine zV ?_;refine zgi ?_;exact zfO
  ·have h1': ¬((x.k:Nat):Int)=1:=by omega
   have h2': ¬((x.k:Nat):Int)=2:=by omega
   rw[jbQ h2 fun e=>absurd e h1];unfold wtL wrongW told;dsimp only;refine znb ?_;refine zfa ?_;intro b3 b4;refine zgl ?_;refine zbA ?_;refine zgi ?_;exact znc
theorem ja8 {p:List UInt8} (hG:ji w0) (z:McZ b c m nf M) (hf:nf≤900000) (hp:p.length≤4294967296) (hll:m.l.length≤100000):Call Tryz.prog w0 36 [.pointer (some ⟨b,0,none⟩), .string (strB p)] (mcH M++F)
  (fun r H'=>r= .tuple [.agg (wtL (mcDo c m p).1.1).toArray, .bool (mcDo c m p).1.2].toArray∧ ∃ M',McZ b c (mcDo c m p).2 (nf+2) M'∧H'=mcH M'++F):=by
 have hno:=fun A=>mnone0_K (w0:=w0) (M:=M) (F:=A)
 have hg:=fun A=>jdG (w0:=w0) (H:=A) hp
 have hx:=jel p
 have hd:=fun A=>jdA (F:=A) hG z hf hx
 obtain⟨hb,hl,ho⟩:M.b=b∧M.l=m.l∧oOk wtE M.l M.o:=⟨z.b,z.l,z.o⟩
 subst hb
 have hl2:M.l.length+1≤4294967296:=by grind
 have hfb:=z.f
 unfold mcDo
 obtain⟨x,hxe⟩: ∃ x,enA p=x:=⟨_,rfl⟩
 rw[hxe] at hx;simp only[hxe] at hg hd⊢;clear hxe
 obtain⟨⟨⟨⟨wt,⟨e,hh,w,addr,us,si,cy,ac⟩⟩,is⟩,hs9⟩,hv⟩: ∃ q,mcDoes c m.hs x=q:=⟨_,rfl⟩
 simp only[hv] at hd⊢;clear hv
 obtain⟨xk,xt,⟨oc,oh,oa,ob,ov⟩,xw,xu⟩:=x
 unfold enV enL at hg hd;unfold wtL at hd⊢;dsimp only at hg hd⊢
 cases is with
 |true=>
  refine zgJ ?_;intro b4 b6;rintro _ _ ⟨rfl,f',hfe,zf',rfl⟩;refine zlr ?_;intro b8;refine K.cutT (σ:=Own) [(4,_),(8,_),(9,_)] jc (fun s kp_=>kp_) (fun s=>mcH ⟨M.b,f',M.l++ [⟨wt,⟨e,hh,w,addr,us,si,cy,ac⟩⟩],s⟩++((b8,cells [.int .i64 wt, .int .i64 e, .int .u64 (hh:Nat), .int .u64 w, .int .i64 addr, .int .i64 us, .int .i64 si, .int .i64 cy, .bool ac] 80)::((b4,cells [.int .i64 0, .int .i64 0, .int .u64 0, .int .u64 0, .int .i64 0, .int .i64 0, .int .i64 0, .int .i64 0, .bool false] 80)::F))) (fun s=>oOk wtE (M.l++ [⟨wt,⟨e,hh,w,addr,us,si,cy,ac⟩⟩]) s) ?_ ?_
  ·refine zfg ?_;refine zj ?_;refine zaR ?_;rw[mcH_app];dsimp only;refine zJ ?_;refine znd ?_;refine zhn ?_;refine zgt ?_;refine zne ?_;refine znf ?_;intro b31;refine zcp ?_;refine KD.e rfl rfl (Eff.appZ (E:=wtE) (xs:=M.l) (o:=M.o) (ys:=[⟨wt,⟨e,hh,w,addr,us,si,cy,ac⟩⟩]) (zs:=M.l++ [⟨wt,⟨e,hh,w,addr,us,si,cy,ac⟩⟩]) rfl rfl rfl rfl rfl rfl jj (by omega) (by first|exact Sli.blk ju rfl (by grind) (by first|decide|(unfold maxLen;omega)) rfl|exact Sli.old (by assumption)|exact Sli.own jj (by assumption) jF|assumption|exact Sli.part (by assumption) ja) (rfl) (by grind) rfl) ?_;rintro _ _ ⟨oz,okz,rfl,rfl⟩;refine⟨ja,?_⟩;refine zbm ?_;refine zkN ?_;refine zbf ?_;refine zam ?_;exact zng
  ·rintro oz okz;refine zG ?_;refine zau ?_;refine zgu ?_;exact znh
 |false=>
  refine zgJ ?_;intro b4 b6;rintro _ _ ⟨rfl,f',hfe,zf',rfl⟩;refine zb4 ?_;intro b8;refine zig ?_;refine zgu ?_;exact zni
end
set_option maxRecDepth 100000
def o8:List UInt8:=[0,0,0,0,0,0,0,1]
def mxA:List UInt8:=[1,0,1]++e8++o8++e8
def mxC:List UInt8:=[1,2,1]++e8++o8++e8
def mx0:McP:=newMc fxC
def mx1:McP:=(mcDo fxC mx0 mxA).2
def mx2:McP:=(mcDo fxC mx1 [2,0,1]).2
def mx3:McP:=(mcDo fxC mx2 mxC).2
def mx4:McP:=(mcDo fxC mx3 [3]).2
def mx5:McP:=(mcDo fxC mx4 []).2
theorem mx_a:(mcDo fxC mx0 mxA).1=(⟨0,⟨0,1,0,0,2,2,0,false⟩⟩,true):=by rfl
theorem mx_b:(mcDo fxC mx1 [2,0,1]).1=(⟨0,told 0⟩,false):=by rfl
theorem mx_c:(mcDo fxC mx2 mxC).1=(wrongW 250,true):=by rfl
theorem mx_d:(mcDo fxC mx3 [3]).1=(wrongW 250,true):=by rfl
theorem mx_e:(mcDo fxC mx4 []).1=(wrongW 250,true):=by rfl
theorem mx_l:mx5.l.length=4:=by rfl
section
variable {w0 : World} {F : jb} {b nf : Nat} {c : Cfg} {m m' : McP} {M : McM} {p : List UInt8}
theorem JF {wt:Int} {s:SnP} {is:Bool} (hG:ji w0) (z:McZ b c m nf M) (hf:nf≤900000) (hp:p.length≤4294967296) (hll:m.l.length≤100000) (h1:(mcDo c m p).1=(⟨wt,s⟩,is)) (h2:(mcDo c m p).2=m'):Call Tryz.prog w0 36 [.pointer (some ⟨b,0,none⟩), .string (strB p)] (mcH M++F)
  (fun r H'=>r= .tuple [.agg (wtL ⟨wt,s⟩).toArray, .bool is].toArray∧ ∃ M',McZ b c m' (nf+2) M'∧H'=mcH M'++F):=by
 subst h2
 have:=ja8 (F:=F) hG z hf hp hll
 rw[h1] at this;exact this
theorem fxMc (hG:ji w0) (b1 b2:Nat):Call Tryz.prog w0 35 [jr fxC (.slice (some ⟨b1,0,none⟩) 2 2) (.slice (some ⟨b2,0,none⟩) 2 2)] ((b2,cells (jx tnE fxC.tn) 55)::(b1,cells [.int .i64 2, .int .i64 4] 3)::F) (fun r H'=> ∃ b M,McZ b fxC mx0 1 M∧r= .tuple [.pointer (some ⟨b,0,none⟩), .int .i64 0].toArray∧H'=mcH M++((b2,cells (jx tnE fxC.tn) 55)::(b1,cells [.int .i64 2, .int .i64 4] 3)::F)):=by
 have hC:Sli w0 [(b1,cells [.int .i64 2, .int .i64 4] 3)] iE (.slice (some ⟨b1,0,none⟩) 2 2) fxC.cl:=Sli.blk jI.head rfl (by decide) (by decide) rfl
 have hT:Sli w0 [(b2,cells (jx tnE fxC.tn) 55)] tnE (.slice (some ⟨b2,0,none⟩) 2 2) fxC.tn:=Sli.blk jI.head rfl (by decide) (by decide) rfl
 exact znj
set_option maxHeartbeats 4000000 in
theorem jdr (hG:ji w0):Call Tryz.prog w0 34 [] F (fun r H'=>r= .bool true∧H'=F):=by
 have hn:=fun A b1 b2=>fxMc (w0:=w0) (F:=A) hG b1 b2
 unfold jr jG at hn;refine znk ?_;refine zeT ?_;intro b16 b19;rintro _ _ ⟨b,M0,z0,rfl,rfl⟩
 have d1:=fun A=>JF (F:=A) hG z0 (by decide) (by decide) (by decide) mx_a (m':=mx1) rfl
 unfold wtL at d1;dsimp only at d1;refine zeR ?_;refine zaX ?_;refine znN ?_;rintro _ _ ⟨rfl,M1,z1,rfl⟩
 have d2:=fun A=>JF (F:=A) hG z1 (by decide) (by decide) (by show _≤100000;rw [show mx1.l.length=1 by kernel_rfl];decide) mx_b (m':=mx2) rfl
 unfold wtL told at d2;dsimp only at d2;refine znT ?_;intro b4;rintro _ _ ⟨rfl,M2,z2,rfl⟩
 have d3:=fun A=>JF (F:=A) hG z2 (by decide) (by decide) (by show _≤100000;rw [show mx2.l.length=1 by kernel_rfl];decide) mx_c (m':=mx3) rfl
 unfold wtL told at d3;dsimp only at d3;refine zbd ?_;intro b6;refine znO ?_;rintro _ _ ⟨rfl,M3,z3,rfl⟩
 have d4:=fun A=>JF (F:=A) hG z3 (by decide) (by decide) (by show _≤100000;rw [show mx3.l.length=2 by kernel_rfl];decide) mx_d (m':=mx4) rfl
 unfold wtL told at d4;dsimp only at d4;refine znU ?_;intro b8;rintro _ _ ⟨rfl,M4,z4,rfl⟩
 have d5:=fun A=>JF (F:=A) hG z4 (by decide) (by decide) (by show _≤100000;rw [show mx4.l.length=3 by kernel_rfl];decide) mx_e (m':=mx5) rfl
 unfold wtL told at d5;dsimp only at d5;refine znV ?_;intro b10;rintro _ _ ⟨rfl,M5,z5,rfl⟩
 have hL:=fun A=>jcW (w0:=w0) (F:=A) z5
 rw[mx_l] at hL;refine zhE ?_;intro b12;refine zbZ ?_;refine zbQ ?_;intro b14;refine zau ?_;refine zbZ ?_;refine zjN ?_;refine zQ ?_;refine zj ?_;refine za1 ?_;refine zcZ ?_;refine zcZ ?_;refine zcZ ?_;refine znP ?_;refine zfc ?_;exact zbO
end
open Go.RowKit
set_option maxRecDepth 10000
structure MtB where
 i:Nat
 m:Nat
theorem jlJ: ∀ (i n:Nat),beN (i+1) n=UInt8.ofNat (n/256^i)::beN i n
 |0,n=>by rw[Nat.pow_zero,Nat.div_one];rfl
 |i+1,n=>by
  show beN (i+1) (n/256)++ [UInt8.ofNat n]=_
  rw[jlJ i,Nat.div_div_eq_div_mul,Nat.pow_succ,Nat.mul_comm (256^i) 256]
  rfl
section
variable {w0 : World} {H : jb} {n k : Nat}
theorem jfw (hn:n<18446744073709551616) (hk:k≤8):Call Tryz.prog w0 69 [.int .u64 (n:Nat), .int .i64 (k:Nat)] H (fun r H'=>r= .string (strB (beN k n))∧H'=H):=by
 refine Call.enter2 (n:=22) (by rfl) Tryz.func69 rfl rfl rfl ?_;refine zav ?_;refine zbs ?_;refine K.loopT (σ:=MtB) [(1,_)] (fun s kp_=>(6, .int .i64 (s.i:Nat))::(5, .string (strB (beN s.i n)))::(0, .int .u64 (s.m:Nat))::kp_) (fun s=>H) (fun s=>s.i≤k∧s.m<18446744073709551616∧s.m=n/256^s.i) (fun s=>k-s.i) (⟨0,n⟩) jc ja (⟨Nat.zero_le _,hn,by grind⟩) ?_;rintro⟨i,m⟩ ⟨hi,hmn,hm⟩;dsimp only at hi hmn hm⊢
 have hc:=jlJ i n
 have hd:m/256=n/256^(i+1):=by rw[hm,Nat.div_div_eq_div_mul,Nat.pow_succ]
 rw[←hm] at hc;clear hm
 by_cases hlt:i<k
 ·have hlt':((i:Nat):Int)<((k:Nat):Int):=by omega
  have hlb:=jdi i n
  have hz:toB [((m:Nat):Int)%256]++beN i n=beN (i+1) n:=by
   rw[hc]
   show [UInt8.ofNat (((m:Nat):Int)%256).toNat]++beN i n=_
   have:UInt8.ofNat (((m:Nat):Int)%256).toNat=UInt8.ofNat m:=by
    apply UInt8.toNat.inj
    grind[jio]
   grind
  have hm2:m/256<18446744073709551616:=by omega
  have hm3:((m:Nat):Int)/256=((m/256:Nat):Int):=by omega
  refine zpY ?_;refine zfF ?_;refine zj ?_;refine KL.v rfl (Val.remN rfl rfl (by omega)) ?_;refine zaT ?_;refine zar ?_;intro b15;refine KL.v rfl (Val.convBS (l:=[((m:Nat):Int)%256]) rfl rfl rfl (Sli.blk jI.head rfl (Nat.le_refl 1) (by decide) rfl)) ?_;refine zj ?_;refine KL.v rfl (Val.addB rfl rfl (by rw[hlb];show 1+i≤_;omega)) ?_;rw[hz];refine zfi ?_;refine zj ?_;refine KL.v rfl (Val.quoN rfl rfl (by grind[qL,qH])) ?_;refine zaK ?_;refine zaw ?_;refine zb9 ?_;rw[hm3];refine zeU ?_;refine zlh ?_;exact KE.again ⟨i+1,m/256⟩ jc ja ⟨by grind,hm2,hd⟩ (by grind)
 ·have hlt': ¬((i:Nat):Int)<((k:Nat):Int):=by omega
  obtain rfl:k=i:=by omega
  refine zgy ?_;refine zbw ?_;exact zq
end
set_option maxRecDepth 10000
section
variable {w0 : World} {H : jb} {t c h : Nat}
theorem may_K (ht:t<256):Call Tryz.prog w0 68 [.agg [.int .u8 1, .int .i64 (t:Nat), .int .u8 (c:Nat), .int .u64 (h:Nat), .int .i64 0, .int .i64 0, .int .u64 0, .int .i64 0, .int .u8 0].toArray] H (fun r H'=>r= .bool true∧H'=H):=by
 have h1:((t:Nat):Int)≥0:=by omega
 have h2:((t:Nat):Int)<256:=by omega
 refine Call.enter1 (n:=72) (by rfl) Tryz.func68 rfl rfl rfl ?_;refine zbY ?_;intro b1;refine ziE ?_;refine zeF ?_;refine zae ?_;refine zac ?_;refine ziw ?_;refine zI ?_;refine zbH ?_;refine zc3 ?_;refine zaD ?_;refine zO ?_;refine zbH ?_;refine zc4 ?_;refine zaD ?_;refine zO ?_;refine zbH ?_;refine zaz ?_;refine zl ?_;refine zq1 ?_;refine zaD ?_;refine zac ?_;refine zbH ?_;refine zaz ?_;refine zl ?_;refine zq1 ?_;refine zaD ?_;refine zI ?_;refine zbH ?_;refine zaz ?_;refine zl ?_;refine zq2 ?_;refine zaD ?_;refine zac ?_;refine zbH ?_;refine zaz ?_;refine zl ?_;refine zq2 ?_;refine zaD ?_;refine zI ?_;refine zA ?_;exact zaL
theorem put_forg (ht:t<256) (hc:c<256) (hh:h<18446744073709551616):Call Tryz.prog w0 40 [.agg [.int .u8 1, .int .i64 (t:Nat), .int .u8 (c:Nat), .int .u64 (h:Nat), .int .i64 0, .int .i64 0, .int .u64 0, .int .i64 0, .int .u8 0].toArray] H (fun r H'=>r= .tuple [.string (strB (forgP t c h)), .int .i64 0].toArray∧H'=H):=by
 have y0:=fun A=>jfw (w0:=w0) (H:=A) (n:=1) (k:=1) (by decide) (by decide)
 have y1:=fun A=>jfw (w0:=w0) (H:=A) (n:=t) (k:=1) (by omega) (by decide)
 have y2:=fun A=>jfw (w0:=w0) (H:=A) (n:=c) (k:=1) (by omega) (by decide)
 have y3:=fun A=>jfw (w0:=w0) (H:=A) (n:=h) (k:=8) hh (by decide)
 have y4:=fun A=>jfw (w0:=w0) (H:=A) (n:=0) (k:=4) (by decide) (by decide)
 have y6:=fun A=>jfw (w0:=w0) (H:=A) (n:=0) (k:=8) (by decide) (by decide)
 have l0:=jdi 1 1
 have l1:=jdi 1 t
 have l2:=jdi 1 c
 have l3:=jdi 8 h
 have l4:=jdi 4 0
 have l6:=jdi 8 0
 unfold forgP;refine Call.enter1 (n:=55) (by rfl) Tryz.func40 rfl rfl rfl ?_;refine zes ?_;intro b1;refine zpB ?_;refine jp (may_K ht) ?_;refine zy ?_;refine za6 ?_;refine zN ?_;refine zC ?_;refine zb8 ?_;refine K.drawn _ ((1,1)::(2,1)::(3,1)::(6,1)::(7,1)::(8,1)::(9,1)::(12,1)::(13,1)::(14,1)::(17,1)::(18,1)::(19,1)::(20,1)::(23,1)::(24,1)::(25,1)::(26,1)::(29,1)::(30,1)::(31,1)::(0,2)::(4,2)::(5,1)::(10,2)::(11,1)::(15,2)::(16,1)::(21,2)::(22,1)::(27,2)::(28,1)::(32,2)::(33,0)::(34,0)::(35,0)::[]) (by rfl) (by rfl) (by kernel_rfl) (by rfl) (by rfl) (by rfl) Part.all ?_;refine ziZ ?_;refine zaJ ?_;refine zhO ?_;refine zkO ?_;refine KD.v1 rfl rfl (Val.fieldAddrZ rfl rfl) ?_;refine zaJ ?_;refine zhO ?_;refine zkO ?_;refine KD.v1 rfl rfl (Val.fieldAddr (k:=1) rfl rfl) ?_;refine zaJ ?_;refine zkO ?_;refine KD.v1 rfl rfl (Val.fieldAddr (k:=2) rfl rfl) ?_;refine zaJ ?_;refine KD.v1 rfl rfl (Val.conv rfl rfl rfl (by simp[qL,qH])) ?_;refine zkO ?_;refine KD.v1 rfl rfl (Val.fieldAddr (k:=3) rfl rfl) ?_;refine zaJ ?_;refine KD.v1 rfl rfl (Val.conv rfl rfl rfl (by simp[qL,qH])) ?_;refine zkO ?_;refine KD.v1 rfl rfl (Val.fieldAddr (k:=4) rfl rfl) ?_;refine zaJ ?_;refine zk fun T hT=>?_;refine(CallV.fn (y0 _)).mono ?_;rintro _ _ ⟨rfl,rfl⟩;refine zi ?_;clear hT T;refine zk fun T hT=>?_;refine(CallV.fn (y1 _)).mono ?_;rintro _ _ ⟨rfl,rfl⟩;refine zi ?_;clear hT T;refine KD.v1 rfl rfl (Val.addB rfl rfl (by omega)) ?_;refine zk fun T hT=>?_;refine(CallV.fn (y2 _)).mono ?_;rintro _ _ ⟨rfl,rfl⟩;refine zi ?_;clear hT T;refine zpr ?_;refine zk fun T hT=>?_;refine(CallV.fn (y3 _)).mono ?_;rintro _ _ ⟨rfl,rfl⟩;refine zi ?_;clear hT T;refine zpr ?_;refine zk fun T hT=>?_;refine(CallV.fn (y4 _)).mono ?_;rintro _ _ ⟨rfl,rfl⟩;refine zi ?_;clear hT T;refine zpr ?_;refine zk fun T hT=>?_;refine(CallV.fn (y4 _)).mono ?_;rintro _ _ ⟨rfl,rfl⟩;refine zi ?_;clear hT T;refine zpr ?_;refine zk fun T hT=>?_;refine(CallV.fn (y6 _)).mono ?_;rintro _ _ ⟨rfl,rfl⟩;refine zi ?_;clear hT T;refine KD.v0 rfl rfl (Val.addB rfl rfl (by grind)) ?_;refine zgF ?_;exact zH
end
open Go.RowKit
set_option maxRecDepth 10000
section
variable {C : HpC} {h : HpP} {told' : List Nat} {c : Cfg} {m : McP} {b : List UInt8} {x : EnP} {t j w : Nat}
theorem jl9 {T:List jl} (hT: ∀ e∈T,1≤e.gen∧e.gen≤2147483648) (hl:LvT t told' T) (hw:w∉told'∨w=0):hpSlot t T w=none:=by
 unfold hpSlot
 split
 ·rename_i hc
  cases hn:namedT T (capI w:Nat) (capG w:Nat) with
  |none=>rfl
  |some e=>
   exfalso
   obtain⟨a1,a2,a3⟩:=jkr hn
   have:=hl _ e a1 a2
   rw[a3,Int.toNat_natCast,←hc.2,capW_of] at this
   rcases hw with hw|hw
   ·grind
   ·rw[hw] at hc;exact hc.1 rfl
 ·rfl
theorem forged_do (h:FoI c m) (ht:t<c.tn.length) (hk:x.k=1) (htn:x.t=((t:Nat):Int)) (hc:2≤x.o.c∧x.o.c≤7) (hw:x.o.h∉jdO m.l t∨x.o.h=0):(mcDoes c m.hs x).1.2=true∧(mcDoes c m.hs x).1.1.t=((t:Nat):Int)∧(mcDoes c m.hs x).1.1.s.e=130:=by
 obtain⟨y,hy⟩:=jh (l:=m.hs) (k:=t) (by rw[h.len];omega)
 obtain⟨q1,q2,q3⟩:=h.t t y hy
 have e0:(faDo c m.hs x.t x.o).1.2=0:=by rw[htn,JO hy]
 rw[jc9 hk e0];refine⟨rfl,htn,?_⟩
 show(faDo c m.hs x.t x.o).1.1.e=130
 rw[htn,JO hy]
 have hs:=jl9 (w:=x.o.h) (q2.gens q1) q3 hw
 have e:jD (hC1 c t) {y with wk:=0} x.o=(told 130,{y with wk:=0}):=by
  unfold jD;rw[if_neg (by omega),if_neg (by omega)]
  show(match hpSlot t y.s.W.T x.o.h with|none=>_|some sl=>_)=_
  grind
 unfold jS;rw[e]
 rfl
end
set_option maxRecDepth 10000
theorem jcT {l:List (List UInt8)} (h:longP l=false):l.length≤80∧ ∀ x∈l,x.length≤255:=by
 grind[longP]
section
variable {c : Cfg} {m : McP} {b : List UInt8} {t : Nat} {p : List (List UInt8)}
theorem jbi:(mcDo c m b).2.l.length≤m.l.length+1:=by
 show(if (mcDoes c m.hs (enA b)).1.2=true then m.l++ [(mcDoes c m.hs (enA b)).1.1] else m.l).length≤_
 grind
end
open Go.RowKit
set_option maxRecDepth 10000
structure MaS where
 i:Nat
 n:Nat
 m:McP
 M:McM
set_option maxRecDepth 100000
structure MfT where
 k:Nat
 told:Bool
section
variable {w0 : World} {F : jb} {c : Cfg} {vc vt v u : Value} {l lm : List (List UInt8)}
set_option maxHeartbeats 16000000 in
theorem machineForged_K {ws:List Int} (hG:ji w0) (hR:Jc w0 F c vc vt) (hl:Sli w0 F stE v l) (hws:Sli w0 F uE u ws) (hwo:JN ws):Call Tryz.prog w0 11 [jr c vc vt,v,u] F (fun r H'=>r= .bool true∧H'=F):=by
 have haw:=fun A=>jdr (w0:=w0) (F:=A) hG
 have hsm:=fun A (hp:Part A F)=>jcI (hR.part hp)
 have hn1:=fun A (hp:Part A F) (hok:jz c=true)=>mcNew_K hG (hR.part hp) hok
 have hlo:=fun A (hp:Part A F)=>jcX (w0:=w0) (H:=A) (hl.part hp)
 obtain⟨hS,hT',o1,o2,l1,l2⟩:=hR
 obtain⟨ok,hok⟩: ∃ ok,okF c=ok:=⟨_,rfl⟩
 simp only[hok] at hsm;simp only[jr,jG] at hsm hn1⊢
 obtain⟨b1,hb1⟩: ∃ b1,longP l=b1:=⟨_,rfl⟩
 simp only[hb1] at hlo
 cases ok with
 |false=>
  refine zps ?_;refine zeu ?_;intro b3;refine zag ?_;refine zcH ?_;refine zem ?_;exact zd3
 |true=>
  cases b1 with
  |true=>
   refine zps ?_;refine zeL ?_;intro b3;refine zem ?_;exact zd3
  |false=>
   have hc:=okF_cfg hok
   have ht8:=(Jf hc).tn
   obtain⟨hl80,hl255⟩:=jcT hb1
   by_cases h40:ws.length>40
   ·have h40':((ws.length:Nat):Int)>40:=by omega
    refine zps ?_;refine zeL ?_;intro b3;refine zfQ ?_;refine zaG ?_;refine za8 ?_;exact zdC
   ·have h40': ¬((ws.length:Nat):Int)>40:=by omega
    refine zps ?_;refine zeL ?_;intro b3;refine zfQ ?_;refine zaA ?_;refine zaX ?_;refine zb3 ?_;rintro _ _ ⟨bm,M0,z0,rfl,rfl⟩
    have hF0:=FoI.new hc
    have hl0:(newMc c).l.length≤0*2:=Nat.le_refl 0
    obtain⟨mq,hmq⟩: ∃ mq,newMc c=mq:=⟨_,rfl⟩
    rw[hmq] at z0 hF0 hl0;clear hmq;refine zpS ?_;refine zfm ?_;refine K.loopT (σ:=MaS) [(1,_),(2,_),(3,_),(7,_)] (fun s kp_=>(9, .int .i64 (s.i:Nat))::kp_) (fun s=>mcH s.M++((b3,cells [vc, .int .i64 c.page,vt, .int .i64 c.workers, .int .i64 c.grey, .int .i64 c.gens] 25)::F)) (fun s=>s.i≤l.length∧McZ bm c s.m s.n s.M∧s.n≤1+s.i*4∧s.m.l.length≤s.i*2∧FoI c s.m) (fun s=>l.length-s.i) (⟨0,1,mq,M0⟩) jc ja (⟨Nat.zero_le _,z0,by show 1≤1+0*4;omega,hl0,hF0⟩) ?_;clear z0 hl0 hF0;rintro⟨i,n,m,M⟩ ⟨hi,z,hn,hml,hF⟩;dsimp only at hi z hn hml hF⊢
    by_cases hlt:i<l.length
    ·have hlt':((i:Nat):Int)<((l.length:Nat):Int):=by omega
     obtain⟨x,hx⟩:=jh hlt
     have hx':l[((i:Nat):Int).toNat]?=some x:=hx
     have hxl:=hl255 x (List.mem_of_getElem? hx)
     have hdo:=fun A=>ja8 (F:=A) hG z (by omega) (p:=x) (by omega) (by omega)
     have hF2:=hF.do_ (b:=x)
     have hm2:=jbi (c:=c) (m:=m) (b:=x)
     by_cases hif:i<ws.length
     ·have hif': ¬((i:Nat):Int)≥((ws.length:Nat):Int):=by omega
      obtain⟨wi,hwi⟩:=jh (l:=ws) hif
      obtain⟨w0',w1'⟩:=hwo wi (List.mem_of_getElem? hwi)
      obtain⟨wd,rfl⟩: ∃ wd:Nat,wi=wd:=⟨wi.toNat,by omega⟩
      have hwb:wd<18446744073709551616:=by omega
      clear w0' w1'
      have hwi':ws[((i:Nat):Int).toNat]?=some ((wd:Nat):Int):=hwi
      obtain⟨k0,hk0e⟩: ∃ k0:Nat,((i:Nat):Int)%((c.tn.length:Nat):Int)=((k0:Nat):Int):=⟨_,(Int.toNat_of_nonneg (Int.emod_nonneg _ (by omega))).symm⟩
      have hk0:k0<c.tn.length:=by
       have:=Int.emod_lt_of_pos ((i:Nat):Int) (b:=((c.tn.length:Nat):Int)) (by omega)
       omega
      refine zex ?_;refine zj3 ?_;refine zgW ?_;rintro _ _ ⟨rfl,M2,z2,rfl⟩
      obtain⟨m2,hm2e⟩: ∃ m2,(mcDo c m x).2=m2:=⟨_,rfl⟩
      rw[hm2e] at z2 hm2 hF2
      have hTr:=fun A=>jc8 (w0:=w0) (F:=A) (t:=((k0:Nat):Int)) z2 (by omega)
      obtain⟨S,hS9⟩: ∃ S,ofW m2.l ((k0:Nat):Int)=S:=⟨_,rfl⟩
      have hSl:S.length≤80:=by
       have:=jbV (l:=m2.l) (t:=((k0:Nat):Int)) (k:=m2.l.length)
       rw[List.take_length] at this;rw[←hS9]
       omega
      simp only[hS9] at hTr;refine zbu ?_;refine zB ?_;refine zco ?_;refine zbS ?_;refine zax ?_;refine zZ ?_;refine zqB ?_;refine zhM ?_;refine zth ?_;rw[hk0e];refine zah ?_;refine zay ?_;refine zu fun T hT=>?_;refine(CallV.part (CallV.fn (hTr _)) ja).mono ?_;rintro _ _ ⟨oS,koS,rfl,rfl⟩;refine ze ?_;clear hT T;refine zU ?_;refine za4 ?_;refine zU ?_;refine K.cutE (σ:=MfT) [(1,_),(2,_),(3,_),(7,_),(9,_),(10,_)] jc (fun s kp_=>(11, .bool s.told)::kp_) (fun s=>mcH M2++((b3,cells [vc, .int .i64 c.page,vt, .int .i64 c.workers, .int .i64 c.grey, .int .i64 c.gens] 25)::F)) (fun s=>(s.told=false→ ∀ y∈S,y.h=wd→wd=0)) ?_ ?_
      ·refine K.block ?_;refine K.loopT (σ:=MfT) [(1,_),(2,_),(3,_),(7,_),(9,_),(10,_),(12,_)] (fun s kp_=>(13, .int .i64 (s.k:Nat))::(11, .bool s.told)::kp_) (fun s=>oH sqE 43 S oS++(mcH M2++((b3,cells [vc, .int .i64 c.page,vt, .int .i64 c.workers, .int .i64 c.grey, .int .i64 c.gens] 25)::F))) (fun s=>s.k≤S.length∧(s.told=false→ ∀ y∈S.take s.k,y.h=wd→wd=0)) (fun s=>S.length-s.k) (⟨0,false⟩) jc ja (⟨Nat.zero_le _,fun _ y hy=>by cases hy⟩) ?_;rintro⟨k,tld⟩ ⟨hk,hT9⟩;dsimp only at hk hT9⊢
       by_cases hkl:k<S.length
       ·have hkl':((k:Nat):Int)<((S.length:Nat):Int):=by omega
        obtain⟨y,hy⟩:=jh (l:=S) hkl
        have htk:=J2 hy
        obtain⟨ye,yh,yw,ya,yu,ys,yc,yac⟩:=y
        have hy':S[((k:Nat):Int).toNat]?=some ⟨ye,yh,yw,ya,yu,ys,yc,yac⟩:=hy
        cases tld with
        |true=>
         refine zlC ?_;refine zjT ?_;refine zpt ?_;refine zbo ?_;refine zfV ?_;refine zfV ?_;refine zgk ?_;refine zeE ?_;refine zeE ?_;refine zqg ?_;refine zeg ?_;refine zbD ?_;refine zcv ?_;refine zep ?_;exact zs7
        |false=>
         have hT8:=hT9 rfl
         clear hT9
         by_cases hyw:yh=wd
         ·have hyw':((yh:Nat):Int)=((wd:Nat):Int):=by omega
          by_cases hw0:wd=0
          ·have hw0': ¬((wd:Nat):Int)≠0:=by omega
           refine zlC ?_;refine zjT ?_;refine zpt ?_;refine zbo ?_;refine zaZ ?_;refine zrk ?_;refine zl7 ?_;refine ze0 ?_;refine zhb ?_;refine zlZ ?_;refine zaZ ?_;refine zca ?_;refine znA ?_;refine zkQ ?_;refine zi4 ?_;refine zcr ?_;refine zcv ?_;refine zep ?_;exact KE.again ⟨k+1,false⟩ jc ja ⟨by show k+1≤_;omega,fun _ _ _ _=>hw0⟩ (by show S.length-(k+1)<S.length-k;omega)
          ·have hw0':((wd:Nat):Int)≠0:=by omega
           refine zlC ?_;refine zjT ?_;refine zpt ?_;refine zbo ?_;refine zaZ ?_;refine zrk ?_;refine zl7 ?_;refine ze0 ?_;refine zhb ?_;refine zlZ ?_;refine zaZ ?_;refine zca ?_;refine znA ?_;refine KD.y0 rfl rfl rfl rfl (Val.isT (Val.neq rfl rfl) jO) ?_;refine zi4 ?_;refine zcr ?_;refine zcv ?_;refine zep ?_;exact zs7
         ·have hyw': ¬((yh:Nat):Int)=((wd:Nat):Int):=by omega
          refine zlC ?_;refine zjT ?_;refine zpt ?_;refine zbo ?_;refine zaZ ?_;refine zrk ?_;refine zl7 ?_;refine ze0 ?_;refine zhb ?_;refine zqq ?_;refine zca ?_;refine zfV ?_;refine zeg ?_;refine zlO ?_;refine zcr ?_;refine zcv ?_;refine zep ?_
          exact KE.again ⟨k+1,false⟩ jc ja ⟨by show k+1≤_;omega,fun _ z hz hzw=>by
           rw[htk] at hz
           rcases List.mem_append.1 hz with hz|hz
           ·exact hT8 z hz hzw
           ·rw[List.mem_singleton.1 hz] at hzw
            exact absurd hzw hyw⟩ (by show S.length-(k+1)<S.length-k;omega)
       ·have hkl': ¬((k:Nat):Int)<((S.length:Nat):Int):=by omega
        rw[List.take_of_length_le (by omega)] at hT9;refine znG ?_;refine zin ?_;exact KE.meet ⟨k,tld⟩ jc ja hT9
      ·rintro⟨_,tld⟩ hT9;dsimp only at hT9⊢
       cases tld with
       |true=>
        refine zaF ?_;refine zaR ?_;refine zix ?_;exact KE.again ⟨i+1,n+2,_,M2⟩ jc ja ⟨hlt,z2,by show n+2≤1+(i+1)*4;omega,by show m2.l.length≤(i+1)*2;omega,hF2⟩ (by show l.length-(i+1)<l.length-i;omega)
       |false=>
        have hT8:=hT9 rfl
        have hforg:wd∉jdO m2.l k0∨wd=0:=by
         by_cases hw0:wd=0
         ·exact .inr hw0
         ·refine .inl fun hin=>hw0 ?_
          unfold jdO at hin
          obtain⟨y,hy,rfl⟩:=List.mem_map.1 hin
          exact hT8 y (by rw[←hS9];exact hy) rfl
        have hfx:=forg_get (t:=k0) (c:=2+i%6) (h:=wd) (by omega) (by omega) hwb
        have hfd:=forged_do (x:=enA (forgP k0 (2+i%6) wd)) hF2 hk0 (by rw[hfx]) (by rw[hfx]) (by rw[hfx];constructor<;>(show _≤_;dsimp only;omega)) (by rw[hfx];exact hforg)
        have hF3:=hF2.do_ (b:=forgP k0 (2+i%6) wd)
        have hfl:(forgP k0 (2+i%6) wd).length≤4294967296:=by rw[forg_eq];simp only[List.length_cons,List.length_append,jdi,List.length_replicate];omega
        have hml3:=jbi (c:=c) (m:=m2) (b:=forgP k0 (2+i%6) wd)
        have hput:=fun A=>put_forg (w0:=w0) (H:=A) (t:=k0) (c:=2+i%6) (h:=wd) (by omega) (by omega) hwb
        obtain⟨⟨⟨wt,⟨e,hh,w,addr,us,si,cy,ac⟩⟩,is⟩,hr⟩: ∃ q,(mcDo c m2 (forgP k0 (2+i%6) wd)).1=q:=⟨_,rfl⟩
        have hd3:=fun A=>JF (F:=A) hG z2 (by omega) (p:=forgP k0 (2+i%6) wd) hfl (by omega) hr rfl
        have hr':(mcDoes c m2.hs (enA (forgP k0 (2+i%6) wd))).1=(⟨wt,⟨e,hh,w,addr,us,si,cy,ac⟩⟩,is):=hr
        rw[hr'] at hfd;dsimp only at hfd
        obtain⟨rfl,rfl,rfl⟩:=hfd
        unfold wtL at hd3;dsimp only at hd3
        obtain⟨m3,hm3⟩: ∃ m3,(mcDo c m2 (forgP k0 (2+i%6) wd)).2=m3:=⟨_,rfl⟩
        simp only[hm3] at hd3;rw[hm3] at hF3 hml3
        obtain⟨fp,hfp⟩: ∃ fp,forgP k0 (2+i%6) wd=fp:=⟨_,rfl⟩
        simp only[hfp] at hput hd3
        have ek:((k0:Nat):Int)=((k0:Nat):Int):=rfl
        have nk: ¬((k0:Nat):Int)≠((k0:Nat):Int):=fun e=>e rfl
        have e6:(2:Int)+((i:Nat):Int)%6=((2+i%6:Nat):Int):=by omega
        clear hfp hr hr' hm3 hfx hT8 hT9 hforg;simp only[←e6] at hput;refine zaF ?_;refine zK ?_;refine zB ?_;refine KL.v rfl (Val.remN rfl rfl (by omega)) ?_;refine zdr ?_;refine zbl ?_;refine zcU ?_;refine zbb ?_;refine zdU ?_;refine jn (hput _) ja ?_;refine ziF ?_;refine zp ?_;refine jB (hd3 _) ja ?_;rintro _ _ ⟨rfl,M3,z3,rfl⟩;refine zaO ?_;intro b16;refine zfh ?_;refine zy ?_;refine zx ?_;refine zaV ?_;refine zQ ?_;refine zcz ?_;refine zQ ?_;refine zdQ ?_;refine zl ?_;refine zs1 ?_;refine zaD ?_;refine zcz ?_;refine zdD ?_;exact KE.again ⟨i+1,n+4,m3,M3⟩ jc ja ⟨hlt,z3,by show n+4≤1+(i+1)*4;omega,by show m3.l.length≤(i+1)*2;omega,hF3⟩ (by show l.length-(i+1)<l.length-i;omega)
     ·have hif':((i:Nat):Int)≥((ws.length:Nat):Int):=by omega
      refine zex ?_;refine zj3 ?_;refine zgW ?_;rintro _ _ ⟨rfl,M2,z2,rfl⟩;refine zbu ?_;refine zB ?_;refine zco ?_;refine zac ?_;refine zaR ?_;refine zix ?_;exact KE.again ⟨i+1,n+2,_,M2⟩ jc ja ⟨hlt,z2,by show n+2≤1+(i+1)*4;omega,by show(mcDo c m x).2.l.length≤(i+1)*2;omega,hF2⟩ (by show l.length-(i+1)<l.length-i;omega)
    ·have hlt': ¬((i:Nat):Int)<((l.length:Nat):Int):=by omega
     refine zcR ?_;refine zV ?_;exact ztA
end
end Go.Proofs.YtebiafomiemgbaaGreatDoor.Sw
