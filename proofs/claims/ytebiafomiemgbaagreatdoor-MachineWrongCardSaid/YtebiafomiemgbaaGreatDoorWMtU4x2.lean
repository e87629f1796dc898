/-What the law needs of its own,part 2. -/
import Derived.Test.YtebiafomiemgbaaGreatDoorWMtU4x1
set_option linter.unusedVariables false set_option linter.unusedSimpArgs false set_option linter.unusedVariables false
set_option linter.unusedSimpArgs false
namespace Go.Proofs.YtebiafomiemgbaaGreatDoor.Sw
set_option maxHeartbeats 8000000
open Go.Proofs.YtebiafomiemgbaaGreatDoor renaming lo → qL, hi → qH
open Go.RowKit
set_option maxRecDepth 10000
structure MtE where
 b:Nat
 g:FmM
section
variable {w0 : World} {F : jb} {b nf : Nat} {c : Cfg} {m : McP} {M : McM} {x : EnP}
theorem jdA (hG:ji w0) (z:McZ b c m nf M) (hf:nf≤900000) (hx:EnOk x):Call Tryz.prog w0 66 [.pointer (some ⟨b,0,none⟩),enV x] (mcH M++F)
  (fun r H'=>r= .tuple [.agg (wtL (mcDoes c m.hs x).1.1).toArray, .bool (mcDoes c m.hs x).1.2].toArray∧ ∃ f',f'.b=M.f.b∧FmZ M.f.b c (mcDoes c m.hs x).2 (nf+2) f'∧H'=mcH {M with f:=f'}++F):=by
 have hzf:=z.f
 have hzb:=z.b
 have hst:=fun A (p:PkP) (hu:p.u<256)=>zStep (w0:=w0) (F:=A) (p:=p) hG z.f hf hu rfl rfl
 have hdo:=fun A=>zDo (w0:=w0) (F:=A) (i:=x.t) (op:=x.o) hG z.f hf ⟨hx.c,hx.h,hx.v⟩ rfl rfl
 have hwr:=fun A=>jcU (w0:=w0) (H:=A) (e:=250)
 unfold wrongW told wtL at hwr;dsimp only at hwr
 obtain⟨hb,hl,ho⟩:M.b=b∧M.l=m.l∧oOk wtE M.l M.o:=⟨z.b,z.l,z.o⟩
 subst hb
 have hu8:=hx.u
 unfold enV enL
 by_cases h2:x.k=2
 ·rw[je7 h2]
  have h2':((x.k:Nat):Int)=2:=by omega
  have hs:=fun A=>hst A ⟨x.w,((x.u/8:Nat):Int),x.u%8⟩ (by grind)
  simp only[pkV] at hs
  obtain⟨xk,xt,⟨oc,oh,oa,ob,ov⟩,xw,xu⟩:=x
  dsimp only at h2 h2' hs hu8⊢
  have e1:((xu:Nat):Int)/8=((xu/8:Nat):Int):=by omega
  have e2:((xu:Nat):Int)%8=((xu%8:Nat):Int):=by omega
  rw[←e1,←e2] at hs;refine zla ?_;refine zf5 ?_;intro b3 b4;refine zlo ?_;refine zJ ?_;refine zm5 ?_;refine zfb ?_;refine zhV ?_;refine zaC ?_;refine zgo ?_;refine zeO ?_;refine zm6 ?_;refine zm7 ?_;refine zeO ?_;refine zm8 ?_;refine zbT ?_;refine zk fun T hT=>?_;refine zm9 ?_;rintro _ _ ⟨rfl,f',zf',rfl⟩;refine zi ?_;clear hT T;refine zdj ?_;refine zgm ?_;exact zna
 ·by_cases h1:x.k=1
  ·have h1':((x.k:Nat):Int)=1:=by omega
   have h2': ¬((x.k:Nat):Int)=2:=by omega
   by_cases h0:(faDo c m.hs x.t x.o).1.2=0
   ·rw[jc9 h1 h0];rw[h0] at hdo
    obtain⟨⟨⟨e,hh,w,addr,us,si,cy,ac⟩,er⟩,hs9,hv⟩: ∃ (q:SnP × Int) (h9:List HpP),faDo c m.hs x.t x.o=(q,h9):=⟨_,_,rfl⟩
    rw[hv] at h0;simp only[hv] at hdo⊢
    obtain⟨xk,xt,⟨oc,oh,oa,ob,ov⟩,xw,xu⟩:=x
    unfold opV snV at hdo;dsimp only at h1' h2' hdo⊢;unfold wtL;refine zgw ?_;simp only[mcH_app];subst h0;refine zfa ?_;intro b3 b4;refine ze6 ?_;refine K.cutT (σ:=MtE) [(3,_),(4,_)] jc (fun s kp_=>(6, .pointer (some ⟨s.b,0,none⟩))::(7, .int .i64 0)::kp_) (fun s=>(s.b,cells [.int .i64 e, .int .u64 (hh:Nat), .int .u64 w, .int .i64 addr, .int .i64 us, .int .i64 si, .int .i64 cy, .bool ac] 43)::((b4,cells [.int .i64 0, .int .i64 0, .int .u64 0, .int .u64 0, .int .i64 0, .int .i64 0, .int .i64 0, .int .i64 0, .bool false] 80)::((b3,cells [.int .u8 (xk:Nat), .int .i64 xt, .int .u8 (oc:Nat), .int .u64 (oh:Nat), .int .i64 oa, .int .i64 ob, .int .u64 (ov:Nat), .int .i64 xw, .int .u8 (xu:Nat)] 91)::((M.b,cells [.pointer (some ⟨M.f.b,0,none⟩),oV M.o M.l.length] 101)::(oH wtE 80 M.l M.o++(fmH s.g++F)))))) (fun s=>FmZ M.f.b c hs9 (nf+2) s.g) ?_ ?_
    ·skip
     refine zge ?_;refine KD.fork2 (x:=8) (y:=12) (o1:=[(9,1),(10,1),(11,1),(12,2),(13,2),(14,0)]) (o2:=[(8,2),(9,0),(10,0),(11,1),(13,2),(14,0)]) (by kernel_rfl) rfl rfl (by kernel_rfl) (by kernel_rfl) ?_ ?_
     ·refine zT fun T hT=>?_;refine zbv ?_;rintro _ _ ⟨rfl,f1,zf1,rfl⟩;refine zi ?_;clear hT T;refine znx ?_;intro b6;exact zs2
     ·(refine jP.e rfl (Eff.alloc rfl) ?_;rintro _ _ ⟨b6,rfl,rfl⟩;refine⟨ja,?_⟩)
      refine zk fun T hT=>?_;refine zbv ?_;rintro _ _ ⟨rfl,f1,zf1,rfl⟩;refine zi ?_;clear hT T;exact zf9
    ·rintro⟨b6,f1⟩ zf1;dsimp only at zf1⊢;refine zaH ?_;refine zeF ?_;refine zae ?_;refine zau ?_;refine zgm ?_;exact zfO
   ·rw[jbQ (by omega) fun _=>h0]
    have hno:(faDo c m.hs x.t x.o).1.2=2∧(faDo c m.hs x.t x.o).2=m.hs:=by
     rcases fa_cases m.hs x.t with⟨j,h,e,g⟩|g
     ·rw[e,JO g] at h0;grind
     grind[jao]
    rw[hno.1,hno.2] at hdo
    obtain⟨⟨⟨e,hh,w,addr,us,si,cy,ac⟩,er⟩,hs9,hv⟩: ∃ (q:SnP × Int) (h9:List HpP),faDo c m.hs x.t x.o=(q,h9):=⟨_,_,rfl⟩
    simp only[hv] at hdo⊢
    obtain⟨xk,xt,⟨oc,oh,oa,ob,ov⟩,xw,xu⟩:=x
    unfold opV snV at hdo;dsimp only at h1' h2' hdo⊢;unfold wtL wrongW told;refine zgw ?_;refine zf5 ?_;intro b3 b4;refine ze6 ?_;refine K.cutT (σ:=MtE) [(3,_),(4,_)] jc (fun s kp_=>(6, .pointer (some ⟨s.b,0,none⟩))::(7, .int .i64 2)::kp_) (fun s=>(s.b,cells [.int .i64 e, .int .u64 (hh:Nat), .int .u64 w, .int .i64 addr, .int .i64 us, .int .i64 si, .int .i64 cy, .bool ac] 43)::((b4,cells [.int .i64 0, .int .i64 0, .int .u64 0, .int .u64 0, .int .i64 0, .int .i64 0, .int .i64 0, .int .i64 0, .bool false] 80)::((b3,cells [.int .u8 (xk:Nat), .int .i64 xt, .int .u8 (oc:Nat), .int .u64 (oh:Nat), .int .i64 oa, .int .i64 ob, .int .u64 (ov:Nat), .int .i64 xw, .int .u8 (xu:Nat)] 91)::((M.b,cells [.pointer (some ⟨M.f.b,0,none⟩),oV M.o M.l.length] 101)::(oH wtE 80 M.l M.o++(fmH s.g++F)))))) (fun s=>FmZ M.f.b c m.hs (nf+2) s.g) ?_ ?_
    ·skip
     refine zge ?_;refine KD.fork2 (x:=8) (y:=12) (o1:=[(9,1),(10,1),(11,1),(12,2),(13,2),(14,0)]) (o2:=[(8,2),(9,0),(10,0),(11,1),(13,2),(14,0)]) (by kernel_rfl) rfl rfl (by kernel_rfl) (by kernel_rfl) ?_ ?_
     ·refine zT fun T hT=>?_;refine zbv ?_;rintro _ _ ⟨rfl,f1,zf1,rfl⟩;refine zi ?_;clear hT T;refine znx ?_;intro b6;exact zs2
     ·(refine jP.e rfl (Eff.alloc rfl) ?_;rintro _ _ ⟨b6,rfl,rfl⟩;refine⟨ja,?_⟩)
      refine zk fun T hT=>?_;refine zbv ?_;rintro _ _ ⟨rfl,f1,zf1,rfl⟩;refine zi ?_;clear hT T;exact zf9
    ·rintro⟨b6,f1⟩ zf1;dsimp only at zf1⊢;refine zaH ?_;refine zC ?_;refine zh6 ?_;refine zV ?_;refine zgi ?_;exact zfO
  ·have h1': ¬((x.k:Nat):Int)=1:=by omega
   have h2': ¬((x.k:Nat):Int)=2:=by omega
   rw[jbQ h2 fun e=>absurd e h1];unfold wtL wrongW told;dsimp only;refine znb ?_;refine zfa ?_;intro b3 b4;refine zgl ?_;refine zbA ?_;refine zgi ?_;exact znc
theorem ja8 {p:List UInt8} (hG:ji w0) (z:McZ b c m nf M) (hf:nf≤900000) (hp:p.length≤4294967296) (hll:m.l.length≤100000):Call Tryz.prog w0 36 [.pointer (some ⟨b,0,none⟩), .string (strB p)] (mcH M++F)
  (fun r H'=>r= .tuple [.agg (wtL (mcDo c m p).1.1).toArray, .bool (mcDo c m p).1.2].toArray∧ ∃ M',McZ b c (mcDo c m p).2 (nf+2) M'∧H'=mcH M'++F):=by
 have hno:=fun A=>mnone0_K (w0:=w0) (M:=M) (F:=A)
 have hg:=fun A=>jdG (w0:=w0) (H:=A) hp
 have hx:=jel p
 have hd:=fun A=>jdA (F:=A) hG z hf hx
 obtain⟨hb,hl,ho⟩:M.b=b∧M.l=m.l∧oOk wtE M.l M.o:=⟨z.b,z.l,z.o⟩
 subst hb
 have hl2:M.l.length+1≤4294967296:=by grind
 have hfb:=z.f
 unfold mcDo
 obtain⟨x,hxe⟩: ∃ x,enA p=x:=⟨_,rfl⟩
 rw[hxe] at hx;simp only[hxe] at hg hd⊢;clear hxe
 obtain⟨⟨⟨⟨wt,⟨e,hh,w,addr,us,si,cy,ac⟩⟩,is⟩,hs9⟩,hv⟩: ∃ q,mcDoes c m.hs x=q:=⟨_,rfl⟩
 simp only[hv] at hd⊢;clear hv
 obtain⟨xk,xt,⟨oc,oh,oa,ob,ov⟩,xw,xu⟩:=x
 unfold enV enL at hg hd;unfold wtL at hd⊢;dsimp only at hg hd⊢
 cases is with
 |true=>
  refine zgJ ?_;intro b4 b6;rintro _ _ ⟨rfl,f',hfe,zf',rfl⟩;refine zlr ?_;intro b8;refine K.cutT (σ:=Own) [(4,_),(8,_),(9,_)] jc (fun s kp_=>kp_) (fun s=>mcH ⟨M.b,f',M.l++ [⟨wt,⟨e,hh,w,addr,us,si,cy,ac⟩⟩],s⟩++((b8,cells [.int .i64 wt, .int .i64 e, .int .u64 (hh:Nat), .int .u64 w, .int .i64 addr, .int .i64 us, .int .i64 si, .int .i64 cy, .bool ac] 80)::((b4,cells [.int .i64 0, .int .i64 0, .int .u64 0, .int .u64 0, .int .i64 0, .int .i64 0, .int .i64 0, .int .i64 0, .bool false] 80)::F))) (fun s=>oOk wtE (M.l++ [⟨wt,⟨e,hh,w,addr,us,si,cy,ac⟩⟩]) s) ?_ ?_
  ·refine zfg ?_;refine zj ?_;refine zaR ?_;rw[mcH_app];dsimp only;refine zJ ?_;refine znd ?_;refine zhn ?_;refine zgt ?_;refine zne ?_;refine znf ?_;intro b31;refine zcp ?_;refine KD.e rfl rfl (Eff.appZ (E:=wtE) (xs:=M.l) (o:=M.o) (ys:=[⟨wt,⟨e,hh,w,addr,us,si,cy,ac⟩⟩]) (zs:=M.l++ [⟨wt,⟨e,hh,w,addr,us,si,cy,ac⟩⟩]) rfl rfl rfl rfl rfl rfl jj (by omega) (by first|exact Sli.blk ju rfl (by grind) (by first|decide|(unfold maxLen;omega)) rfl|exact Sli.old (by assumption)|exact Sli.own jj (by assumption) jF|assumption|exact Sli.part (by assumption) ja) (rfl) (by grind) rfl) ?_;rintro _ _ ⟨oz,okz,rfl,rfl⟩;refine⟨ja,?_⟩;refine zbm ?_;refine zkN ?_;refine zbf ?_;refine zam ?_;exact zng
  ·rintro oz okz;refine zG ?_;refine zau ?_;refine zgu ?_;exact znh
 |false=>
  refine zgJ ?_;intro b4 b6;rintro _ _ ⟨rfl,f',hfe,zf',rfl⟩;refine zb4 ?_;intro b8;refine zig ?_;refine zgu ?_;exact zni
end
set_option maxRecDepth 100000
def o8:List UInt8:=[0,0,0,0,0,0,0,1]
def mxA:List UInt8:=[1,0,1]++e8++o8++e8
def mxC:List UInt8:=[1,2,1]++e8++o8++e8
def mx0:McP:=newMc fxC
def mx1:McP:=(mcDo fxC mx0 mxA).2
def mx2:McP:=(mcDo fxC mx1 [2,0,1]).2
def mx3:McP:=(mcDo fxC mx2 mxC).2
def mx4:McP:=(mcDo fxC mx3 [3]).2
def mx5:McP:=(mcDo fxC mx4 []).2
theorem mx_a:(mcDo fxC mx0 mxA).1=(⟨0,⟨0,1,0,0,2,2,0,false⟩⟩,true):=by rfl
theorem mx_b:(mcDo fxC mx1 [2,0,1]).1=(⟨0,told 0⟩,false):=by rfl
theorem mx_c:(mcDo fxC mx2 mxC).1=(wrongW 250,true):=by rfl
theorem mx_d:(mcDo fxC mx3 [3]).1=(wrongW 250,true):=by rfl
theorem mx_e:(mcDo fxC mx4 []).1=(wrongW 250,true):=by rfl
theorem mx_l:mx5.l.length=4:=by rfl
section
variable {w0 : World} {F : jb} {b nf : Nat} {c : Cfg} {m m' : McP} {M : McM} {p : List UInt8}
theorem JF {wt:Int} {s:SnP} {is:Bool} (hG:ji w0) (z:McZ b c m nf M) (hf:nf≤900000) (hp:p.length≤4294967296) (hll:m.l.length≤100000) (h1:(mcDo c m p).1=(⟨wt,s⟩,is)) (h2:(mcDo c m p).2=m'):Call Tryz.prog w0 36 [.pointer (some ⟨b,0,none⟩), .string (strB p)] (mcH M++F)
  (fun r H'=>r= .tuple [.agg (wtL ⟨wt,s⟩).toArray, .bool is].toArray∧ ∃ M',McZ b c m' (nf+2) M'∧H'=mcH M'++F):=by
 subst h2
 have:=ja8 (F:=F) hG z hf hp hll
 rw[h1] at this;exact this
theorem fxMc (hG:ji w0) (b1 b2:Nat):Call Tryz.prog w0 35 [jr fxC (.slice (some ⟨b1,0,none⟩) 2 2) (.slice (some ⟨b2,0,none⟩) 2 2)] ((b2,cells (jx tnE fxC.tn) 55)::(b1,cells [.int .i64 2, .int .i64 4] 3)::F) (fun r H'=> ∃ b M,McZ b fxC mx0 1 M∧r= .tuple [.pointer (some ⟨b,0,none⟩), .int .i64 0].toArray∧H'=mcH M++((b2,cells (jx tnE fxC.tn) 55)::(b1,cells [.int .i64 2, .int .i64 4] 3)::F)):=by
 have hC:Sli w0 [(b1,cells [.int .i64 2, .int .i64 4] 3)] iE (.slice (some ⟨b1,0,none⟩) 2 2) fxC.cl:=Sli.blk jI.head rfl (by decide) (by decide) rfl
 have hT:Sli w0 [(b2,cells (jx tnE fxC.tn) 55)] tnE (.slice (some ⟨b2,0,none⟩) 2 2) fxC.tn:=Sli.blk jI.head rfl (by decide) (by decide) rfl
 exact znj
set_option maxHeartbeats 4000000 in
theorem jdr (hG:ji w0):Call Tryz.prog w0 34 [] F (fun r H'=>r= .bool true∧H'=F):=by
 have hn:=fun A b1 b2=>fxMc (w0:=w0) (F:=A) hG b1 b2
 unfold jr jG at hn;refine znk ?_;refine zeT ?_;intro b16 b19;rintro _ _ ⟨b,M0,z0,rfl,rfl⟩
 have d1:=fun A=>JF (F:=A) hG z0 (by decide) (by decide) (by decide) mx_a (m':=mx1) rfl
 unfold wtL at d1;dsimp only at d1;refine zeR ?_;refine zaX ?_;refine znN ?_;rintro _ _ ⟨rfl,M1,z1,rfl⟩
 have d2:=fun A=>JF (F:=A) hG z1 (by decide) (by decide) (by show _≤100000;rw [show mx1.l.length=1 by kernel_rfl];decide) mx_b (m':=mx2) rfl
 unfold wtL told at d2;dsimp only at d2;refine znT ?_;intro b4;rintro _ _ ⟨rfl,M2,z2,rfl⟩
 have d3:=fun A=>JF (F:=A) hG z2 (by decide) (by decide) (by show _≤100000;rw [show mx2.l.length=1 by kernel_rfl];decide) mx_c (m':=mx3) rfl
 unfold wtL told at d3;dsimp only at d3;refine zbd ?_;intro b6;refine znO ?_;rintro _ _ ⟨rfl,M3,z3,rfl⟩
 have d4:=fun A=>JF (F:=A) hG z3 (by decide) (by decide) (by show _≤100000;rw [show mx3.l.length=2 by kernel_rfl];decide) mx_d (m':=mx4) rfl
 unfold wtL told at d4;dsimp only at d4;refine znU ?_;intro b8;rintro _ _ ⟨rfl,M4,z4,rfl⟩
 have d5:=fun A=>JF (F:=A) hG z4 (by decide) (by decide) (by show _≤100000;rw [show mx4.l.length=3 by kernel_rfl];decide) mx_e (m':=mx5) rfl
 unfold wtL told at d5;dsimp only at d5;refine znV ?_;intro b10;rintro _ _ ⟨rfl,M5,z5,rfl⟩
 have hL:=fun A=>jcW (w0:=w0) (F:=A) z5
 rw[mx_l] at hL;refine zhE ?_;intro b12;refine zbZ ?_;refine zbQ ?_;intro b14;refine zau ?_;refine zbZ ?_;refine zjN ?_;refine zQ ?_;refine zj ?_;refine za1 ?_;refine zcZ ?_;refine zcZ ?_;refine zcZ ?_;refine znP ?_;refine zfc ?_;exact zbO
end
open Go.RowKit
set_option maxRecDepth 10000
theorem jcT {l:List (List UInt8)} (h:longP l=false):l.length≤80∧ ∀ x∈l,x.length≤255:=by
 grind[longP]
section
variable {c : Cfg} {m : McP} {b : List UInt8} {t : Nat} {p : List (List UInt8)}
theorem jbi:(mcDo c m b).2.l.length≤m.l.length+1:=by
 show(if (mcDoes c m.hs (enA b)).1.2=true then m.l++ [(mcDoes c m.hs (enA b)).1.1] else m.l).length≤_
 grind
end
section
variable {w0 : World} {F : jb} {b nf : Nat} {c : Cfg} {m mb : McP} {M : McM} {x : List UInt8}
def allX (m:McP):List Int:=(m.hs.map (·.s.W.x)).flatten
theorem jeb (z:McZ b c m nf M):Call Tryz.prog w0 24 [.pointer (some ⟨M.f.b,0,none⟩)] (mcH M++F) (fun r H'=>r= .pointer (some ⟨M.f.m.b,0,none⟩)∧H'=mcH M++F):=by
 refine zrd ?_;rintro _ _ ⟨rfl,rfl⟩;exact zre
theorem jec (z:McZ b c m nf M):Call Tryz.prog w0 43 [.pointer (some ⟨M.f.m.b,0,none⟩)] (mcH M++F) (fun r H'=> ∃ o,oOk uE (allX m) o∧r=oV o (allX m).length∧H'=oH uE 34 (allX m) o++(mcH M++F)):=by
 refine zrf ?_;rintro _ _ ⟨o,ok,rfl,rfl⟩;exact zrg
theorem jga (z:McZ b c m nf M):(allX m).length≤4294967296:=by
 have h1:=z.f.mok.n
 have h2:=z.f.R
 grind[allX]
end
open Go.RowKit
set_option maxRecDepth 10000
structure MaS where
 i:Nat
 n:Nat
 m:McP
 M:McM
set_option maxRecDepth 10000
structure MwS where
 i:Nat
 m:McP
 mb:McP
 n:Nat
 A:McM
 nb:Nat
 B:McM
set_option maxRecDepth 10000
section
variable {w0 : World} {H : jb}
theorem jgY:Call Tryz.prog w0 63 [.pointer none] H (fun r H'=>r= .bool true∧H'=H):=by
 refine zjR ?_;refine zpE ?_;refine zcD ?_;exact zbO
theorem mnDo_K {s:ByteArray}:Call Tryz.prog w0 36 [.pointer none, .string s] H (fun r H'=>r= .tuple [.agg (wtL (wrongW 1)).toArray, .bool true].toArray∧H'=H):=by
 have hw:=fun A=>jcU (w0:=w0) (H:=A) (e:=1)
 unfold wtL wrongW told at hw⊢;dsimp only at hw⊢;refine zrQ ?_;intro b4;refine jp jgY ?_;refine zao ?_;refine zp ?_;refine jp (hw _) ?_;refine zeV ?_;exact zaL
theorem mnLen_K:Call Tryz.prog w0 44 [.pointer none] H (fun r H'=>r= .int .i64 0∧H'=H):=by
 refine zjS ?_;refine zaf ?_;refine jp jgY ?_;exact zhF
theorem mnFarm_K:Call Tryz.prog w0 42 [.pointer none] H (fun r H'=>r= .pointer none∧H'=H):=by
 refine zpo ?_;refine zaf ?_;refine jp jgY ?_;exact zhF
theorem mnAll_K {s:ByteArray}:Call Tryz.prog w0 73 [.pointer none, .string s] H (fun r H'=> ∃ b1 b2,r= .func (.func 97) #[] #[.pointer (some ⟨b1,0,none⟩), .pointer (some ⟨b2,0,none⟩)]∧H'=(b2,cells [.string s] 9)::(b1,cells [.pointer none] 76)::H):=by
 refine Call.enter2 (n:=6) (by rfl) Tryz.func73 rfl rfl rfl ?_;refine zew ?_;intro b2 b3;refine zah ?_;refine za5 ?_;refine zm ?_;exact KE.fin je rfl jd ja ⟨_,_,rfl,rfl⟩
theorem mnAll1_K {f:Value} {b1:Nat} {v2:Value}:Call Tryz.prog w0 97 [f, .pointer (some ⟨b1,0,none⟩),v2] ((b1,cells [.pointer none] 76)::H) (fun r H'=>H'=(b1,cells [.pointer none] 76)::H):=by
 refine Call.enter3 (n:=31) (by rfl) Tryz.func97 rfl rfl rfl ?_;refine zdo ?_;refine zaI ?_;refine jp jgY ?_;refine zaR ?_;refine zfy ?_;refine zaS ?_;exact KE.fin je rfl jd ja rfl
theorem mnRun_K {s:ByteArray}:Call Tryz.prog w0 45 [.pointer none, .string s] H (fun r H'=>r= .slice none 0 0∧H'=H):=by
 refine Call.enter2 (n:=16) (by rfl) Tryz.func45 rfl rfl rfl ?_;refine zav ?_;refine zbe ?_;intro b5;refine zbu ?_;refine zbq ?_;refine JY mnAll_K ?_;rintro _ _ ⟨c1,c2,rfl,rfl⟩;refine zc1 ?_;refine K.rangeFunc (lb:=[.pointer (some ⟨c1,0,none⟩), .pointer (some ⟨c2,0,none⟩)]) rfl
  (fun D G=>G=(D, .deferred (some []))::(c2,cells [.string s] 9)::(c1,cells [.pointer none] 76)::(b5,cells [.slice none 0 0] 99)::H)
  (fun D c G=>False) ?_ ?_ ?_
 ·intro l D rc hyl;refine(Call.part (mnAll1_K (b1:=c1) (H:=(l, .loop (rc .ready none))::(D, .deferred (some []))::(c2,cells [.string s] 9)::(b5,cells [.slice none 0 0] 99)::H)) ja).mono ?_;rintro _ _ rfl;exact .inl ⟨_,ja,rfl⟩
 ·rintro D F rfl;refine zaw ?_;refine zV ?_;refine zw ?_;exact zq
 grind
def zmH (b:Nat):jb:=[(b,cells [.pointer none, .slice none 0 0] 101)]
variable {b : Nat}
theorem jim:Call Tryz.prog w0 63 [.pointer (some ⟨b,0,none⟩)] (zmH b++H) (fun r H'=>r= .bool true∧H'=zmH b++H):=by
 unfold zmH;refine zjR ?_;refine zfx ?_;refine zcq ?_;refine zx ?_;exact zq
theorem zmDo_K {s:ByteArray}:Call Tryz.prog w0 36 [.pointer (some ⟨b,0,none⟩), .string s] (zmH b++H) (fun r H'=>r= .tuple [.agg (wtL (wrongW 1)).toArray, .bool true].toArray∧H'=zmH b++H):=by
 have hw:=fun A=>jcU (w0:=w0) (H:=A) (e:=1)
 unfold wtL wrongW told at hw⊢;dsimp only at hw⊢;refine zrQ ?_;intro b4;refine jn jim ja ?_;refine zao ?_;refine zp ?_;refine jp (hw _) ?_;refine zeV ?_;exact zaL
theorem zmLen_K:Call Tryz.prog w0 44 [.pointer (some ⟨b,0,none⟩)] (zmH b++H) (fun r H'=>r= .int .i64 0∧H'=zmH b++H):=by
 refine zjS ?_;refine zaf ?_;refine jn jim ja ?_;exact zhF
theorem zmTrace_K {t:Int}:Call Tryz.prog w0 39 [.pointer (some ⟨b,0,none⟩), .int .i64 t] (zmH b++H) (fun r H'=>r= .slice none 0 0∧H'=zmH b++H):=by
 refine zm1 ?_;refine zaf ?_;refine jn jim ja ?_;exact zhF
end
open Go.RowKit
set_option maxRecDepth 10000
section
variable {w0 : World} {F : jb} {c : Cfg} {vc vt v u : Value} {l lm : List (List UInt8)}
theorem mcDo_hs {m mb:McP} {x:List UInt8} (h:mb.hs=m.hs):(mcDo c mb x).1=(mcDo c m x).1∧(mcDo c mb x).2.hs=(mcDo c m x).2.hs:=by
 grind[mcDo]
theorem jkO {m:McP} {y:List UInt8} (hlen:m.hs.length=c.tn.length) (h:jo y=none∨((enA y).k=1∧(enA y).t≥((c.tn.length:Nat):Int))):mcDo c m y=((wrongW 250,true),⟨m.hs,m.l++ [wrongW 250]⟩):=by
 have hw:mcDoes c m.hs (enA y)=((wrongW 250,true),m.hs):=by
  refine jbQ ?_ ?_
  ·rcases h with h|h
   ·unfold enA;rw [h];decide
   omega
  ·intro hk;rw[faDo_er2,if_neg]
   ·decide
   ·rcases h with h|h
    ·unfold enA at hk;rw [h] at hk;exact absurd hk (by decide)
    omega
 grind[mcDo]
set_option maxHeartbeats 16000000 in
theorem machineWrong_K (hG:ji w0) (hR:Jc w0 F c vc vt) (hl:Sli w0 F stE v l) (hlm:Sli w0 F stE u lm):Call Tryz.prog w0 14 [jr c vc vt,v,u] F (fun r H'=>r= .bool true∧H'=F):=by
 have hlo2:=fun A (hp:Part A F)=>jcX (w0:=w0) (H:=A) (hlm.part hp)
 have hchk:=fun A (hp:Part A F)=>jhG (hR.part hp)
 have haw:=fun A=>jdr (w0:=w0) (F:=A) hG
 have hsm:=fun A (hp:Part A F)=>jcI (hR.part hp)
 have hn1:=fun A (hp:Part A F) (hok:jz c=true)=>mcNew_K hG (hR.part hp) hok
 have hlo:=fun A (hp:Part A F)=>jcX (w0:=w0) (H:=A) (hl.part hp)
 obtain⟨hS,hT',o1,o2,l1,l2⟩:=hR
 obtain⟨ok,hok⟩: ∃ ok,okF c=ok:=⟨_,rfl⟩
 simp only[hok] at hsm;simp only[jr,jG] at hsm hn1 hchk⊢
 obtain⟨b1,hb1⟩: ∃ b1,longP l=b1:=⟨_,rfl⟩
 simp only[hb1] at hlo
 obtain⟨b2,hb2⟩: ∃ b2,longP lm=b2:=⟨_,rfl⟩
 simp only[hb2] at hlo2
 cases ok with
 |false=>
  refine zpq ?_;refine zeu ?_;intro b3;refine zag ?_;refine zcH ?_;refine zcN ?_;exact zd3
 |true=>
  cases b1 with
  |true=>
   refine zpq ?_;refine zeL ?_;intro b3;refine zcN ?_;exact zd3
  |false=>
   cases b2 with
   |true=>
    refine zpq ?_;refine zeL ?_;intro b3;refine zev ?_;refine jp (hlo2 _ ja) ?_;refine za8 ?_;exact zdC
   |false=>
    have hc:=okF_cfg hok
    rw[hc] at hchk;simp only[jbL,if_true] at hchk
    have ht8:=(Jf hc).tn
    obtain⟨hl80,hl255⟩:=jcT hb1
    obtain⟨hm80,hm255⟩:=jcT hb2
    refine zpq ?_;refine zeL ?_;intro b3;refine zev ?_;refine jp (hlo2 _ ja) ?_;refine zaX ?_;refine zb3 ?_;rintro _ _ ⟨ba,A0,za,rfl,rfl⟩;refine zcC ?_;refine zb3 ?_;rintro _ _ ⟨bb,B0,zb,rfl,rfl⟩;refine zhg ?_;refine zx ?_;refine zfj ?_;refine zU ?_;refine K.cutE (σ:=MwS) [(3,_),(7,_),(9,_)] jc (fun s kp_=>kp_) (fun s=>mcH s.A++(mcH s.B++((b3,cells [vc, .int .i64 c.page,vt, .int .i64 c.workers, .int .i64 c.grey, .int .i64 c.gens] 25)::F))) (fun s=>McZ ba c s.m s.n s.A∧McZ bb c s.mb s.nb s.B∧s.m.l.length≤200∧s.mb.l.length≤200∧s.mb.hs=s.m.hs) ?_ ?_
    ·refine K.block ?_;refine K.loopT (σ:=MwS) [(1,_),(2,_),(3,_),(7,_),(9,_)] (fun s kp_=>(11, .int .i64 (s.i:Nat))::kp_) (fun s=>mcH s.A++(mcH s.B++((b3,cells [vc, .int .i64 c.page,vt, .int .i64 c.workers, .int .i64 c.grey, .int .i64 c.gens] 25)::F))) (fun s=>s.i≤l.length∧McZ ba c s.m s.n s.A∧McZ bb c s.mb s.nb s.B∧s.n≤1+s.i*4∧s.nb≤1+s.i*4∧s.m.l.length≤s.i*2∧s.mb.l.length≤s.i*2∧s.mb.hs=s.m.hs) (fun s=>l.length-s.i) (⟨0,newMc c,newMc c,1,A0,1,B0⟩) jc ja (⟨Nat.zero_le _,za,zb,by show 1≤1+0*4;omega,by show 1≤1+0*4;omega,Nat.le_refl _,Nat.le_refl _,rfl⟩) ?_;clear za zb;rintro⟨i,m,mb,n,A,nb,B⟩ ⟨hi,za,zb,hn,hnb,hlen,hlenb,hS⟩;dsimp only at hi za zb hn hnb hlen hlenb hS⊢
     by_cases hlt:i<l.length
     ·have hlt':((i:Nat):Int)<((l.length:Nat):Int):=by omega
      obtain⟨x,hx⟩:=jh hlt
      have hx':l[((i:Nat):Int).toNat]?=some x:=hx
      have hxl:=hl255 x (List.mem_of_getElem? hx)
      refine zdV ?_;refine zjT ?_;refine K.cutT (σ:=MaS) [(1,_),(2,_),(3,_),(7,_),(9,_),(11,_)] jc (fun s kp_=>kp_) (fun s=>mcH s.M++(mcH B++((b3,cells [vc, .int .i64 c.page,vt, .int .i64 c.workers, .int .i64 c.grey, .int .i64 c.gens] 25)::F))) (fun s=>McZ ba c s.m s.n s.M∧s.n≤3+i*4∧s.m.l.length≤i*2+1∧mb.hs=s.m.hs) ?_ ?_
      ·skip
       by_cases hm1:i<lm.length
       ·have hm1':((i:Nat):Int)<((lm.length:Nat):Int):=by omega
        obtain⟨y,hy⟩:=jh (l:=lm) (k:=i) hm1
        have hy':lm[((i:Nat):Int).toNat]?=some y:=hy
        have hyl:=hm255 y (List.mem_of_getElem? hy)
        have hget:=fun A=>jfg (w0:=w0) (H:=A) (l:=y) (by omega)
        obtain⟨⟨k,t,⟨oc,oh,oa,ob,ov⟩,w,uu⟩,hx⟩: ∃ x,enA y=x:=⟨_,rfl⟩
        simp only[hx,enV,enL] at hget
        cases hgp:jo y with
        |none=>
         simp only[hgp,Option.isSome_none,Bool.false_eq_true,if_false] at hget
         have hwr:=jkO (c:=c) (m:=m) (y:=y) za.f.len (.inl hgp)
         have hdo:=fun A=>JF (F:=A) hG za (by omega) (p:=y) (by omega) (by omega) (show(mcDo c m y).1=(⟨-1,⟨250,0,0,0,0,0,0,false⟩⟩,true) by rw[hwr];rfl) (congrArg Prod.snd hwr)
         clear hwr;unfold wtL at hdo;dsimp only at hdo;refine ziu ?_;refine zao ?_;refine zB ?_;refine ze5 ?_;refine zgV ?_;refine zaO ?_;intro b12;refine zM ?_;refine zdT ?_;refine zrT ?_;refine zrT ?_;refine zrT ?_;refine zgN ?_;refine zbh ?_;refine zlt ?_;refine zgW ?_;rintro _ _ ⟨rfl,M2,z2,rfl⟩;refine zaO ?_;intro b14;refine zy ?_;refine zd4 ?_;refine znv ?_;refine znv ?_;refine KL.v rfl (Val.neqAE rfl rfl (by kernel_rfl) je4 (by first|assumption|rfl)) ?_;refine zlz ?_;exact zs6
        |some q=>
         simp only[hgp,Option.isSome_some,if_true] at hget
         by_cases hk:k=1
         ·have hk':((k:Nat):Int)=1:=by omega
          by_cases ht:t≥((c.tn.length:Nat):Int)
          ·skip
           have hwr:=jkO (c:=c) (m:=m) (y:=y) za.f.len (.inr (by rw[hx];exact⟨hk,ht⟩))
           have hdo:=fun A=>JF (F:=A) hG za (by omega) (p:=y) (by omega) (by omega) (show(mcDo c m y).1=(⟨-1,⟨250,0,0,0,0,0,0,false⟩⟩,true) by rw[hwr];rfl) (congrArg Prod.snd hwr)
           clear hwr;unfold wtL at hdo;dsimp only at hdo;refine ziu ?_;refine zao ?_;refine zB ?_;refine ze5 ?_;refine zgV ?_;refine zaO ?_;intro b12;refine zaj ?_;refine zaV ?_;refine zO ?_;refine zlp ?_;refine zbK ?_;refine ziD ?_;refine zac ?_;refine zl ?_;refine zA ?_;refine za8 ?_;refine zlt ?_;refine zgW ?_;rintro _ _ ⟨rfl,M2,z2,rfl⟩;refine zaO ?_;intro b14;refine zy ?_;refine zd4 ?_;refine znv ?_;refine znv ?_;refine KL.v rfl (Val.neqAE rfl rfl (by kernel_rfl) je4 (by first|assumption|rfl)) ?_;refine zlz ?_;exact zs6
          ·skip
           refine ziu ?_;refine zao ?_;refine zB ?_;refine ze5 ?_;refine zgV ?_;refine zaO ?_;intro b12;refine zaj ?_;refine zaV ?_;refine zO ?_;refine zlp ?_;refine zbK ?_;refine ziD ?_;refine zbS ?_;refine zl ?_;refine zA ?_;refine zlz ?_;exact zrj
         ·have hk': ¬((k:Nat):Int)=1:=by omega
          refine ziu ?_;refine zao ?_;refine zB ?_;refine ze5 ?_;refine zgV ?_;refine zaO ?_;intro b12;refine zaj ?_;refine zaV ?_;refine zC ?_;refine zl ?_;refine zdZ ?_;refine zl ?_;refine zx ?_;refine zlz ?_;exact zrj
       ·have hm1': ¬((i:Nat):Int)<((lm.length:Nat):Int):=by omega
        refine zg5 ?_;refine zcy ?_;refine zat ?_;exact zrj
      ·skip
       clear za hn hlen hS;rintro⟨_,n,m,A⟩ ⟨za,hn,hlen,hS⟩;dsimp only at za hn hlen hS⊢
       have hm2:=jbi (c:=c) (m:=m) (b:=x)
       have hmb2:=jbi (c:=c) (m:=mb) (b:=x)
       obtain⟨hs1,hs2⟩:=mcDo_hs (c:=c) (x:=x) hS
       obtain⟨⟨⟨wt,⟨e,hh,w,addr,us,si,cy,ac⟩⟩,is⟩,hr⟩: ∃ q,(mcDo c m x).1=q:=⟨_,rfl⟩
       have hda:=fun A=>JF (F:=A) hG za (by omega) (p:=x) (by omega) (by omega) hr rfl
       have hdb:=fun A=>JF (F:=A) hG zb (by omega) (p:=x) (by omega) (by omega) (hs1.trans hr) rfl
       unfold wtL at hda hdb;dsimp only at hda hdb;refine zg5 ?_;refine zlq ?_;rintro _ _ ⟨rfl,A2,za2,rfl⟩;refine zbd ?_;intro b16;refine zay ?_;refine zj3 ?_;refine jB (hdb _) ja ?_;rintro _ _ ⟨rfl,B2,zb2,rfl⟩;refine ziC ?_;intro b18;refine zj ?_;simp only[eq_self,decide_true,beq_self_eq_true,Bool.and_self,Bool.not_true];refine zku ?_;refine zku ?_
       (first|refine KL.skipG rfl rfl rfl ?_|refine KL.skipU rfl rfl rfl ?_|(refine KL.yes rfl rfl ?_;refine KL.v rfl (Val.neqB rfl rfl rfl) ?_))
       simp only[bne_self_eq_false];refine zx ?_;refine zdD ?_;exact KE.again ⟨i+1,_,_,n+2,A2,nb+2,B2⟩ jc ja ⟨hlt,za2,zb2,by show n+2≤1+(i+1)*4;omega,by show nb+2≤1+(i+1)*4;omega,by show(mcDo c m x).2.l.length≤(i+1)*2;omega,by show(mcDo c mb x).2.l.length≤(i+1)*2;omega,hs2⟩ (by show l.length-(i+1)<l.length-i;omega)
     ·have hlt': ¬((i:Nat):Int)<((l.length:Nat):Int):=by omega
      refine zcR ?_;exact KE.meet ⟨0,m,mb,n,A,nb,B⟩ jc ja ⟨za,zb,by show m.l.length≤_;omega,by show mb.l.length≤_;omega,hS⟩
    ·clear za zb;rintro⟨_,m,mb,n,A,nb,B⟩ ⟨za,zb,hlen,hlenb,hS⟩;dsimp only at za zb hlen hlenb hS⊢
     have hFa:=fun A=>jd5 (w0:=w0) (F:=A) za
     have hMa:=fun A=>jeb (w0:=w0) (F:=A) za
     have hXa:=fun A=>jec (w0:=w0) (F:=A) za
     have hFb:=fun A=>jd5 (w0:=w0) (F:=A) zb
     have hMb:=fun A=>jeb (w0:=w0) (F:=A) zb
     have hXb:=fun A=>jec (w0:=w0) (F:=A) zb
     have hxl:=jga za
     have hxe:allX mb=allX m:=by unfold allX;rw [hS]
     rw[hxe] at hXb
     have hnd:=fun A s=>mnDo_K (w0:=w0) (H:=A) (s:=s)
     have hzd:=fun b A s=>zmDo_K (w0:=w0) (b:=b) (H:=A) (s:=s)
     have hnr:=fun A s=>mnRun_K (w0:=w0) (H:=A) (s:=s)
     have hnl:=fun A=>mnLen_K (w0:=w0) (H:=A)
     have hnf:=fun A=>mnFarm_K (w0:=w0) (H:=A)
     have hzt:=fun b A t=>zmTrace_K (w0:=w0) (b:=b) (H:=A) (t:=t)
     have hzl:=fun b A=>zmLen_K (w0:=w0) (b:=b) (H:=A)
     unfold wtL wrongW told at hnd hzd;dsimp only at hnd hzd;simp only[show((0:Nat):Int)=0 from rfl] at hnd hzd;unfold zmH at hzd hzt hzl;simp only[List.cons_append,List.nil_append] at hzd hzt hzl;refine zav ?_;refine zci ?_;intro b132;refine zch ?_;refine jp (hnd _ _) ?_;refine zey ?_;intro b22;refine jn (hzd _ _ _) ja ?_;refine zhE ?_;intro b24;refine zbZ ?_;refine zbQ ?_;intro b26;refine zn ?_;refine jn (hFa _) ja ?_;refine zp ?_;refine jn (hMa _) ja ?_;refine zp ?_;refine jB (hXa _) ja ?_;rintro _ _ ⟨oa,koa,rfl,rfl⟩;refine zn ?_;refine jn (hFb _) ja ?_;refine zp ?_;refine jn (hMb _) ja ?_;refine zp ?_;refine jB (hXb _) ja ?_;rintro _ _ ⟨od,kod,rfl,rfl⟩;refine zu fun T hT=>?_;refine zri ?_;rintro _ _ ⟨rfl,rfl⟩;rw[decide_eq_true rfl];refine ze ?_;clear hT T;refine zd4 ?_;refine ztu ?_;refine zcZ ?_;refine zit ?_;refine jp (hnr _ _) ?_;refine zl ?_;refine KL.v rfl (Val.lenS rfl rfl) ?_;refine ziJ ?_;refine jn (hzt _ _ _) ja ?_;refine zl ?_;refine KL.v rfl (Val.lenS rfl rfl) ?_;refine zl ?_;refine zbl ?_;refine ziJ ?_;refine jp (hnl _) ?_;refine zl ?_;refine zbl ?_;refine ziJ ?_;refine jn (hzl _ _) ja ?_;refine zl ?_;refine zbl ?_;refine zfc ?_;refine zit ?_;refine jp (hnf _) ?_;refine zl ?_;refine zcq ?_;refine zrt ?_;refine zp ?_;refine jp (hchk _ ja) ?_;refine zfc ?_;refine zbH ?_;exact zkq
end
end Go.Proofs.YtebiafomiemgbaaGreatDoor.Sw
