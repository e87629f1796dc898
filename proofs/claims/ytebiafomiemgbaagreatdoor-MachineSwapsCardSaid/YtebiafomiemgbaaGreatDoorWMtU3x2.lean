/-What the law needs of its own,part 2. -/
import Derived.Test.YtebiafomiemgbaaGreatDoorWMtU3x1
set_option linter.unusedVariables false
set_option linter.unusedSimpArgs false
namespace Go.Proofs.YtebiafomiemgbaaGreatDoor.Sw
set_option maxHeartbeats 8000000
open Go.Proofs.YtebiafomiemgbaaGreatDoor renaming lo → qL, hi → qH
open Go.RowKit
set_option maxRecDepth 10000
def mcH (M:McM):jb:=(M.b,cells [.pointer (some ⟨M.f.b,0,none⟩),oV M.o M.l.length] 101)::(oH wtE 80 M.l M.o++fmH M.f)
theorem mcH_app {M:McM} {F:jb}:mcH M++F=(M.b,cells [.pointer (some ⟨M.f.b,0,none⟩),oV M.o M.l.length] 101)::(oH wtE 80 M.l M.o++(fmH M.f++F)):=by
 simp[mcH]
section
variable {w0 : World} {F : jb} {b nf : Nat} {c : Cfg} {m : McP} {M : McM} {x : EnP}
theorem mnone0_K:Call Tryz.prog w0 63 [.pointer (some ⟨M.b,0,none⟩)] (mcH M++F) (fun r H'=>r= .bool false∧H'=mcH M++F):=by
 refine zjR ?_;simp only[mcH_app];refine zfx ?_;refine zea ?_;exact zdS
theorem jd5 (z:McZ b c m nf M):Call Tryz.prog w0 42 [.pointer (some ⟨b,0,none⟩)] (mcH M++F) (fun r H'=>r= .pointer (some ⟨M.f.b,0,none⟩)∧H'=mcH M++F):=by
 obtain⟨rfl,_,_,_⟩:=z
 refine zpo ?_;refine zpZ ?_;refine zN ?_;refine zm ?_;exact zdS
theorem jcW (z:McZ b c m nf M):Call Tryz.prog w0 44 [.pointer (some ⟨b,0,none⟩)] (mcH M++F) (fun r H'=>r= .int .i64 (m.l.length:Nat)∧H'=mcH M++F):=by
 obtain⟨rfl,_,hl,ho⟩:=z
 rw[←hl];refine zjS ?_;refine zhI ?_;refine zdL ?_;exact zdS
theorem jc8 {t:Int} (z:McZ b c m nf M) (hll:m.l.length≤100000):Call Tryz.prog w0 39 [.pointer (some ⟨b,0,none⟩), .int .i64 t] (mcH M++F) (fun r H'=> ∃ o,oOk sqE (ofW m.l t) o∧r=oV o (ofW m.l t).length∧H'=oH sqE 43 (ofW m.l t) o++(mcH M++F)):=by
 obtain⟨rfl,_,hl,ho⟩:=z
 rw[←hl] at hll⊢;refine zm1 ?_;refine zhI ?_;refine zn ?_;refine zpj ?_;rintro _ _ ⟨o,ok,rfl,rfl⟩;refine zm ?_;exact zpk
theorem jcU {H:jb} {e:Int}:Call Tryz.prog w0 64 [.int .i64 e] H (fun r H'=>r= .agg (wtL (wrongW e)).toArray∧H'=H):=by
 unfold wtL wrongW told;dsimp only;refine zm2 ?_;refine zbx ?_;intro b2;refine zcg ?_;refine zbZ ?_;refine zh5 ?_;exact zH
theorem mcNew_K {vc vt:Value} (hG:ji w0) (hR:Jc w0 F c vc vt) (hc:jz c=true):Call Tryz.prog w0 35 [jr c vc vt] F (fun r H'=> ∃ b M,McZ b c (newMc c) 1 M∧r= .tuple [.pointer (some ⟨b,0,none⟩), .int .i64 0].toArray∧H'=mcH M++F):=by
 have hn:=fun A (hp:Part A F)=>zNew hG (hR.part hp) hc
 obtain⟨hS,hT',o1,o2,l1,l2⟩:=hR
 simp only[jr,jG] at hn⊢;refine zm3 ?_;refine zdN ?_;intro b1;refine znM ?_;rintro _ _ ⟨bf,f,z,rfl,rfl⟩
 obtain rfl:=z.b
 refine zbM ?_;refine zba ?_;refine zgK ?_;intro b16;exact zm4
end
structure MtE where
 b:Nat
 g:FmM
section
variable {w0 : World} {F : jb} {b nf : Nat} {c : Cfg} {m : McP} {M : McM} {x : EnP}
theorem jdA (hG:ji w0) (z:McZ b c m nf M) (hf:nf≤900000) (hx:EnOk x):Call Tryz.prog w0 66 [.pointer (some ⟨b,0,none⟩),enV x] (mcH M++F)
  (fun r H'=>r= .tuple [.agg (wtL (mcDoes c m.hs x).1.1).toArray, .bool (mcDoes c m.hs x).1.2].toArray∧ ∃ f',f'.b=M.f.b∧FmZ M.f.b c (mcDoes c m.hs x).2 (nf+2) f'∧H'=mcH {M with f:=f'}++F):=by
 have hzf:=z.f
 have hzb:=z.b
 have hst:=fun A (p:PkP) (hu:p.u<256)=>zStep (w0:=w0) (F:=A) (p:=p) hG z.f hf hu rfl rfl
 have hdo:=fun A=>zDo (w0:=w0) (F:=A) (i:=x.t) (op:=x.o) hG z.f hf ⟨hx.c,hx.h,hx.v⟩ rfl rfl
 have hwr:=fun A=>jcU (w0:=w0) (H:=A) (e:=250)
 unfold wrongW told wtL at hwr;dsimp only at hwr
 obtain⟨hb,hl,ho⟩:M.b=b∧M.l=m.l∧oOk wtE M.l M.o:=⟨z.b,z.l,z.o⟩
 subst hb
 have hu8:=hx.u
 unfold enV enL
 by_cases h2:x.k=2
 ·rw[je7 h2]
  have h2':((x.k:Nat):Int)=2:=by omega
  have hs:=fun A=>hst A ⟨x.w,((x.u/8:Nat):Int),x.u%8⟩ (by grind)
  simp only[pkV] at hs
  obtain⟨xk,xt,⟨oc,oh,oa,ob,ov⟩,xw,xu⟩:=x
  dsimp only at h2 h2' hs hu8⊢
  have e1:((xu:Nat):Int)/8=((xu/8:Nat):Int):=by omega
  have e2:((xu:Nat):Int)%8=((xu%8:Nat):Int):=by omega
  rw[←e1,←e2] at hs;refine zla ?_;refine zf5 ?_;intro b3 b4;refine zlo ?_;refine zJ ?_;refine zm5 ?_;refine zfb ?_;refine zhV ?_;refine zaC ?_;refine zgo ?_;refine zeO ?_;refine zm6 ?_;refine zm7 ?_;refine zeO ?_;refine zm8 ?_;refine zbT ?_;refine zk fun T hT=>?_;refine zm9 ?_;rintro _ _ ⟨rfl,f',zf',rfl⟩;refine zi ?_;clear hT T;refine zdj ?_;refine zgm ?_;exact zna
 ·by_cases h1:x.k=1
  ·have h1':((x.k:Nat):Int)=1:=by omega
   have h2': ¬((x.k:Nat):Int)=2:=by omega
   by_cases h0:(faDo c m.hs x.t x.o).1.2=0
   ·rw[jc9 h1 h0];rw[h0] at hdo
    obtain⟨⟨⟨e,hh,w,addr,us,si,cy,ac⟩,er⟩,hs9,hv⟩: ∃ (q:SnP × Int) (h9:List HpP),faDo c m.hs x.t x.o=(q,h9):=⟨_,_,rfl⟩
    rw[hv] at h0;simp only[hv] at hdo⊢
    obtain⟨xk,xt,⟨oc,oh,oa,ob,ov⟩,xw,xu⟩:=x
    unfold opV snV at hdo;dsimp only at h1' h2' hdo⊢;unfold wtL;refine zgw ?_;simp only[mcH_app];subst h0;refine zfa ?_;intro b3 b4;refine ze6 ?_;refine K.cutT (σ:=MtE) [(3,_),(4,_)] jc (fun s kp_=>(6, .pointer (some ⟨s.b,0,none⟩))::(7, .int .i64 0)::kp_) (fun s=>(s.b,cells [.int .i64 e, .int .u64 (hh:Nat), .int .u64 w, .int .i64 addr, .int .i64 us, .int .i64 si, .int .i64 cy, .bool ac] 43)::((b4,cells [.int .i64 0, .int .i64 0, .int .u64 0, .int .u64 0, .int .i64 0, .int .i64 0, .int .i64 0, .int .i64 0, .bool false] 80)::((b3,cells [.int .u8 (xk:Nat), .int .i64 xt, .int .u8 (oc:Nat), .int .u64 (oh:Nat), .int .i64 oa, .int .i64 ob, .int .u64 (ov:Nat), .int .i64 xw, .int .u8 (xu:Nat)] 91)::((M.b,cells [.pointer (some ⟨M.f.b,0,none⟩),oV M.o M.l.length] 101)::(oH wtE 80 M.l M.o++(fmH s.g++F)))))) (fun s=>FmZ M.f.b c hs9 (nf+2) s.g) ?_ ?_
    ·skip
     refine zge ?_;refine KD.fork2 (x:=8) (y:=12) (o1:=[(9,1),(10,1),(11,1),(12,2),(13,2),(14,0)]) (o2:=[(8,2),(9,0),(10,0),(11,1),(13,2),(14,0)]) (by kernel_rfl) rfl rfl (by kernel_rfl) (by kernel_rfl) ?_ ?_
     ·refine zT fun T hT=>?_;refine zbv ?_;rintro _ _ ⟨rfl,f1,zf1,rfl⟩;refine zi ?_;clear hT T;refine znx ?_;intro b6;exact zs2
     ·(refine jP.e rfl (Eff.alloc rfl) ?_;rintro _ _ ⟨b6,rfl,rfl⟩;refine⟨ja,?_⟩)
      refine zk fun T hT=>?_;refine zbv ?_;rintro _ _ ⟨rfl,f1,zf1,rfl⟩;refine zi ?_;clear hT T;exact zf9
    ·rintro⟨b6,f1⟩ zf1;dsimp only at zf1⊢;refine zaH ?_;refine zeF ?_;refine zae ?_;refine zau ?_;refine zgm ?_;exact zfO
   ·rw[jbQ (by omega) fun _=>h0]
    have hno:(faDo c m.hs x.t x.o).1.2=2∧(faDo c m.hs x.t x.o).2=m.hs:=by
     rcases fa_cases m.hs x.t with⟨j,h,e,g⟩|g
     ·rw[e,JO g] at h0;grind
     grind[jao]
    rw[hno.1,hno.2] at hdo
    obtain⟨⟨⟨e,hh,w,addr,us,si,cy,ac⟩,er⟩,hs9,hv⟩: ∃ (q:SnP × Int) (h9:List HpP),faDo c m.hs x.t x.o=(q,h9):=⟨_,_,rfl⟩
    simp only[hv] at hdo⊢
    obtain⟨xk,xt,⟨oc,oh,oa,ob,ov⟩,xw,xu⟩:=x
    unfold opV snV at hdo;dsimp only at h1' h2' hdo⊢;unfold wtL wrongW told;refine zgw ?_;refine zf5 ?_;intro b3 b4;refine ze6 ?_;refine K.cutT (σ:=MtE) [(3,_),(4,_)] jc (fun s kp_=>(6, .pointer (some ⟨s.b,0,none⟩))::(7, .int .i64 2)::kp_) (fun s=>(s.b,cells [.int .i64 e, .int .u64 (hh:Nat), .int .u64 w, .int .i64 addr, .int .i64 us, .int .i64 si, .int .i64 cy, .bool ac] 43)::((b4,cells [.int .i64 0, .int .i64 0, .int .u64 0, .int .u64 0, .int .i64 0, .int .i64 0, .int .i64 0, .int .i64 0, .bool false] 80)::((b3,cells [.int .u8 (xk:Nat), .int .i64 xt, .int .u8 (oc:Nat), .int .u64 (oh:Nat), .int .i64 oa, .int .i64 ob, .int .u64 (ov:Nat), .int .i64 xw, .int .u8 (xu:Nat)] 91)::((M.b,cells [.pointer (some ⟨M.f.b,0,none⟩),oV M.o M.l.length] 101)::(oH wtE 80 M.l M.o++(fmH s.g++F)))))) (fun s=>FmZ M.f.b c m.hs (nf+2) s.g) ?_ ?_
    ·skip
     refine zge ?_;refine KD.fork2 (x:=8) (y:=12) (o1:=[(9,1),(10,1),(11,1),(12,2),(13,2),(14,0)]) (o2:=[(8,2),(9,0),(10,0),(11,1),(13,2),(14,0)]) (by kernel_rfl) rfl rfl (by kernel_rfl) (by kernel_rfl) ?_ ?_
     ·refine zT fun T hT=>?_;refine zbv ?_;rintro _ _ ⟨rfl,f1,zf1,rfl⟩;refine zi ?_;clear hT T;refine znx ?_;intro b6;exact zs2
     ·(refine jP.e rfl (Eff.alloc rfl) ?_;rintro _ _ ⟨b6,rfl,rfl⟩;refine⟨ja,?_⟩)
      refine zk fun T hT=>?_;refine zbv ?_;rintro _ _ ⟨rfl,f1,zf1,rfl⟩;refine zi ?_;clear hT T;exact zf9
    ·rintro⟨b6,f1⟩ zf1;dsimp only at zf1⊢;refine zaH ?_;refine zC ?_;refine zh6 ?_;refine zV ?_;refine zgi ?_;exact zfO
  ·have h1': ¬((x.k:Nat):Int)=1:=by omega
   have h2': ¬((x.k:Nat):Int)=2:=by omega
   rw[jbQ h2 fun e=>absurd e h1];unfold wtL wrongW told;dsimp only;refine znb ?_;refine zfa ?_;intro b3 b4;refine zgl ?_;refine zbA ?_;refine zgi ?_;exact znc
theorem ja8 {p:List UInt8} (hG:ji w0) (z:McZ b c m nf M) (hf:nf≤900000) (hp:p.length≤4294967296) (hll:m.l.length≤100000):Call Tryz.prog w0 36 [.pointer (some ⟨b,0,none⟩), .string (strB p)] (mcH M++F)
  (fun r H'=>r= .tuple [.agg (wtL (mcDo c m p).1.1).toArray, .bool (mcDo c m p).1.2].toArray∧ ∃ M',McZ b c (mcDo c m p).2 (nf+2) M'∧H'=mcH M'++F):=by
 have hno:=fun A=>mnone0_K (w0:=w0) (M:=M) (F:=A)
 have hg:=fun A=>jdG (w0:=w0) (H:=A) hp
 have hx:=jel p
 have hd:=fun A=>jdA (F:=A) hG z hf hx
 obtain⟨hb,hl,ho⟩:M.b=b∧M.l=m.l∧oOk wtE M.l M.o:=⟨z.b,z.l,z.o⟩
 subst hb
 have hl2:M.l.length+1≤4294967296:=by grind
 have hfb:=z.f
 unfold mcDo
 obtain⟨x,hxe⟩: ∃ x,enA p=x:=⟨_,rfl⟩
 rw[hxe] at hx;simp only[hxe] at hg hd⊢;clear hxe
 obtain⟨⟨⟨⟨wt,⟨e,hh,w,addr,us,si,cy,ac⟩⟩,is⟩,hs9⟩,hv⟩: ∃ q,mcDoes c m.hs x=q:=⟨_,rfl⟩
 simp only[hv] at hd⊢;clear hv
 obtain⟨xk,xt,⟨oc,oh,oa,ob,ov⟩,xw,xu⟩:=x
 unfold enV enL at hg hd;unfold wtL at hd⊢;dsimp only at hg hd⊢
 cases is with
 |true=>
  refine zgJ ?_;intro b4 b6;rintro _ _ ⟨rfl,f',hfe,zf',rfl⟩;refine zlr ?_;intro b8;refine K.cutT (σ:=Own) [(4,_),(8,_),(9,_)] jc (fun s kp_=>kp_) (fun s=>mcH ⟨M.b,f',M.l++ [⟨wt,⟨e,hh,w,addr,us,si,cy,ac⟩⟩],s⟩++((b8,cells [.int .i64 wt, .int .i64 e, .int .u64 (hh:Nat), .int .u64 w, .int .i64 addr, .int .i64 us, .int .i64 si, .int .i64 cy, .bool ac] 80)::((b4,cells [.int .i64 0, .int .i64 0, .int .u64 0, .int .u64 0, .int .i64 0, .int .i64 0, .int .i64 0, .int .i64 0, .bool false] 80)::F))) (fun s=>oOk wtE (M.l++ [⟨wt,⟨e,hh,w,addr,us,si,cy,ac⟩⟩]) s) ?_ ?_
  ·refine zfg ?_;refine zj ?_;refine zaR ?_;rw[mcH_app];dsimp only;refine zJ ?_;refine znd ?_;refine zhn ?_;refine zgt ?_;refine zne ?_;refine znf ?_;intro b31;refine zcp ?_;refine KD.e rfl rfl (Eff.appZ (E:=wtE) (xs:=M.l) (o:=M.o) (ys:=[⟨wt,⟨e,hh,w,addr,us,si,cy,ac⟩⟩]) (zs:=M.l++ [⟨wt,⟨e,hh,w,addr,us,si,cy,ac⟩⟩]) rfl rfl rfl rfl rfl rfl jj (by omega) (by first|exact Sli.blk ju rfl (by grind) (by first|decide|(unfold maxLen;omega)) rfl|exact Sli.old (by assumption)|exact Sli.own jj (by assumption) jF|assumption|exact Sli.part (by assumption) ja) (rfl) (by grind) rfl) ?_;rintro _ _ ⟨oz,okz,rfl,rfl⟩;refine⟨ja,?_⟩;refine zbm ?_;refine zkN ?_;refine zbf ?_;refine zam ?_;exact zng
  ·rintro oz okz;refine zG ?_;refine zau ?_;refine zgu ?_;exact znh
 |false=>
  refine zgJ ?_;intro b4 b6;rintro _ _ ⟨rfl,f',hfe,zf',rfl⟩;refine zb4 ?_;intro b8;refine zig ?_;refine zgu ?_;exact zni
end
set_option maxRecDepth 100000
def o8:List UInt8:=[0,0,0,0,0,0,0,1]
def mxA:List UInt8:=[1,0,1]++e8++o8++e8
def mxC:List UInt8:=[1,2,1]++e8++o8++e8
def mx0:McP:=newMc fxC
def mx1:McP:=(mcDo fxC mx0 mxA).2
def mx2:McP:=(mcDo fxC mx1 [2,0,1]).2
def mx3:McP:=(mcDo fxC mx2 mxC).2
def mx4:McP:=(mcDo fxC mx3 [3]).2
def mx5:McP:=(mcDo fxC mx4 []).2
theorem mx_a:(mcDo fxC mx0 mxA).1=(⟨0,⟨0,1,0,0,2,2,0,false⟩⟩,true):=by rfl
theorem mx_b:(mcDo fxC mx1 [2,0,1]).1=(⟨0,told 0⟩,false):=by rfl
theorem mx_c:(mcDo fxC mx2 mxC).1=(wrongW 250,true):=by rfl
theorem mx_d:(mcDo fxC mx3 [3]).1=(wrongW 250,true):=by rfl
theorem mx_e:(mcDo fxC mx4 []).1=(wrongW 250,true):=by rfl
theorem mx_l:mx5.l.length=4:=by rfl
section
variable {w0 : World} {F : jb} {b nf : Nat} {c : Cfg} {m m' : McP} {M : McM} {p : List UInt8}
theorem JF {wt:Int} {s:SnP} {is:Bool} (hG:ji w0) (z:McZ b c m nf M) (hf:nf≤900000) (hp:p.length≤4294967296) (hll:m.l.length≤100000) (h1:(mcDo c m p).1=(⟨wt,s⟩,is)) (h2:(mcDo c m p).2=m'):Call Tryz.prog w0 36 [.pointer (some ⟨b,0,none⟩), .string (strB p)] (mcH M++F)
  (fun r H'=>r= .tuple [.agg (wtL ⟨wt,s⟩).toArray, .bool is].toArray∧ ∃ M',McZ b c m' (nf+2) M'∧H'=mcH M'++F):=by
 subst h2
 have:=ja8 (F:=F) hG z hf hp hll
 rw[h1] at this;exact this
theorem fxMc (hG:ji w0) (b1 b2:Nat):Call Tryz.prog w0 35 [jr fxC (.slice (some ⟨b1,0,none⟩) 2 2) (.slice (some ⟨b2,0,none⟩) 2 2)] ((b2,cells (jx tnE fxC.tn) 55)::(b1,cells [.int .i64 2, .int .i64 4] 3)::F) (fun r H'=> ∃ b M,McZ b fxC mx0 1 M∧r= .tuple [.pointer (some ⟨b,0,none⟩), .int .i64 0].toArray∧H'=mcH M++((b2,cells (jx tnE fxC.tn) 55)::(b1,cells [.int .i64 2, .int .i64 4] 3)::F)):=by
 have hC:Sli w0 [(b1,cells [.int .i64 2, .int .i64 4] 3)] iE (.slice (some ⟨b1,0,none⟩) 2 2) fxC.cl:=Sli.blk jI.head rfl (by decide) (by decide) rfl
 have hT:Sli w0 [(b2,cells (jx tnE fxC.tn) 55)] tnE (.slice (some ⟨b2,0,none⟩) 2 2) fxC.tn:=Sli.blk jI.head rfl (by decide) (by decide) rfl
 exact znj
set_option maxHeartbeats 4000000 in
theorem jdr (hG:ji w0):Call Tryz.prog w0 34 [] F (fun r H'=>r= .bool true∧H'=F):=by
 have hn:=fun A b1 b2=>fxMc (w0:=w0) (F:=A) hG b1 b2
 unfold jr jG at hn;refine znk ?_;refine zeT ?_;intro b16 b19;rintro _ _ ⟨b,M0,z0,rfl,rfl⟩
 have d1:=fun A=>JF (F:=A) hG z0 (by decide) (by decide) (by decide) mx_a (m':=mx1) rfl
 unfold wtL at d1;dsimp only at d1;refine zeR ?_;refine zaX ?_;refine znN ?_;rintro _ _ ⟨rfl,M1,z1,rfl⟩
 have d2:=fun A=>JF (F:=A) hG z1 (by decide) (by decide) (by show _≤100000;rw [show mx1.l.length=1 by kernel_rfl];decide) mx_b (m':=mx2) rfl
 unfold wtL told at d2;dsimp only at d2;refine znT ?_;intro b4;rintro _ _ ⟨rfl,M2,z2,rfl⟩
 have d3:=fun A=>JF (F:=A) hG z2 (by decide) (by decide) (by show _≤100000;rw [show mx2.l.length=1 by kernel_rfl];decide) mx_c (m':=mx3) rfl
 unfold wtL told at d3;dsimp only at d3;refine zbd ?_;intro b6;refine znO ?_;rintro _ _ ⟨rfl,M3,z3,rfl⟩
 have d4:=fun A=>JF (F:=A) hG z3 (by decide) (by decide) (by show _≤100000;rw [show mx3.l.length=2 by kernel_rfl];decide) mx_d (m':=mx4) rfl
 unfold wtL told at d4;dsimp only at d4;refine znU ?_;intro b8;rintro _ _ ⟨rfl,M4,z4,rfl⟩
 have d5:=fun A=>JF (F:=A) hG z4 (by decide) (by decide) (by show _≤100000;rw [show mx4.l.length=3 by kernel_rfl];decide) mx_e (m':=mx5) rfl
 unfold wtL told at d5;dsimp only at d5;refine znV ?_;intro b10;rintro _ _ ⟨rfl,M5,z5,rfl⟩
 have hL:=fun A=>jcW (w0:=w0) (F:=A) z5
 rw[mx_l] at hL;refine zhE ?_;intro b12;refine zbZ ?_;refine zbQ ?_;intro b14;refine zau ?_;refine zbZ ?_;refine zjN ?_;refine zQ ?_;refine zj ?_;refine za1 ?_;refine zcZ ?_;refine zcZ ?_;refine zcZ ?_;refine znP ?_;refine zfc ?_;exact zbO
end
set_option maxRecDepth 10000
theorem jcT {l:List (List UInt8)} (h:longP l=false):l.length≤80∧ ∀ x∈l,x.length≤255:=by
 grind[longP]
section
variable {c : Cfg} {m : McP} {b : List UInt8} {t : Nat} {p : List (List UInt8)}
theorem jbi:(mcDo c m b).2.l.length≤m.l.length+1:=by
 show(if (mcDoes c m.hs (enA b)).1.2=true then m.l++ [(mcDoes c m.hs (enA b)).1.1] else m.l).length≤_
 grind
end
section
variable {w0 : World} {F : jb} {b nf : Nat} {c : Cfg} {m mb : McP} {M : McM} {x : List UInt8}
def allX (m:McP):List Int:=(m.hs.map (·.s.W.x)).flatten
theorem jeb (z:McZ b c m nf M):Call Tryz.prog w0 24 [.pointer (some ⟨M.f.b,0,none⟩)] (mcH M++F) (fun r H'=>r= .pointer (some ⟨M.f.m.b,0,none⟩)∧H'=mcH M++F):=by
 refine zrd ?_;rintro _ _ ⟨rfl,rfl⟩;exact zre
theorem jec (z:McZ b c m nf M):Call Tryz.prog w0 43 [.pointer (some ⟨M.f.m.b,0,none⟩)] (mcH M++F) (fun r H'=> ∃ o,oOk uE (allX m) o∧r=oV o (allX m).length∧H'=oH uE 34 (allX m) o++(mcH M++F)):=by
 refine zrf ?_;rintro _ _ ⟨o,ok,rfl,rfl⟩;exact zrg
theorem jga (z:McZ b c m nf M):(allX m).length≤4294967296:=by
 have h1:=z.f.mok.n
 have h2:=z.f.R
 grind[allX]
end
structure MwS where
 i:Nat
 m:McP
 mb:McP
 n:Nat
 A:McM
 nb:Nat
 B:McM
section
variable {w0 : World} {F : jb} {c : Cfg} {vc vt v u : Value} {l lm : List (List UInt8)}
set_option maxHeartbeats 16000000 in
theorem machineSwaps_K {at_:Nat} (hG:ji w0) (hR:Jc w0 F c vc vt) (hl:Sli w0 F stE v l) (hat:at_<256):Call Tryz.prog w0 12 [jr c vc vt,v, .int .u8 (at_:Nat)] F (fun r H'=>r= .bool true∧H'=F):=by
 have haw:=fun A=>jdr (w0:=w0) (F:=A) hG
 have hsm:=fun A (hp:Part A F)=>jcI (hR.part hp)
 have hn1:=fun A (hp:Part A F) (hok:jz c=true)=>mcNew_K hG (hR.part hp) hok
 have hlo:=fun A (hp:Part A F)=>jcX (w0:=w0) (H:=A) (hl.part hp)
 obtain⟨hS,hT',o1,o2,l1,l2⟩:=hR
 obtain⟨ok,hok⟩: ∃ ok,okF c=ok:=⟨_,rfl⟩
 simp only[hok] at hsm;simp only[jr,jG] at hsm hn1⊢
 obtain⟨b1,hb1⟩: ∃ b1,longP l=b1:=⟨_,rfl⟩
 simp only[hb1] at hlo
 cases ok with
 |false=>
  refine zpp ?_;refine zeu ?_;intro b3;refine zag ?_;refine zcH ?_;refine zem ?_;exact zd3
 |true=>
  cases b1 with
  |true=>
   refine zpp ?_;refine zeL ?_;intro b3;refine zem ?_;exact zd3
  |false=>
   have hc:=okF_cfg hok
   have ht8:=(Jf hc).tn
   obtain⟨hl80,hl255⟩:=jcT hb1
   by_cases hl2:l.length<2
   ·have hl2':((l.length:Nat):Int)<2:=by omega
    refine zpp ?_;refine zeL ?_;intro b3;refine zfQ ?_;refine zI ?_;refine za8 ?_;exact zdC
   ·have hl2': ¬((l.length:Nat):Int)<2:=by omega
    obtain⟨k,hk⟩: ∃ k:Nat,((at_:Nat):Int)%(((l.length:Nat):Int)-1)=((k:Nat):Int):=⟨_,(Int.toNat_of_nonneg (Int.emod_nonneg _ (by omega))).symm⟩
    have hk2:k+1<l.length:=by
     have:=Int.emod_lt_of_pos ((at_:Nat):Int) (b:=((l.length:Nat):Int)-1) (by omega)
     omega
    have hk1':((k:Nat):Int)+1=((k+1:Nat):Int):=by omega
    obtain⟨px,hpx⟩:=jh (l:=l) (k:=k) (by omega)
    obtain⟨py,hpy⟩:=jh (l:=l) (k:=k+1) hk2
    have hpx':l[((k:Nat):Int).toNat]?=some px:=hpx
    have hpy':l[(((k:Nat):Int)+1).toNat]?=some py:=by rw[hk1'];exact hpy
    have hxl:=hl255 px (List.mem_of_getElem? hpx)
    have hyl:=hl255 py (List.mem_of_getElem? hpy)
    have hgx:=fun A=>jfg (w0:=w0) (H:=A) (l:=px) (by omega)
    have hgy:=fun A=>jfg (w0:=w0) (H:=A) (l:=py) (by omega)
    obtain⟨e1,he1⟩: ∃ e1:Int,(if (jo px).isSome=true then(0:Int) else 250)=e1:=⟨_,rfl⟩
    obtain⟨e2,he2⟩: ∃ e2:Int,(if (jo py).isSome=true then(0:Int) else 250)=e2:=⟨_,rfl⟩
    simp only[he1] at hgx;simp only[he2] at hgy
    obtain⟨x,hxe⟩: ∃ x,enA px=x:=⟨_,rfl⟩
    obtain⟨y,hye⟩: ∃ y,enA py=y:=⟨_,rfl⟩
    simp only[hxe] at hgx;simp only[hye] at hgy
    obtain⟨xk,xt,⟨xc,xh,xa,xb,xv⟩,xw,xu⟩:=x
    obtain⟨yk,yt,⟨yc,yh,ya,yb,yv⟩,yw,yu⟩:=y
    unfold enV enL at hgx hgy;dsimp only at hgx hgy;clear he1 he2;refine zpp ?_;refine zeL ?_;intro b3;refine zfQ ?_;refine zW ?_;refine zx ?_;refine zax ?_;refine zZ ?_;refine zcs ?_;refine zj ?_;refine zqY ?_
    (first|(refine KL.v rfl (Val.sub rfl rfl (by simp only[qL,qH];omega)) ?_)|(refine KL.v rfl (Val.subW rfl rfl) ?_))
    refine zlH ?_;rw[hk];refine zay ?_;refine ze5 ?_;refine jp (hgx _) ?_;refine zbd ?_;intro b8;refine zay ?_;refine zbl ?_;refine ze5 ?_;refine jp (hgy _) ?_
    by_cases g1:e1=0
    ·have g1': ¬e1≠0:=fun h=>h g1
     by_cases g2:e2=0
     ·have g2': ¬e2≠0:=fun h=>h g2
      by_cases g3:xk=1
      ·have g3': ¬((xk:Nat):Int)≠1:=by omega
       by_cases g4:yk=1
       ·have g4': ¬((yk:Nat):Int)≠1:=by omega
        by_cases g5:xt=yt
        ·skip
         refine zb4 ?_;intro b10;refine zfh ?_;refine zke ?_;refine zke ?_;refine zcz ?_;refine ziw ?_;refine zbK ?_;refine zO ?_;refine za8 ?_;exact zdC
        ·have h3:(enA px).k=1:=by rw[hxe];exact g3
         have h4:(enA py).k=1:=by rw[hye];exact g4
         have h5:(enA px).t≠(enA py).t:=by rw[hxe,hye];exact g5
         refine zb4 ?_;intro b10;refine zfh ?_;refine zke ?_;refine zke ?_;refine zcz ?_;refine ziw ?_;refine zbK ?_;refine zC ?_;refine zaX ?_;refine zb3 ?_;rintro _ _ ⟨ba,A0,za,rfl,rfl⟩;refine zcC ?_;refine zb3 ?_;rintro _ _ ⟨bb,B0,zb,rfl,rfl⟩;refine zhg ?_;refine zx ?_;refine zfj ?_;refine zU ?_;refine K.cutE (σ:=MwS) [(3,_),(12,_),(14,_)] jc (fun s kp_=>kp_) (fun s=>mcH s.A++(mcH s.B++((b3,cells [vc, .int .i64 c.page,vt, .int .i64 c.workers, .int .i64 c.grey, .int .i64 c.gens] 25)::F))) (fun s=>McZ ba c s.m s.n s.A∧McZ bb c s.mb s.nb s.B∧s.m.l.length≤80∧s.mb.l.length≤80∧SaI s.m s.mb) ?_ ?_
         ·refine K.block ?_;refine K.loopT (σ:=MwS) [(1,_),(3,_),(7,_),(12,_),(14,_)] (fun s kp_=>(16, .int .i64 (s.i:Nat))::kp_) (fun s=>mcH s.A++(mcH s.B++((b3,cells [vc, .int .i64 c.page,vt, .int .i64 c.workers, .int .i64 c.grey, .int .i64 c.gens] 25)::F))) (fun s=>s.i≤l.length∧McZ ba c s.m s.n s.A∧McZ bb c s.mb s.nb s.B∧s.n≤1+s.i*2∧s.nb≤1+s.i*2∧s.m.l.length≤s.i∧s.mb.l.length≤s.i∧(s.i≠k+1→SaI s.m s.mb)∧(s.i=k+1→ ∃ a0 b0,SaI a0 b0∧s.m=(mcDo c a0 px).2∧s.mb=(mcDo c b0 py).2)) (fun s=>l.length-s.i) (⟨0,newMc c,newMc c,1,A0,1,B0⟩) jc ja (⟨Nat.zero_le _,za,zb,by show 1≤1+0*2;omega,by show 1≤1+0*2;omega,Nat.le_refl _,Nat.le_refl _,fun _=>SaI.refl,fun e=>by have:0=k+1:=e;omega⟩) ?_;clear za zb;rintro⟨i,m,mb,n,A,nb,B⟩ ⟨hi,za,zb,hn,hnb,hlen,hlenb,hr1,hr2⟩;dsimp only at hi za zb hn hnb hlen hlenb hr1 hr2⊢
          by_cases hlt:i<l.length
          ·have hlt':((i:Nat):Int)<((l.length:Nat):Int):=by omega
           obtain⟨x,hx⟩:=jh hlt
           have hx':l[((i:Nat):Int).toNat]?=some x:=hx
           have hxl:=hl255 x (List.mem_of_getElem? hx)
           have hm2:=jbi (c:=c) (m:=m) (b:=x)
           have hda:=fun A=>ja8 (F:=A) hG za (by omega) (p:=x) (by omega) (by omega)
           by_cases hik:i=k
           ·have hik':((i:Nat):Int)=((k:Nat):Int):=by omega
            have hik1: ¬((i:Nat):Int)=((k:Nat):Int)+1:=by omega
            have hxp:x=px:=by subst hik;rw [hpx] at hx;exact(Option.some.inj hx).symm
            have hs0:=hr1 (by omega)
            clear hr1 hr2
            have hdb:=fun A=>ja8 (F:=A) hG zb (by omega) (p:=py) (by omega) (by omega)
            have hmb2:=jbi (c:=c) (m:=mb) (b:=py)
            refine zex ?_;refine zlq ?_;rintro _ _ ⟨rfl,A2,za2,rfl⟩;refine zcg ?_;refine zeD ?_;refine zO ?_;refine zak ?_;refine zeo ?_;refine zeD ?_;refine zbl ?_;refine zC ?_;refine zdn ?_;refine zp2 ?_;rintro _ _ ⟨rfl,B2,zb2,rfl⟩;refine ziv ?_;exact KE.again ⟨i+1,_,_,n+2,A2,nb+2,B2⟩ jc ja ⟨hlt,za2,zb2,by show n+2≤1+(i+1)*2;omega,by show nb+2≤1+(i+1)*2;omega,by show(mcDo c m x).2.l.length≤i+1;omega,by show(mcDo c mb py).2.l.length≤i+1;omega,fun e=>absurd (show i+1=k+1 by omega) e,fun _=>⟨m,mb,hs0,by rw[hxp],rfl⟩⟩ (by show l.length-(i+1)<l.length-i;omega)
           ·have hik': ¬((i:Nat):Int)=((k:Nat):Int):=by omega
            by_cases hik1:i=k+1
            ·have hik1':((i:Nat):Int)=((k:Nat):Int)+1:=by omega
             have hxp:x=py:=by subst hik1;rw [hpy] at hx;exact(Option.some.inj hx).symm
             obtain⟨a0,b0,hs0,hm0,hmb0⟩:=hr2 hik1
             clear hr1 hr2
             have hs2:=hs0.swap (c:=c) h3 h4 h5
             rw[←hm0,←hmb0,←hxp] at hs2;clear hm0 hmb0
             have hdb:=fun A=>ja8 (F:=A) hG zb (by omega) (p:=px) (by omega) (by omega)
             have hmb2:=jbi (c:=c) (m:=mb) (b:=px)
             refine zex ?_;refine zlq ?_;rintro _ _ ⟨rfl,A2,za2,rfl⟩;refine zcg ?_;refine zeD ?_;refine zC ?_;refine za6 ?_;refine zB ?_;refine zbl ?_;refine zO ?_;refine zak ?_;refine zj ?_;refine zfi ?_;refine zp2 ?_;rintro _ _ ⟨rfl,B2,zb2,rfl⟩;refine ziv ?_;exact KE.again ⟨i+1,_,_,n+2,A2,nb+2,B2⟩ jc ja ⟨hlt,za2,zb2,by show n+2≤1+(i+1)*2;omega,by show nb+2≤1+(i+1)*2;omega,by show(mcDo c m x).2.l.length≤i+1;omega,by show(mcDo c mb px).2.l.length≤i+1;omega,fun _=>hs2,fun e=>absurd (show i+1=k+1 from e) (by omega)⟩ (by show l.length-(i+1)<l.length-i;omega)
            ·have hik1': ¬((i:Nat):Int)=((k:Nat):Int)+1:=by omega
             have hs0:=hr1 hik1
             clear hr1 hr2
             have hs2:=hs0.same (c:=c) (u:=x)
             have hdb:=fun A=>ja8 (F:=A) hG zb (by omega) (p:=x) (by omega) (by omega)
             have hmb2:=jbi (c:=c) (m:=mb) (b:=x)
             refine zex ?_;refine zlq ?_;rintro _ _ ⟨rfl,A2,za2,rfl⟩;refine zcg ?_;refine zeD ?_;refine zC ?_;refine za6 ?_;refine zB ?_;refine zbl ?_;refine zC ?_;refine zdn ?_;refine zp2 ?_;rintro _ _ ⟨rfl,B2,zb2,rfl⟩;refine ziv ?_;exact KE.again ⟨i+1,_,_,n+2,A2,nb+2,B2⟩ jc ja ⟨hlt,za2,zb2,by show n+2≤1+(i+1)*2;omega,by show nb+2≤1+(i+1)*2;omega,by show(mcDo c m x).2.l.length≤i+1;omega,by show(mcDo c mb x).2.l.length≤i+1;omega,fun _=>hs2,fun e=>absurd (show i+1=k+1 from e) (by omega)⟩ (by show l.length-(i+1)<l.length-i;omega)
          ·have hlt': ¬((i:Nat):Int)<((l.length:Nat):Int):=by omega
           refine zcR ?_;exact KE.meet ⟨0,m,mb,n,A,nb,B⟩ jc ja ⟨za,zb,by show m.l.length≤_;omega,by show mb.l.length≤_;omega,hr1 (by omega)⟩
         ·clear za zb;rintro⟨_,m,mb,n,A,nb,B⟩ ⟨za,zb,hlen,hlenb,hSa⟩;dsimp only at za zb hlen hlenb hSa⊢
          have hTa:=fun A t=>jc8 (w0:=w0) (F:=A) (t:=t) za (by omega)
          have hTb:=fun A t=>jc8 (w0:=w0) (F:=A) (t:=t) zb (by omega)
          have hFa:=fun A=>jd5 (w0:=w0) (F:=A) za
          have hMa:=fun A=>jeb (w0:=w0) (F:=A) za
          have hXa:=fun A=>jec (w0:=w0) (F:=A) za
          have hFb:=fun A=>jd5 (w0:=w0) (F:=A) zb
          have hMb:=fun A=>jeb (w0:=w0) (F:=A) zb
          have hXb:=fun A=>jec (w0:=w0) (F:=A) zb
          have hxl:=jga za
          have hxe:allX mb=allX m:=by unfold allX;rw [hSa.hs]
          rw[hxe] at hXb
          have hofl: ∀ t,(ofW m.l t).length≤80:=fun t=>by
           have:=jbV (l:=m.l) (t:=t) (k:=m.l.length)
           rw[List.take_length] at this
           omega
          refine zdo ?_;refine zh8 ?_;refine K.loopT (σ:=Nat) [(3,_),(12,_),(14,_)] (fun s kp_=>(18, .int .i64 (s:Nat))::kp_) (fun s=>mcH A++(mcH B++((b3,cells [vc, .int .i64 c.page,vt, .int .i64 c.workers, .int .i64 c.grey, .int .i64 c.gens] 25)::F))) (fun s=>s≤c.tn.length) (fun s=>c.tn.length-s) (0) jc ja (Nat.zero_le _) ?_;rintro q hq
          by_cases hq1:q<c.tn.length
          ·have hq1':((q:Nat):Int)<((c.tn.length:Nat):Int):=by omega
           have hSl:=hofl ((q:Nat):Int)
           have hT1:=fun A=>hTa A ((q:Nat):Int)
           have hT2:=fun A=>hTb A ((q:Nat):Int)
           rw[←hSa.l ((q:Nat):Int) (by omega)] at hT2
           obtain⟨S,hS9⟩: ∃ S,ofW m.l ((q:Nat):Int)=S:=⟨_,rfl⟩
           rw[hS9] at hSl;simp only[hS9] at hT1 hT2;clear hS9;refine zff ?_;refine zld ?_;refine zu fun T hT=>?_;refine zpn ?_;rintro _ _ ⟨oa,koa,rfl,rfl⟩;refine ze ?_;clear hT T;refine za9 fun T hT=>?_;refine(CallV.part (CallV.fn (hT2 _)) ja).mono ?_;rintro _ _ ⟨ob,kob,rfl,rfl⟩;refine ze ?_;clear hT T;refine zp ?_;refine zrc ?_;refine zy ?_;refine zdD ?_;exact KE.again (q+1) jc ja (by show q+1≤_;omega) (by show c.tn.length-(q+1)<c.tn.length-q;omega)
          ·have hq1': ¬((q:Nat):Int)<((c.tn.length:Nat):Int):=by omega
           refine zkk ?_;refine zV ?_;refine zn ?_;refine jn (hFa _) ja ?_;refine zp ?_;refine jn (hMa _) ja ?_;refine zp ?_;refine jB (hXa _) ja ?_;rintro _ _ ⟨oa,koa,rfl,rfl⟩;refine zn ?_;refine jn (hFb _) ja ?_;refine zp ?_;refine jn (hMb _) ja ?_;refine zp ?_;refine jB (hXb _) ja ?_;rintro _ _ ⟨od,kod,rfl,rfl⟩;refine zu fun T hT=>?_;refine zri ?_;rintro _ _ ⟨rfl,rfl⟩;rw[decide_eq_true rfl];refine ze ?_;clear hT T;refine zQ ?_;exact zkq
       ·have g4':((yk:Nat):Int)≠1:=by omega
        refine zb4 ?_;intro b10;refine zfh ?_;refine zke ?_;refine zke ?_;refine zM ?_;refine zx ?_;refine zcD ?_;exact zd3
      ·have g3':((xk:Nat):Int)≠1:=by omega
       refine zb4 ?_;intro b10;refine zfh ?_;refine zke ?_;refine zM ?_;refine zx ?_;refine zhc ?_;refine zcD ?_;exact zd3
     ·have g2':e2≠0:=g2
      refine zb4 ?_;intro b10;refine zfh ?_;refine zM ?_;refine zx ?_;refine zhc ?_;refine zhc ?_;refine zcD ?_;exact zd3
    ·have g1':e1≠0:=g1
     refine zb4 ?_;intro b10;refine zM ?_;refine zcH ?_;refine zhc ?_;refine zhc ?_;refine zcD ?_;exact zd3
end
end Go.Proofs.YtebiafomiemgbaaGreatDoor.Sw
