/-What the law needs of its own,part 2. -/
import Derived.Test.YtebiafomiemgbaaGreatDoorWMtU1x1
set_option linter.unusedVariables false set_option linter.unusedSimpArgs false set_option linter.unusedVariables false
set_option linter.unusedSimpArgs false
namespace Go.Proofs.YtebiafomiemgbaaGreatDoor.Sw
set_option maxHeartbeats 8000000
open Go.Proofs.YtebiafomiemgbaaGreatDoor renaming lo → qL, hi → qH
open Go.RowKit
set_option maxRecDepth 10000
structure MtE where
 b:Nat
 g:FmM
section
variable {w0 : World} {F : jb} {b nf : Nat} {c : Cfg} {m : McP} {M : McM} {x : EnP}
theorem jdA (hG:ji w0) (z:McZ b c m nf M) (hf:nf≤900000) (hx:EnOk x):Call Tryz.prog w0 66 [.pointer (some ⟨b,0,none⟩),enV x] (mcH M++F)
  (fun r H'=>r= .tuple [.agg (wtL (mcDoes c m.hs x).1.1).toArray, .bool (mcDoes c m.hs x).1.2].toArray∧ ∃ f',f'.b=M.f.b∧FmZ M.f.b c (mcDoes c m.hs x).2 (nf+2) f'∧H'=mcH {M with f:=f'}++F):=by
 have hzf:=z.f
 have hzb:=z.b
 have hst:=fun A (p:PkP) (hu:p.u<256)=>zStep (w0:=w0) (F:=A) (p:=p) hG z.f hf hu rfl rfl
 have hdo:=fun A=>zDo (w0:=w0) (F:=A) (i:=x.t) (op:=x.o) hG z.f hf ⟨hx.c,hx.h,hx.v⟩ rfl rfl
 have hwr:=fun A=>jcU (w0:=w0) (H:=A) (e:=250)
 unfold wrongW told wtL at hwr;dsimp only at hwr
 obtain⟨hb,hl,ho⟩:M.b=b∧M.l=m.l∧oOk wtE M.l M.o:=⟨z.b,z.l,z.o⟩
 subst hb
 have hu8:=hx.u
 unfold enV enL
 by_cases h2:x.k=2
 ·rw[je7 h2]
  have h2':((x.k:Nat):Int)=2:=by omega
  have hs:=fun A=>hst A ⟨x.w,((x.u/8:Nat):Int),x.u%8⟩ (by grind)
  simp only[pkV] at hs
  obtain⟨xk,xt,⟨oc,oh,oa,ob,ov⟩,xw,xu⟩:=x
  dsimp only at h2 h2' hs hu8⊢
  have e1:((xu:Nat):Int)/8=((xu/8:Nat):Int):=by omega
  have e2:((xu:Nat):Int)%8=((xu%8:Nat):Int):=by omega
  rw[←e1,←e2] at hs;refine zla ?_;refine zf5 ?_;intro b3 b4;refine zlo ?_;refine zJ ?_;refine zm5 ?_;refine zfb ?_;refine zhV ?_;refine zaC ?_;refine zgo ?_;refine zeO ?_;refine zm6 ?_;refine zm7 ?_;refine zeO ?_;refine zm8 ?_;refine zbT ?_;refine zk fun T hT=>?_;refine zm9 ?_;rintro _ _ ⟨rfl,f',zf',rfl⟩;refine zi ?_;clear hT T;refine zdj ?_;refine zgm ?_;exact zna
 ·by_cases h1:x.k=1
  ·have h1':((x.k:Nat):Int)=1:=by omega
   have h2': ¬((x.k:Nat):Int)=2:=by omega
   by_cases h0:(faDo c m.hs x.t x.o).1.2=0
   ·rw[jc9 h1 h0];rw[h0] at hdo
    obtain⟨⟨⟨e,hh,w,addr,us,si,cy,ac⟩,er⟩,hs9,hv⟩: ∃ (q:SnP × Int) (h9:List HpP),faDo c m.hs x.t x.o=(q,h9):=⟨_,_,rfl⟩
    rw[hv] at h0;simp only[hv] at hdo⊢
    obtain⟨xk,xt,⟨oc,oh,oa,ob,ov⟩,xw,xu⟩:=x
    unfold opV snV at hdo;dsimp only at h1' h2' hdo⊢;unfold wtL;refine zgw ?_;simp only[mcH_app];subst h0;refine zfa ?_;intro b3 b4;refine ze6 ?_;refine K.cutT (σ:=MtE) [(3,_),(4,_)] jc (fun s kp_=>(6, .pointer (some ⟨s.b,0,none⟩))::(7, .int .i64 0)::kp_) (fun s=>(s.b,cells [.int .i64 e, .int .u64 (hh:Nat), .int .u64 w, .int .i64 addr, .int .i64 us, .int .i64 si, .int .i64 cy, .bool ac] 43)::((b4,cells [.int .i64 0, .int .i64 0, .int .u64 0, .int .u64 0, .int .i64 0, .int .i64 0, .int .i64 0, .int .i64 0, .bool false] 80)::((b3,cells [.int .u8 (xk:Nat), .int .i64 xt, .int .u8 (oc:Nat), .int .u64 (oh:Nat), .int .i64 oa, .int .i64 ob, .int .u64 (ov:Nat), .int .i64 xw, .int .u8 (xu:Nat)] 91)::((M.b,cells [.pointer (some ⟨M.f.b,0,none⟩),oV M.o M.l.length] 101)::(oH wtE 80 M.l M.o++(fmH s.g++F)))))) (fun s=>FmZ M.f.b c hs9 (nf+2) s.g) ?_ ?_
    ·skip
     refine zge ?_;refine KD.fork2 (x:=8) (y:=12) (o1:=[(9,1),(10,1),(11,1),(12,2),(13,2),(14,0)]) (o2:=[(8,2),(9,0),(10,0),(11,1),(13,2),(14,0)]) (by kernel_rfl) rfl rfl (by kernel_rfl) (by kernel_rfl) ?_ ?_
     ·refine zT fun T hT=>?_;refine zbv ?_;rintro _ _ ⟨rfl,f1,zf1,rfl⟩;refine zi ?_;clear hT T;refine znx ?_;intro b6;exact zs2
     ·(refine jP.e rfl (Eff.alloc rfl) ?_;rintro _ _ ⟨b6,rfl,rfl⟩;refine⟨ja,?_⟩)
      refine zk fun T hT=>?_;refine zbv ?_;rintro _ _ ⟨rfl,f1,zf1,rfl⟩;refine zi ?_;clear hT T;exact zf9
    ·rintro⟨b6,f1⟩ zf1;dsimp only at zf1⊢;refine zaH ?_;refine zeF ?_;refine zae ?_;refine zau ?_;refine zgm ?_;exact zfO
   ·rw[jbQ (by omega) fun _=>h0]
    have hno:(faDo c m.hs x.t x.o).1.2=2∧(faDo c m.hs x.t x.o).2=m.hs:=by
     rcases fa_cases m.hs x.t with⟨j,h,e,g⟩|g
     ·rw[e,JO g] at h0;grind
     grind[jao]
    rw[hno.1,hno.2] at hdo
    obtain⟨⟨⟨e,hh,w,addr,us,si,cy,ac⟩,er⟩,hs9,hv⟩: ∃ (q:SnP × Int) (h9:List HpP),faDo c m.hs x.t x.o=(q,h9):=⟨_,_,rfl⟩
    simp only[hv] at hdo⊢
    obtain⟨xk,xt,⟨oc,oh,oa,ob,ov⟩,xw,xu⟩:=x
    unfold opV snV at hdo;dsimp only at h1' h2' hdo⊢;unfold wtL wrongW told;refine zgw ?_;refine zf5 ?_;intro b3 b4;refine ze6 ?_;refine K.cutT (σ:=MtE) [(3,_),(4,_)] jc (fun s kp_=>(6, .pointer (some ⟨s.b,0,none⟩))::(7, .int .i64 2)::kp_) (fun s=>(s.b,cells [.int .i64 e, .int .u64 (hh:Nat), .int .u64 w, .int .i64 addr, .int .i64 us, .int .i64 si, .int .i64 cy, .bool ac] 43)::((b4,cells [.int .i64 0, .int .i64 0, .int .u64 0, .int .u64 0, .int .i64 0, .int .i64 0, .int .i64 0, .int .i64 0, .bool false] 80)::((b3,cells [.int .u8 (xk:Nat), .int .i64 xt, .int .u8 (oc:Nat), .int .u64 (oh:Nat), .int .i64 oa, .int .i64 ob, .int .u64 (ov:Nat), .int .i64 xw, .int .u8 (xu:Nat)] 91)::((M.b,cells [.pointer (some ⟨M.f.b,0,none⟩),oV M.o M.l.length] 101)::(oH wtE 80 M.l M.o++(fmH s.g++F)))))) (fun s=>FmZ M.f.b c m.hs (nf+2) s.g) ?_ ?_
    ·skip
     refine zge ?_;refine KD.fork2 (x:=8) (y:=12) (o1:=[(9,1),(10,1),(11,1),(12,2),(13,2),(14,0)]) (o2:=[(8,2),(9,0),(10,0),(11,1),(13,2),(14,0)]) (by kernel_rfl) rfl rfl (by kernel_rfl) (by kernel_rfl) ?_ ?_
     ·refine zT fun T hT=>?_;refine zbv ?_;rintro _ _ ⟨rfl,f1,zf1,rfl⟩;refine zi ?_;clear hT T;refine znx ?_;intro b6;exact zs2
     ·(refine jP.e rfl (Eff.alloc rfl) ?_;rintro _ _ ⟨b6,rfl,rfl⟩;refine⟨ja,?_⟩)
      refine zk fun T hT=>?_;refine zbv ?_;rintro _ _ ⟨rfl,f1,zf1,rfl⟩;refine zi ?_;clear hT T;exact zf9
    ·rintro⟨b6,f1⟩ zf1;dsimp only at zf1⊢;refine zaH ?_;refine zC ?_;refine zh6 ?_;refine zV ?_;refine zgi ?_;exact zfO
  ·have h1': ¬((x.k:Nat):Int)=1:=by omega
   have h2': ¬((x.k:Nat):Int)=2:=by omega
   rw[jbQ h2 fun e=>absurd e h1];unfold wtL wrongW told;dsimp only;refine znb ?_;refine zfa ?_;intro b3 b4;refine zgl ?_;refine zbA ?_;refine zgi ?_;exact znc
theorem ja8 {p:List UInt8} (hG:ji w0) (z:McZ b c m nf M) (hf:nf≤900000) (hp:p.length≤4294967296) (hll:m.l.length≤100000):Call Tryz.prog w0 36 [.pointer (some ⟨b,0,none⟩), .string (strB p)] (mcH M++F)
  (fun r H'=>r= .tuple [.agg (wtL (mcDo c m p).1.1).toArray, .bool (mcDo c m p).1.2].toArray∧ ∃ M',McZ b c (mcDo c m p).2 (nf+2) M'∧H'=mcH M'++F):=by
 have hno:=fun A=>mnone0_K (w0:=w0) (M:=M) (F:=A)
 have hg:=fun A=>jdG (w0:=w0) (H:=A) hp
 have hx:=jel p
 have hd:=fun A=>jdA (F:=A) hG z hf hx
 obtain⟨hb,hl,ho⟩:M.b=b∧M.l=m.l∧oOk wtE M.l M.o:=⟨z.b,z.l,z.o⟩
 subst hb
 have hl2:M.l.length+1≤4294967296:=by grind
 have hfb:=z.f
 unfold mcDo
 obtain⟨x,hxe⟩: ∃ x,enA p=x:=⟨_,rfl⟩
 rw[hxe] at hx;simp only[hxe] at hg hd⊢;clear hxe
 obtain⟨⟨⟨⟨wt,⟨e,hh,w,addr,us,si,cy,ac⟩⟩,is⟩,hs9⟩,hv⟩: ∃ q,mcDoes c m.hs x=q:=⟨_,rfl⟩
 simp only[hv] at hd⊢;clear hv
 obtain⟨xk,xt,⟨oc,oh,oa,ob,ov⟩,xw,xu⟩:=x
 unfold enV enL at hg hd;unfold wtL at hd⊢;dsimp only at hg hd⊢
 cases is with
 |true=>
  refine zgJ ?_;intro b4 b6;rintro _ _ ⟨rfl,f',hfe,zf',rfl⟩;refine zlr ?_;intro b8;refine K.cutT (σ:=Own) [(4,_),(8,_),(9,_)] jc (fun s kp_=>kp_) (fun s=>mcH ⟨M.b,f',M.l++ [⟨wt,⟨e,hh,w,addr,us,si,cy,ac⟩⟩],s⟩++((b8,cells [.int .i64 wt, .int .i64 e, .int .u64 (hh:Nat), .int .u64 w, .int .i64 addr, .int .i64 us, .int .i64 si, .int .i64 cy, .bool ac] 80)::((b4,cells [.int .i64 0, .int .i64 0, .int .u64 0, .int .u64 0, .int .i64 0, .int .i64 0, .int .i64 0, .int .i64 0, .bool false] 80)::F))) (fun s=>oOk wtE (M.l++ [⟨wt,⟨e,hh,w,addr,us,si,cy,ac⟩⟩]) s) ?_ ?_
  ·refine zfg ?_;refine zj ?_;refine zaR ?_;rw[mcH_app];dsimp only;refine zJ ?_;refine znd ?_;refine zhn ?_;refine zgt ?_;refine zne ?_;refine znf ?_;intro b31;refine zcp ?_;refine KD.e rfl rfl (Eff.appZ (E:=wtE) (xs:=M.l) (o:=M.o) (ys:=[⟨wt,⟨e,hh,w,addr,us,si,cy,ac⟩⟩]) (zs:=M.l++ [⟨wt,⟨e,hh,w,addr,us,si,cy,ac⟩⟩]) rfl rfl rfl rfl rfl rfl jj (by omega) (by first|exact Sli.blk ju rfl (by grind) (by first|decide|(unfold maxLen;omega)) rfl|exact Sli.old (by assumption)|exact Sli.own jj (by assumption) jF|assumption|exact Sli.part (by assumption) ja) (rfl) (by grind) rfl) ?_;rintro _ _ ⟨oz,okz,rfl,rfl⟩;refine⟨ja,?_⟩;refine zbm ?_;refine zkN ?_;refine zbf ?_;refine zam ?_;exact zng
  ·rintro oz okz;refine zG ?_;refine zau ?_;refine zgu ?_;exact znh
 |false=>
  refine zgJ ?_;intro b4 b6;rintro _ _ ⟨rfl,f',hfe,zf',rfl⟩;refine zb4 ?_;intro b8;refine zig ?_;refine zgu ?_;exact zni
end
set_option maxRecDepth 100000
def o8:List UInt8:=[0,0,0,0,0,0,0,1]
def mxA:List UInt8:=[1,0,1]++e8++o8++e8
def mxC:List UInt8:=[1,2,1]++e8++o8++e8
def mx0:McP:=newMc fxC
def mx1:McP:=(mcDo fxC mx0 mxA).2
def mx2:McP:=(mcDo fxC mx1 [2,0,1]).2
def mx3:McP:=(mcDo fxC mx2 mxC).2
def mx4:McP:=(mcDo fxC mx3 [3]).2
def mx5:McP:=(mcDo fxC mx4 []).2
theorem mx_a:(mcDo fxC mx0 mxA).1=(⟨0,⟨0,1,0,0,2,2,0,false⟩⟩,true):=by rfl
theorem mx_b:(mcDo fxC mx1 [2,0,1]).1=(⟨0,told 0⟩,false):=by rfl
theorem mx_c:(mcDo fxC mx2 mxC).1=(wrongW 250,true):=by rfl
theorem mx_d:(mcDo fxC mx3 [3]).1=(wrongW 250,true):=by rfl
theorem mx_e:(mcDo fxC mx4 []).1=(wrongW 250,true):=by rfl
theorem mx_l:mx5.l.length=4:=by rfl
section
variable {w0 : World} {F : jb} {b nf : Nat} {c : Cfg} {m m' : McP} {M : McM} {p : List UInt8}
theorem JF {wt:Int} {s:SnP} {is:Bool} (hG:ji w0) (z:McZ b c m nf M) (hf:nf≤900000) (hp:p.length≤4294967296) (hll:m.l.length≤100000) (h1:(mcDo c m p).1=(⟨wt,s⟩,is)) (h2:(mcDo c m p).2=m'):Call Tryz.prog w0 36 [.pointer (some ⟨b,0,none⟩), .string (strB p)] (mcH M++F)
  (fun r H'=>r= .tuple [.agg (wtL ⟨wt,s⟩).toArray, .bool is].toArray∧ ∃ M',McZ b c m' (nf+2) M'∧H'=mcH M'++F):=by
 subst h2
 have:=ja8 (F:=F) hG z hf hp hll
 rw[h1] at this;exact this
theorem fxMc (hG:ji w0) (b1 b2:Nat):Call Tryz.prog w0 35 [jr fxC (.slice (some ⟨b1,0,none⟩) 2 2) (.slice (some ⟨b2,0,none⟩) 2 2)] ((b2,cells (jx tnE fxC.tn) 55)::(b1,cells [.int .i64 2, .int .i64 4] 3)::F) (fun r H'=> ∃ b M,McZ b fxC mx0 1 M∧r= .tuple [.pointer (some ⟨b,0,none⟩), .int .i64 0].toArray∧H'=mcH M++((b2,cells (jx tnE fxC.tn) 55)::(b1,cells [.int .i64 2, .int .i64 4] 3)::F)):=by
 have hC:Sli w0 [(b1,cells [.int .i64 2, .int .i64 4] 3)] iE (.slice (some ⟨b1,0,none⟩) 2 2) fxC.cl:=Sli.blk jI.head rfl (by decide) (by decide) rfl
 have hT:Sli w0 [(b2,cells (jx tnE fxC.tn) 55)] tnE (.slice (some ⟨b2,0,none⟩) 2 2) fxC.tn:=Sli.blk jI.head rfl (by decide) (by decide) rfl
 exact znj
set_option maxHeartbeats 4000000 in
theorem jdr (hG:ji w0):Call Tryz.prog w0 34 [] F (fun r H'=>r= .bool true∧H'=F):=by
 have hn:=fun A b1 b2=>fxMc (w0:=w0) (F:=A) hG b1 b2
 unfold jr jG at hn;refine znk ?_;refine zeT ?_;intro b16 b19;rintro _ _ ⟨b,M0,z0,rfl,rfl⟩
 have d1:=fun A=>JF (F:=A) hG z0 (by decide) (by decide) (by decide) mx_a (m':=mx1) rfl
 unfold wtL at d1;dsimp only at d1;refine zeR ?_;refine zaX ?_;refine znN ?_;rintro _ _ ⟨rfl,M1,z1,rfl⟩
 have d2:=fun A=>JF (F:=A) hG z1 (by decide) (by decide) (by show _≤100000;rw [show mx1.l.length=1 by kernel_rfl];decide) mx_b (m':=mx2) rfl
 unfold wtL told at d2;dsimp only at d2;refine znT ?_;intro b4;rintro _ _ ⟨rfl,M2,z2,rfl⟩
 have d3:=fun A=>JF (F:=A) hG z2 (by decide) (by decide) (by show _≤100000;rw [show mx2.l.length=1 by kernel_rfl];decide) mx_c (m':=mx3) rfl
 unfold wtL told at d3;dsimp only at d3;refine zbd ?_;intro b6;refine znO ?_;rintro _ _ ⟨rfl,M3,z3,rfl⟩
 have d4:=fun A=>JF (F:=A) hG z3 (by decide) (by decide) (by show _≤100000;rw [show mx3.l.length=2 by kernel_rfl];decide) mx_d (m':=mx4) rfl
 unfold wtL told at d4;dsimp only at d4;refine znU ?_;intro b8;rintro _ _ ⟨rfl,M4,z4,rfl⟩
 have d5:=fun A=>JF (F:=A) hG z4 (by decide) (by decide) (by show _≤100000;rw [show mx4.l.length=3 by kernel_rfl];decide) mx_e (m':=mx5) rfl
 unfold wtL told at d5;dsimp only at d5;refine znV ?_;intro b10;rintro _ _ ⟨rfl,M5,z5,rfl⟩
 have hL:=fun A=>jcW (w0:=w0) (F:=A) z5
 rw[mx_l] at hL;refine zhE ?_;intro b12;refine zbZ ?_;refine zbQ ?_;intro b14;refine zau ?_;refine zbZ ?_;refine zjN ?_;refine zQ ?_;refine zj ?_;refine za1 ?_;refine zcZ ?_;refine zcZ ?_;refine zcZ ?_;refine znP ?_;refine zfc ?_;exact zbO
end
open Go.RowKit
set_option maxRecDepth 10000
section
variable {w0 : World} {H : jb} {v : Value} {ls : List (List UInt8)} {t : Nat}
theorem jkk {k:Nat} {x:List UInt8} (h:ls[k]?=some x):ownL (ls.take (k+1)) t=ownL (ls.take k) t++(if ja1 t x=true then [x] else []):=by
 unfold ownL;rw[J2 h,List.filter_append]
 grind
theorem ownL_len {k:Nat}:(ownL (ls.take k) t).length≤k:=by
 grind[ownL]
theorem own_K (hS:Sli w0 H stE v ls) (hl:ls.length≤100000) (hb: ∀ x∈ls,x.length≤255):Call Tryz.prog w0 37 [v, .int .i64 (t:Nat)] H (fun r H'=> ∃ o,oOk stE (ownL ls t) o∧r=oV o (ownL ls t).length∧H'=oH stE 9 (ownL ls t) o++H):=by
 refine Call.enter2 (n:=44) (by rfl) Tryz.func37 rfl rfl rfl ?_;refine zav ?_;refine zbs ?_;refine K.loopT (σ:=MtO) [(0,_),(1,_)] (fun s kp_=>(6, .int .i64 (s.k:Nat))::(5,oV s.o (ownL (ls.take s.k) t).length)::kp_) (fun s=>oH stE 9 (ownL (ls.take s.k) t) s.o++H) (fun s=>s.k≤ls.length∧oOk stE (ownL (ls.take s.k) t) s.o) (fun s=>ls.length-s.k) (⟨0,none⟩) jc ja (⟨Nat.zero_le _,rfl⟩) ?_;rintro⟨k,o⟩ ⟨hk,ok⟩;dsimp only at hk ok⊢
 by_cases hlt:k<ls.length
 ·have hlt':((k:Nat):Int)<((ls.length:Nat):Int):=by omega
  obtain⟨x,hx⟩:=jh (l:=ls) hlt
  have hx':ls[((k:Nat):Int).toNat]?=some x:=hx
  have hsn:=jkk (t:=t) hx
  have hfl2:(ownL (ls.take k) t).length+1≤4294967296:=by grind[ownL_len]
  have hfl3:(ownL (ls.take (k+1)) t).length≤4294967296:=by grind
  have hg:=fun A=>jfg (w0:=w0) (H:=A) (l:=x) (by grind)
  unfold enV enL enA at hg
  cases hgp:jo x with
  |none=>
   have hob:ja1 t x=false:=by grind[ja1]
   rw[hgp] at hg;rw[hob,if_neg (by decide),List.append_nil] at hsn;rw[←hsn] at ok⊢;refine zex ?_;refine ze5 ?_;refine znD ?_;intro b7;refine zgT ?_;refine zbg ?_;refine zdT ?_;refine zlz ?_;refine zcj ?_;exact KE.again ⟨k+1,o⟩ jc ja ⟨by grind,ok⟩ (by grind)
  |some y=>
   rw[hgp] at hg
   obtain⟨yk,yt,yo,yw,yu⟩:=y
   simp only[Option.getD_some,Option.isSome_some,if_true] at hg
   have hob:ja1 t x=(decide (yk=1)&&decide (yt=((t:Nat):Int))):=by grind[ja1]
   by_cases h1:yk=1
   ·have h1':((yk:Nat):Int)=1:=by omega
    by_cases h2:yt=((t:Nat):Int)
    ·rw[decide_eq_true h1,decide_eq_true h2] at hob;rw[hob,Bool.and_self,if_pos rfl] at hsn;refine zex ?_;refine ze5 ?_;refine znD ?_;intro b7;refine zO ?_;refine zaV ?_;refine zO ?_;refine zgc ?_;refine zQ ?_;refine zO ?_;refine zA ?_;refine zaR ?_;refine zcB ?_;refine zj ?_;refine zrq ?_;refine zar ?_;intro b41;refine KL.e rfl (Eff.appZ (E:=stE) (xs:=ownL (ls.take k) t) (o:=o) (ys:=[x]) (zs:=ownL (ls.take (k+1)) t) rfl rfl rfl rfl rfl rfl jj (by assumption) (by first|exact Sli.blk ju rfl (by first|decide|simp) (by first|decide|(unfold maxLen;omega)) rfl|exact Sli.old (by assumption)|exact Sli.own jj (by assumption) jF|assumption|exact Sli.part (by assumption) ja) (hsn.symm) (by first|assumption|omega|(simp<;>fail)|(simp;omega)) rfl) ?_;rintro _ _ ⟨o',ok',rfl,rfl⟩;refine zf6 ?_;exact KE.again ⟨k+1,o'⟩ jc ja ⟨by show k+1≤_;omega,ok'⟩ (by show ls.length-(k+1)<ls.length-k;omega)
    ·rw[decide_eq_false h2,Bool.and_false] at hob;rw[hob,if_neg (by decide),List.append_nil] at hsn;rw[←hsn] at ok⊢;refine zex ?_;refine ze5 ?_;refine znD ?_;intro b7;refine zO ?_;refine zaV ?_;refine zO ?_;refine zgc ?_;refine zQ ?_;refine zpR ?_;refine zdD ?_;exact zs4
   ·have h1': ¬((yk:Nat):Int)=1:=by omega
    rw[decide_eq_false h1,Bool.false_and] at hob;rw[hob,if_neg (by decide),List.append_nil] at hsn;rw[←hsn] at ok⊢;refine zex ?_;refine ze5 ?_;refine znD ?_;intro b7;refine zO ?_;refine zaV ?_;refine zpR ?_;refine zdT ?_;refine zx ?_;refine zdD ?_;exact zs4
 ·have hlt': ¬((k:Nat):Int)<((ls.length:Nat):Int):=by omega
  obtain rfl:ls.length=k:=by omega
  rw[List.take_length] at ok⊢;refine zcR ?_;refine zib ?_;exact zg0
end
set_option maxRecDepth 10000
theorem jcT {l:List (List UInt8)} (h:longP l=false):l.length≤80∧ ∀ x∈l,x.length≤255:=by
 grind[longP]
section
variable {c : Cfg} {m : McP} {b : List UInt8} {t : Nat} {p : List (List UInt8)}
theorem jbi:(mcDo c m b).2.l.length≤m.l.length+1:=by
 show(if (mcDoes c m.hs (enA b)).1.2=true then m.l++ [(mcDoes c m.hs (enA b)).1.1] else m.l).length≤_
 grind
theorem ownL_mem {l:List (List UInt8)} {x:List UInt8} (h:x∈ownL l t):x∈l∧ja1 t x=true:=by
 grind[ownL]
theorem jgW {x:List UInt8}:ownL [x] t=if ja1 t x=true then [x] else []:=by
 grind[ownL,ja1]
theorem one_sub {α:Type} {l:List α} {i:Nat} {x:α} (h:l[i]?=some x):(l.take (i+1)).drop i=[x]:=by
 grind[J2,jv]
end
open Go.RowKit
set_option maxRecDepth 10000
structure MaS where
 i:Nat
 n:Nat
 m:McP
 M:McM
section
variable {w0 : World} {F : jb} {c : Cfg} {vc vt v u : Value} {l lm : List (List UInt8)}
set_option maxHeartbeats 8000000 in
theorem machineApart_K (hG:ji w0) (hR:Jc w0 F c vc vt) (hl:Sli w0 F stE v l) (hlm:Sli w0 F stE u lm):Call Tryz.prog w0 10 [jr c vc vt,v,u] F (fun r H'=>r= .bool true∧H'=F):=by
 have haw:=fun A=>jdr (w0:=w0) (F:=A) hG
 have hsm:=fun A (hp:Part A F)=>jcI (hR.part hp)
 have hn1:=fun A (hp:Part A F) (hok:jz c=true)=>mcNew_K hG (hR.part hp) hok
 have hlo:=fun A (hp:Part A F)=>jcX (w0:=w0) (H:=A) (hl.part hp)
 have hlo2:=fun A (hp:Part A F)=>jcX (w0:=w0) (H:=A) (hlm.part hp)
 obtain⟨hS,hT',o1,o2,l1,l2⟩:=hR
 obtain⟨ok,hok⟩: ∃ ok,okF c=ok:=⟨_,rfl⟩
 simp only[hok] at hsm;simp only[jr,jG] at hsm hn1⊢
 obtain⟨b1,hb1⟩: ∃ b1,longP l=b1:=⟨_,rfl⟩
 simp only[hb1] at hlo
 obtain⟨b2,hb2⟩: ∃ b2,longP lm=b2:=⟨_,rfl⟩
 simp only[hb2] at hlo2
 cases ok with
 |false=>
  refine zpl ?_;refine zeu ?_;intro b3;refine zag ?_;refine zcH ?_;refine zcN ?_;exact zd3
 |true=>
  cases b1 with
  |true=>
   refine zpl ?_;refine zeL ?_;intro b3;refine zcN ?_;exact zd3
  |false=>
   cases b2 with
   |true=>
    refine zpl ?_;refine zeL ?_;intro b3;refine zev ?_;refine jp (hlo2 _ ja) ?_;refine za8 ?_;exact zdC
   |false=>
    have hc:=okF_cfg hok
    have ht8:=(Jf hc).tn
    obtain⟨hl80,hl255⟩:=jcT hb1
    obtain⟨hm80,hm255⟩:=jcT hb2
    have hown:=fun A (hp:Part A F)=>own_K (t:=0) (hl.part hp) (by omega) hl255
    refine zpl ?_;refine zeL ?_;intro b3;refine zev ?_;refine jp (hlo2 _ ja) ?_;refine zaX ?_;refine zb3 ?_;rintro _ _ ⟨ba,M0,z0,rfl,rfl⟩;refine zcC ?_;refine zb3 ?_;rintro _ _ ⟨bb,M1,z1,rfl,rfl⟩;refine zhg ?_;refine zx ?_;refine zfj ?_;refine zU ?_;refine K.cutE (σ:=MaS) [(1,_),(2,_),(7,_),(9,_)] jc (fun s kp_=>kp_) (fun s=>mcH s.M++(mcH M1++((b3,cells [vc, .int .i64 c.page,vt, .int .i64 c.workers, .int .i64 c.grey, .int .i64 c.gens] 25)::F))) (fun s=>McZ ba c s.m s.n s.M∧s.n≤1000∧s.m.l.length≤80∧ApI c 0 (ownL l 0) s.m) ?_ ?_
    ·refine K.block ?_;refine K.loopT (σ:=MaS) [(1,_),(2,_),(7,_),(9,_)] (fun s kp_=>(11, .int .i64 (s.i:Nat))::kp_) (fun s=>mcH s.M++(mcH M1++((b3,cells [vc, .int .i64 c.page,vt, .int .i64 c.workers, .int .i64 c.grey, .int .i64 c.gens] 25)::F))) (fun s=>s.i≤l.length∧McZ ba c s.m s.n s.M∧s.n≤1+s.i*2∧s.m.l.length≤s.i∧ApI c 0 (ownL (l.take s.i) 0) s.m) (fun s=>l.length-s.i) (⟨0,1,newMc c,M0⟩) jc ja (⟨Nat.zero_le _,z0,by show 1≤1+0*2;omega,Nat.le_refl _,ApI.new hc ht8.1⟩) ?_;rintro⟨i,n,m,M⟩ ⟨hi,z,hn,hml,hA⟩;dsimp only at hi z hn hml hA⊢
     by_cases hlt:i<l.length
     ·have hlt':((i:Nat):Int)<((l.length:Nat):Int):=by omega
      obtain⟨x,hx⟩:=jh hlt
      have hx':l[((i:Nat):Int).toNat]?=some x:=hx
      have hxl:=hl255 x (List.mem_of_getElem? hx)
      have hdo:=fun A=>ja8 (F:=A) hG z (by omega) (p:=x) (by omega) (by omega)
      have hA2:=hA.do_ (b:=x)
      rw[←jkk hx] at hA2
      have hm2:=jbi (c:=c) (m:=m) (b:=x)
      refine zdV ?_;refine zkB ?_;refine zlt ?_;refine zgW ?_;rintro _ _ ⟨rfl,M2,z2,rfl⟩;refine ziv ?_;exact KE.again ⟨i+1,n+2,_,M2⟩ jc ja ⟨hlt,z2,by show n+2≤1+(i+1)*2;omega,by show(mcDo c m x).2.l.length≤i+1;omega,hA2⟩ (by show l.length-(i+1)<l.length-i;omega)
     ·have hlt': ¬((i:Nat):Int)<((l.length:Nat):Int):=by omega
      obtain rfl:l.length=i:=by omega
      rw[List.take_length] at hA;refine zcR ?_;exact zpm
    ·clear z0;rintro⟨_,na,ma,Ma⟩ ⟨za,hna,hmla,hAa⟩;dsimp only at za hna hmla hAa⊢;refine zG ?_;refine zn ?_;refine JY (hown _ ja) ?_;rintro _ _ ⟨oo,koo,rfl,rfl⟩
     obtain⟨ow,how⟩: ∃ ow,ownL l 0=ow:=⟨_,rfl⟩
     have howm: ∀ x∈ow,x.length≤255∧ja1 0 x=true:=fun x hx=>by
      rw[←how] at hx
      obtain⟨h1,h2⟩:=ownL_mem hx
      exact⟨hl255 x h1,h2⟩
     have howl:ow.length≤80:=by
      rw[←how];exact Nat.le_trans (List.length_filter_le _ _) hl80
     rw[how] at koo hAa;simp only[how];clear how hown;refine zbs ?_;refine K.loopT (σ:=MaS) [(2,_),(7,_),(9,_),(12,_)] (fun s kp_=>(13, .int .i64 (s.i:Nat))::kp_) (fun s=>mcH Ma++(mcH s.M++(oH stE 9 ow oo++((b3,cells [vc, .int .i64 c.page,vt, .int .i64 c.workers, .int .i64 c.grey, .int .i64 c.gens] 25)::F)))) (fun s=>s.i≤80∧McZ bb c s.m s.n s.M∧s.n≤1+s.i*4∧s.m.l.length≤s.i*2∧ApI c 0 (ow.take s.i) s.m) (fun s=>ow.length+lm.length-s.i) (⟨0,1,newMc c,M1⟩) jc ja (⟨Nat.zero_le _,z1,by show 1≤1+0*4;omega,Nat.le_refl _,ApI.new hc ht8.1⟩) ?_;clear z1;rintro⟨i,n,m,M⟩ ⟨hi,z,hn,hml,hA⟩;dsimp only at hi z hn hml hA⊢
     by_cases hgo:i<ow.length∨i<lm.length
     ·by_cases ho1:i<ow.length
      ·have ho1':((i:Nat):Int)<((ow.length:Nat):Int):=by omega
       refine zlC ?_;refine zgd ?_;refine zjT ?_;refine K.cutT (σ:=MaS) [(2,_),(7,_),(9,_),(12,_),(13,_)] jc (fun s kp_=>kp_) (fun s=>mcH Ma++(mcH s.M++(oH stE 9 ow oo++((b3,cells [vc, .int .i64 c.page,vt, .int .i64 c.workers, .int .i64 c.grey, .int .i64 c.gens] 25)::F)))) (fun s=>McZ bb c s.m s.n s.M∧s.n≤3+i*4∧s.m.l.length≤i*2+1∧ApI c 0 (ow.take i) s.m) ?_ ?_
       ·skip
        by_cases hm1:i<lm.length
        ·have hm1':((i:Nat):Int)<((lm.length:Nat):Int):=by omega
         obtain⟨x,hx⟩:=jh (l:=lm) (k:=i) hm1
         have hx':lm[((i:Nat):Int).toNat]?=some x:=hx
         have hxl:=hm255 x (List.mem_of_getElem? hx)
         have hown1:=fun A va (hv:Sli w0 A stE va [x])=>own_K (t:=0) hv (by show 1≤_;decide) (fun y hy=>by rw[List.mem_singleton.1 hy];exact hxl)
         have hsub: ∀ A,Part A F→Sli w0 A stE (subV u i (i+1) 1) [x]:=fun A hp=>by
          have:=(hlm.part hp).sub (l:=i) (h:=i+1) (by omega) hm1
          rw[one_sub hx] at this;exact this
         cases hbo:ja1 0 x with
         |true=>
          have hown2:=fun A va hv=>hown1 A va hv
          have eo:ownL [x] 0=[x]:=by rw[jgW,hbo,if_pos rfl]
          simp only[eo] at hown2
          have hz1: ¬((([x]:List (List UInt8)).length:Nat):Int)=0:=by show ¬(1:Int)=0;decide
          refine ziu ?_;refine zkh ?_;refine zbl ?_;refine zl ?_;refine zlS ?_;refine zpW ?_;rintro _ _ ⟨o1x,ko1x,rfl,rfl⟩;refine zl ?_;refine zct ?_;refine ziB ?_;refine zat ?_;exact zpm
         |false=>
          have hown2:=fun A va hv=>hown1 A va hv
          have eo:ownL [x] 0=[]:=by rw[jgW,hbo,if_neg (by decide)]
          simp only[eo] at hown2
          have hz1:((([]:List (List UInt8)).length:Nat):Int)=0:=rfl
          have hdo:=fun A=>ja8 (F:=A) hG z (by omega) (p:=x) (by omega) (by omega)
          have hA2:=hA.other hbo
          have hm2:=jbi (c:=c) (m:=m) (b:=x)
          refine ziu ?_;refine zkh ?_;refine zbl ?_;refine zl ?_;refine zlS ?_;refine zpW ?_;rintro _ _ ⟨o1x,ko1x,rfl,rfl⟩;refine zl ?_;refine zct ?_;refine ziG ?_;refine zak ?_;refine zlt ?_;refine zgW ?_;rintro _ _ ⟨rfl,M2,z2,rfl⟩;refine zR ?_;exact zs5
        ·have hm1': ¬((i:Nat):Int)<((lm.length:Nat):Int):=by omega
         refine zg5 ?_;refine zcy ?_;refine zdZ ?_;refine zcM ?_;refine zlz ?_;exact zpm
       ·clear z hn hml hA;rintro⟨_,n,m,M⟩ ⟨z,hn,hml,hA⟩;dsimp only at z hn hml hA⊢
        obtain⟨x,hx⟩:=jh ho1
        have hx':ow[((i:Nat):Int).toNat]?=some x:=hx
        obtain⟨hxl,hxo⟩:=howm x (List.mem_of_getElem? hx)
        have hdo:=fun A=>ja8 (F:=A) hG z (by omega) (p:=x) (by omega) (by omega)
        have hA2:=hA.own hxo
        rw[←J2 hx] at hA2
        have hm2:=jbi (c:=c) (m:=m) (b:=x)
        refine zg5 ?_;refine zct ?_;refine zI ?_;refine zak ?_;refine zB ?_;refine zj ?_;refine zcK ?_;refine zn0 ?_;refine zp ?_;refine zgW ?_;rintro _ _ ⟨rfl,M2,z2,rfl⟩;refine ziv ?_;exact KE.again ⟨i+1,n+2,_,M2⟩ jc ja ⟨by show i+1≤_;omega,z2,by show n+2≤1+(i+1)*4;omega,by show(mcDo c m x).2.l.length≤(i+1)*2;omega,hA2⟩ (by show ow.length+lm.length-(i+1)<ow.length+lm.length-i;omega)
      ·have ho1': ¬((i:Nat):Int)<((ow.length:Nat):Int):=by omega
       have hm1:i<lm.length:=hgo.resolve_left ho1
       have hm1':((i:Nat):Int)<((lm.length:Nat):Int):=by omega
       have htk:ow.take (i+1)=ow.take i:=by rw[List.take_of_length_le (by omega),List.take_of_length_le (by omega)]
       refine znG ?_;refine zrB ?_;refine zI ?_;refine zx ?_;refine zjT ?_;refine K.cutT (σ:=MaS) [(2,_),(7,_),(9,_),(12,_),(13,_)] jc (fun s kp_=>kp_) (fun s=>mcH Ma++(mcH s.M++(oH stE 9 ow oo++((b3,cells [vc, .int .i64 c.page,vt, .int .i64 c.workers, .int .i64 c.grey, .int .i64 c.gens] 25)::F)))) (fun s=>McZ bb c s.m s.n s.M∧s.n≤3+i*4∧s.m.l.length≤i*2+1∧ApI c 0 (ow.take i) s.m) ?_ ?_
       ·skip
        obtain⟨x,hx⟩:=jh (l:=lm) (k:=i) hm1
        have hx':lm[((i:Nat):Int).toNat]?=some x:=hx
        have hxl:=hm255 x (List.mem_of_getElem? hx)
        have hown1:=fun A va (hv:Sli w0 A stE va [x])=>own_K (t:=0) hv (by show 1≤_;decide) (fun y hy=>by rw[List.mem_singleton.1 hy];exact hxl)
        have hsub: ∀ A,Part A F→Sli w0 A stE (subV u i (i+1) 1) [x]:=fun A hp=>by
         have:=(hlm.part hp).sub (l:=i) (h:=i+1) (by omega) hm1
         rw[one_sub hx] at this;exact this
        cases hbo:ja1 0 x with
        |true=>
         have hown2:=fun A va hv=>hown1 A va hv
         have eo:ownL [x] 0=[x]:=by rw[jgW,hbo,if_pos rfl]
         simp only[eo] at hown2
         have hz1: ¬((([x]:List (List UInt8)).length:Nat):Int)=0:=by show ¬(1:Int)=0;decide
         refine ziu ?_;refine zkh ?_;refine zbl ?_;refine zl ?_;refine zlS ?_;refine zpW ?_;rintro _ _ ⟨o1x,ko1x,rfl,rfl⟩;refine zl ?_;refine zct ?_;refine ziB ?_;refine zat ?_;exact zpm
        |false=>
         have hown2:=fun A va hv=>hown1 A va hv
         have eo:ownL [x] 0=[]:=by rw[jgW,hbo,if_neg (by decide)]
         simp only[eo] at hown2
         have hz1:((([]:List (List UInt8)).length:Nat):Int)=0:=rfl
         have hdo:=fun A=>ja8 (F:=A) hG z (by omega) (p:=x) (by omega) (by omega)
         have hA2:=hA.other hbo
         have hm2:=jbi (c:=c) (m:=m) (b:=x)
         refine ziu ?_;refine zkh ?_;refine zbl ?_;refine zl ?_;refine zlS ?_;refine zpW ?_;rintro _ _ ⟨o1x,ko1x,rfl,rfl⟩;refine zl ?_;refine zct ?_;refine ziG ?_;refine zak ?_;refine zlt ?_;refine zgW ?_;rintro _ _ ⟨rfl,M2,z2,rfl⟩;refine zR ?_;exact zs5
       ·clear z hn hml hA;rintro⟨_,n,m,M⟩ ⟨z,hn,hml,hA⟩;dsimp only at z hn hml hA⊢;refine zg5 ?_;refine zct ?_;refine zW ?_;refine zdD ?_;exact KE.again ⟨i+1,n,m,M⟩ jc ja ⟨by show i+1≤_;omega,z,by show n≤1+(i+1)*4;omega,by show m.l.length≤(i+1)*2;omega,by show ApI c 0 (ow.take (i+1)) m;rw [htk];exact hA⟩ (by show ow.length+lm.length-(i+1)<ow.length+lm.length-i;omega)
     ·have ho1': ¬((i:Nat):Int)<((ow.length:Nat):Int):=by omega
      have hm1': ¬((i:Nat):Int)<((lm.length:Nat):Int):=by omega
      rw[List.take_of_length_le (by omega)] at hA
      have hT1:=fun A=>jc8 (w0:=w0) (F:=A) (t:=0) za (by omega)
      have hT2:=fun A=>jc8 (w0:=w0) (F:=A) (t:=0) z (by omega)
      have e1:ofW ma.l 0=(soloS c (newHs c) ow).1:=hAa.l
      have e2:ofW m.l 0=(soloS c (newHs c) ow).1:=hA.l
      have e3:(soloS c (newHs c) ow).1.length=ow.length:=jk1 ow _
      rw[e1] at hT1;rw[e2] at hT2
      obtain⟨S,hS9⟩: ∃ S,(soloS c (newHs c) ow).1=S:=⟨_,rfl⟩
      rw[hS9] at e3;simp only[hS9] at hT1 hT2;clear hS9 e1 e2
      have e3':((S.length:Nat):Int)=((ow.length:Nat):Int):=by omega
      refine znG ?_;refine zrB ?_;refine zW ?_;refine zx ?_;refine zpL ?_;refine zz fun T hT=>?_;refine zpn ?_;rintro _ _ ⟨oa,koa,rfl,rfl⟩;refine ze ?_;clear hT T;refine zz fun T hT=>?_;refine(CallV.part (CallV.fn (hT2 _)) ja).mono ?_;rintro _ _ ⟨ob,kob,rfl,rfl⟩;refine ze ?_;clear hT T;refine zp ?_;refine zrc ?_;refine zX ?_;refine zu fun T hT=>?_;refine zpn ?_;rintro _ _ ⟨oc,koc,rfl,rfl⟩;refine ze ?_;clear hT T;refine zl ?_;refine zct ?_;refine zlp ?_;refine zct ?_;refine zfc ?_;refine zbH ?_;exact zkq
end
end Go.Proofs.YtebiafomiemgbaaGreatDoor.Sw
