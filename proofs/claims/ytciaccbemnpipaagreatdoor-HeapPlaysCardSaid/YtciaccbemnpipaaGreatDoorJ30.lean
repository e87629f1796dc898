/-The walker and contracts, part 30.-/
import Derived.Test.YtciaccbemnpipaaGreatDoorJ24
import Derived.Test.YtciaccbemnpipaaGreatDoorJ29
set_option linter.all false
namespace Go.Proofs.YtciaccbemnpipaaGreatDoor.Sw
set_option maxHeartbeats 8000000
open Go.Proofs.YtciaccbemnpipaaGreatDoor renaming lo -> qL, hi -> qH
open Go.RowKit
set_option maxRecDepth 10000
theorem jg6 {w0:World} {H:jb} {n:Nat} (hn:n<=4611686018427387904):Cs w0 319 [.int .i64 (n:Nat)] H (.int .i64 (n:Nat)):=by
 have h1: ¬((n:Nat):Int)<0:=by omega
 have h2: ¬((n:Nat):Int)>4611686018427387904:=by omega
 refine en1 8 Tryz.func319 ?_;refine yr32 ?_;exact zd
theorem jfy {w0:World} {H:jb} {a b:Nat} (ha:a<=M62) (hb:b<=M62):Cs w0 232 [.int .i64 (a:Nat), .int .i64 (b:Nat)] H (.int .i64 (satA a b:Nat)):=by
 have hM:M62=4611686018427387904:=rfl
 rw[hM] at ha hb
 have n0: ¬((a:Nat):Int)<0:=by omega
 by_cases h1:a+b<=4611686018427387904
 ·have hc:=fun A=>jg6 (w0:=w0) (H:=A) h1
  have hs:satA a b=a+b:=by unfold satA;rw [hM];omega
  have e1:((a:Nat):Int)+((b:Nat):Int)=((a+b:Nat):Int):=by omega
  have h3: ¬((b:Nat):Int)>4611686018427387904-((a:Nat):Int):=by omega
  rw[hs]
  by_cases ha0:((a:Nat):Int)>0
  ·refine en2 23 Tryz.func232 ?_;refine yq40 fun T hT=>?_;rw[e1];refine(CallV.fn (hc _)).mono ?_;rintro _ _ ⟨rfl,rfl⟩;refine ze ?_;clear hT T;refine yr4 ?_;exact zd
  ·refine en2 23 Tryz.func232 ?_;refine yq40 fun T hT=>?_;rw[e1];refine(CallV.fn (hc _)).mono ?_;rintro _ _ ⟨rfl,rfl⟩;refine ze ?_;clear hT T;refine yr4 ?_;exact zd
 ·have hs:satA a b=4611686018427387904:=by unfold satA;rw [hM];omega
  have ha0:((a:Nat):Int)>0:=by omega
  have h3:((b:Nat):Int)>4611686018427387904-((a:Nat):Int):=by omega
  rw[hs];refine en2 23 Tryz.func232 ?_;refine yr26 ?_;exact zd
theorem rSub1_K {w0:World} {H:jb} {a:Nat} (ha:a<=M62):Cs w0 322 [.int .i64 (a:Nat), .int .i64 1] H (.int .i64 (a-1:Nat)):=by
 have hM:M62=4611686018427387904:=rfl
 rw[hM] at ha
 by_cases h1:((a:Nat):Int)<=1
 ·have hs:((a-1:Nat):Int)=0:=by omega
  rw[hs];refine en2 24 Tryz.func322 ?_;refine yr21 ?_;exact zd
 ·have e1:((a:Nat):Int)-1=((a-1:Nat):Int):=by omega
  have ha0:((a:Nat):Int)>=0:=by omega
  have hc:=fun A=>jg6 (w0:=w0) (H:=A) (n:=a-1) bc
  refine en2 24 Tryz.func322 ?_;refine yq35 fun T hT=>?_;rw[e1];refine(CallV.fn (hc _)).mono ?_;rintro _ _ ⟨rfl,rfl⟩;refine ze ?_;clear hT T;refine yr4 ?_;exact zd
theorem jkz {w0:World} {H:jb} {n:Nat} (hn:n<=4611686018427387904):Cs w0 320 [.int .i64 (n:Nat)] H (.int .i64 (n:Nat)):=by
 have h1: ¬((n:Nat):Int)<0:=by omega
 have h2: ¬((n:Nat):Int)< -4611686018427387904:=by omega
 have hc:=fun A=>jg6 (w0:=w0) (H:=A) hn
 refine en1 12 Tryz.func320 ?_;refine yr29 ?_;refine jj (hc _) ?_;refine yr4 ?_;exact zd
theorem rMul_K {w0:World} {H:jb} {a b:Nat} (ha:1<=a/\a<=1048576) (hb:b<=1048576):Cs w0 233 [.int .i64 (a:Nat), .int .i64 (b:Nat)] H (.int .i64 (a*b:Nat)):=by
 have h1: ¬((a:Nat):Int)=0:=by omega
 have h2: ¬((a:Nat):Int)<0:=by omega
 have h3:((a:Nat):Int)>0:=by omega
 have h4: ¬((b:Nat):Int)<0:=by omega
 have hc:=fun A=>jkz (w0:=w0) (H:=A) (n:=a) bc
 have hd:=fun A=>jkz (w0:=w0) (H:=A) (n:=b) bc
 by_cases hb0:((b:Nat):Int)=0
 ·have:b=0:=by omega
  subst this;rw[Nat.mul_zero];refine en2 40 Tryz.func233 ?_;refine yr40 ?_;exact zd
 ·have hq:(4611686018427387904:Int)/((b:Nat):Int)=((4611686018427387904/b:Nat):Int):=rfl
  have hle:1048576<=4611686018427387904/b:=(Nat.le_div_iff_mul_le bc).2 (by have:=Nat.mul_le_mul_left 1048576 hb;omega)
  have h5: ¬((a:Nat):Int)>((4611686018427387904/b:Nat):Int):=by omega
  have hab:a*b<=1048576*1048576:=Nat.mul_le_mul ha.2 hb
  have hp:((a:Nat):Int)*((b:Nat):Int)=((a*b:Nat):Int):=rfl
  obtain⟨p,hpp⟩: ∃ p,a*b=p:=⟨_,rfl⟩
  obtain⟨q,hqq⟩: ∃ q,4611686018427387904/b=q:=⟨_,rfl⟩
  rw[hpp] at hp hab|-;rw[hqq] at hq h5;rw[<-hq] at h5;refine en2 40 Tryz.func233 ?_;refine yr39 ?_;refine jj (hc _) ?_;refine yr2 ?_;refine jj (hd _) ?_;refine yr25 ?_;exact KE.fin jd rfl jc ja ⟨by rw[<-hp];rfl,rfl⟩
def paL (C:HpC) (p:PaP):List Value:=[.int .i64 (C.g.q:Nat), .int .i64 (C.tr:Nat), .int .i64 (C.caps:Nat), .int .i64 (C.ast:Nat), .bool p.act, .int .i64 (p.since:Nat), .int .i64 (p.total:Nat), .int .i64 (p.debt:Nat), .int .i64 (p.cyc:Nat)]
section
variable {w0 : World} {H : jb} {C : HpC} {p : PaP}
theorem rpcNew_K (hC:j6 C):Call Tryz.prog w0 21 [.agg [.int .i64 (C.g.q:Nat), .int .i64 (C.tr:Nat), .int .i64 (C.caps:Nat), .int .i64 (C.ast:Nat)].toArray] H
  (fun r H'=>r= .tuple [.agg (paL C ⟨0,0,0,0,false⟩).toArray, .int .i64 0].toArray/\H'=H):=by
 have t1:=hC.tr
 have t2:=hC.ast
 unfold paL;refine en1 25 Tryz.func21 ?_
 (iterate 44 first|refine yS ?_|intro _)
 exact zd
theorem jir {a:Bool} (hb:PaB p):Call Tryz.prog w0 237 [.agg (paL C p).toArray, .bool a] H
  (fun r H'=> ∃ e:Int,r= .tuple [.agg (paL C (jaw a p)).toArray, .int .i64 e].toArray/\H'=H):=by
 have hM:M62=4611686018427387904:=rfl
 obtain⟨si,to,de,cy,ac⟩:=p
 have hadd:=fun A=>jfy (w0:=w0) (H:=A) (a:=cy) (b:=1) hb.c (by rw[hM];omega)
 unfold jaw paL;dsimp only
 by_cases hac:ac=a
 ·subst hac;rw[if_pos rfl]
  cases ac with
  |true=>
   refine en2 22 Tryz.func237 ?_
   (iterate 28 first|refine yS ?_|intro _)
   exact zX
  |false=>
   refine en2 22 Tryz.func237 ?_
   (iterate 28 first|refine yS ?_|intro _)
   exact zX
 ·have hab:(ac==a)=false:=by revert hac;cases ac<;>cases a<;>simp
  rw[if_neg hac]
  cases a with
  |true=>
   refine en2 22 Tryz.func237 ?_
   (iterate 18 first|refine yS ?_|intro _)
   refine K.condN rfl J1 ?_;refine yr39 ?_;exact zX
  |false=>
   refine en2 22 Tryz.func237 ?_
   (iterate 18 first|refine yS ?_|intro _)
   refine K.condN rfl J1 ?_;refine jbf ?_;refine jj (hadd _) ?_;refine yr12 ?_;exact zX
theorem rpcPay_K (hb:PaB p):Call Tryz.prog w0 235 [.agg (paL C p).toArray, .int .i64 1] H
  (fun r H'=> ∃ e:Int,r= .tuple [.agg (paL C {p with debt:=p.debt-1}).toArray, .int .i64 e].toArray/\H'=H):=by
 have hM:M62=4611686018427387904:=rfl
 obtain⟨si,to,de,cy,ac⟩:=p
 have hsub:=fun A=>rSub1_K (w0:=w0) (H:=A) (a:=de) hb.d
 have hd:=hb.d
 unfold paL;dsimp only at hd|-
 by_cases h1:((de-1:Nat):Int)>2147483647
 ·refine en2 20 Tryz.func235 ?_
  (iterate 22 first|refine yS ?_|intro _)
  refine jj (hsub _) ?_;refine yr22 ?_;exact zX
 ·refine en2 20 Tryz.func235 ?_
  (iterate 22 first|refine yS ?_|intro _)
  refine jj (hsub _) ?_;refine yr16 ?_;refine K.dr _ (od 0 [0,1,1,2,0]) (Part.take jx.head (Part.drop Part.all)) ?_;refine yr9 ?_;exact zX
theorem rpcAsk_K {n:Nat} (hC:j6 C) (hb:PaB p) (hn:1<=n/\n<=64):Call Tryz.prog w0 133 [.agg (paL C p).toArray, .int .i64 (n:Nat)] H
  (fun r H'=>r= .tuple [.agg (paL C (Jz C.tr C.ast n p).2).toArray, .int .u8 ((Jz C.tr C.ast n p).1:Nat), .int .i64 0].toArray/\H'=H):=by
 have hM:M62=4611686018427387904:=rfl
 have hast:=hC.ast
 have h1:=fun A=>jfy (w0:=w0) (H:=A) (b:=n) hb.s bc
 have h2:=fun A=>jfy (w0:=w0) (H:=A) (b:=n) hb.t bc
 have hna:n*C.ast<=M62:=Nat.le_trans (Nat.mul_le_mul hn.2 hast) bn
 have h3:=fun A=>rMul_K (w0:=w0) (H:=A) (a:=n) (b:=C.ast) bc bc
 have h4:=fun A=>jfy (w0:=w0) (H:=A) (b:=n*C.ast) hb.d hna
 have hn1: ¬((n:Nat):Int)<1:=by omega
 unfold Jz paL;dsimp only
 obtain⟨si,to,de,cy,ac⟩:=p
 dsimp only at*
 obtain⟨s1,hs1⟩: ∃ s1,s1=satA si n:=⟨_,rfl⟩
 obtain⟨t1,ht1⟩: ∃ t1,t1=satA to n:=⟨_,rfl⟩
 obtain⟨d1,hd1⟩: ∃ d1,d1=satA de (n*C.ast):=⟨_,rfl⟩
 obtain⟨na,hna'⟩: ∃ na,na=n*C.ast:=⟨_,rfl⟩
 rw[<-hna'] at h3 h4 hd1;rw[<-hs1] at h1|-;rw[<-ht1] at h2|-;rw[<-hd1] at h4;rw[<-hna',<-hd1]
 cases ac with
 |true=>
  by_cases hlt:s1<C.tr
  ·have hlt':((s1:Nat):Int)<((C.tr:Nat):Int):=by omega
   simp only[if_pos hlt,if_true,Bool.false_eq_true,if_false];refine en2 45 Tryz.func133 ?_
   (iterate 32 first|refine yS ?_|intro _)
   refine jj (h1 _) ?_;refine yr10 ?_;refine jj (h2 _) ?_;refine yr12 ?_;refine zi ?_
   (repeat refine K.seq ?_)
   refine K.dr _ (od 0 [1,1,0,0,0,0,2,2,0,4]) Part.all ?_;refine yr7 ?_;refine jj (h3 _) ⟨ja,?_⟩;refine yr1 ?_;refine jj (h4 _) ⟨ja,?_⟩;refine yr1 ?_;refine zaD ?_;refine yr24 ?_;exact zd
  ·have hlt': ¬((s1:Nat):Int)<((C.tr:Nat):Int):=by omega
   simp only[if_neg hlt,if_true,Bool.false_eq_true,if_false];refine en2 45 Tryz.func133 ?_
   (iterate 32 first|refine yS ?_|intro _)
   refine jj (h1 _) ?_;refine yr10 ?_;refine jj (h2 _) ?_;refine yr12 ?_;refine zi ?_
   (repeat refine K.seq ?_)
   refine K.dr _ (od 0 [1,1,0,0,0,0,2,2,0,4]) Part.all ?_;refine yr7 ?_;refine jj (h3 _) ⟨ja,?_⟩;refine yr1 ?_;refine jj (h4 _) ⟨ja,?_⟩;refine yr1 ?_;refine zaD ?_;refine yr40 ?_;exact zd
 |false=>
  by_cases hlt:s1<C.tr
  ·have hlt':((s1:Nat):Int)<((C.tr:Nat):Int):=by omega
   simp only[if_pos hlt,if_true,Bool.false_eq_true,if_false];refine en2 45 Tryz.func133 ?_
   (iterate 32 first|refine yS ?_|intro _)
   refine jj (h1 _) ?_;refine yr10 ?_;refine jj (h2 _) ?_;refine yr36 ?_;exact zd
  ·have hlt': ¬((s1:Nat):Int)<((C.tr:Nat):Int):=by omega
   simp only[if_neg hlt,if_true,Bool.false_eq_true,if_false];refine en2 45 Tryz.func133 ?_
   (iterate 32 first|refine yS ?_|intro _)
   refine jj (h1 _) ?_;refine yr10 ?_;refine jj (h2 _) ?_;refine yr53 ?_;exact zd
end
def LKx (g:PlG) (k d:Nat):List jn:=cutL g.n g.sl k++(List.range d).map (g.sl k)
def fstP (g:PlG) (k j:Nat):Nat:=g.first k+j*g.per k
def mnyP (g:PlG) (k j:Nat):Nat:=min (g.per k) (g.n k-j*g.per k)
def FKx (g:PlG) (k j:Nat):List Int:=(cutL g.pgs (fstP g) k++(List.range j).map (fstP g k)).map fun n=>((n:Nat):Int)
def MKx (g:PlG) (k j:Nat):List Int:=(cutL g.pgs (mnyP g) k++(List.range j).map (mnyP g k)).map fun n=>((n:Nat):Int)
section
variable {g : PlG} {k d j : Nat}
theorem jhq:(LKx g k d).length=g.first k+d:=by simp[LKx,jbO];rfl
theorem FKx_len:(FKx g k j).length=g.page k+j:=by simp[FKx,jbO];rfl
theorem MKx_len:(MKx g k j).length=g.page k+j:=by simp[MKx,jbO];rfl
theorem LKx_next:LKx g k d++ [g.sl k d]=LKx g k (d+1):=by simp[LKx,List.range_succ]
theorem FKx_next:FKx g k j++ [((fstP g k j:Nat):Int)]=FKx g k (j+1):=by simp[FKx,List.range_succ]
theorem jkc:MKx g k j++ [((mnyP g k j:Nat):Int)]=MKx g k (j+1):=by simp[MKx,List.range_succ]
theorem LKx_up:LKx g k (g.n k)=LKx g (k+1) 0:=by simp[LKx,cutL]
theorem FKx_up:FKx g k (g.pgs k)=FKx g (k+1) 0:=by simp[FKx,cutL]
theorem MKx_up:MKx g k (g.pgs k)=MKx g (k+1) 0:=by simp[MKx,cutL]
theorem LKx_all:LKx g g.m 0=g.L:=by simp[LKx,PlG.L]
theorem FKx_all:FKx g g.m 0=g.firsts:=by simp only[FKx,PlG.firsts,List.range_zero,List.map_nil,List.append_nil];rfl
theorem MKx_all:MKx g g.m 0=g.manys:=by simp only[MKx,PlG.manys,List.range_zero,List.map_nil,List.append_nil];rfl
theorem pgs_lt (ok:jh g) (hk:k<g.m):j<g.pgs k↔j*g.per k<g.n k:=by
 have h2:=ok.per hk
 have h1:=ok.n hk
 unfold PlG.pgs
 constructor
 ·intro h
  have:=(Nat.le_div_iff_mul_le (show 0<g.per k by omega)).1 (show j+1<=_ from h)
  rw[Nat.succ_mul] at this;omega
 ·intro h;refine(Nat.le_div_iff_mul_le (show 0<g.per k by omega)).2 ?_;rw[Nat.succ_mul];omega
theorem sl_in (ok:jh g) (hk:k<g.m) {i:Nat} (hi:i<g.per k):g.sl k (j*g.per k+i)=⟨k,g.y k,(g.page k+j)*g.pg+i*g.y k,g.page k+j⟩:=by
 have h1:(j*g.per k+i)/g.per k=j:=by
  rw[Nat.mul_comm,Nat.mul_add_div bc,Nat.div_eq_of_lt hi];rfl
 have h2:(j*g.per k+i)%g.per k=i:=by
  rw[Nat.mul_comm,Nat.mul_add_mod,Nat.mod_eq_of_lt hi]
 unfold PlG.sl;rw[h1,h2]
theorem per_iff (ok:jh g) (hk:k<g.m) {i:Nat}:i<g.per k↔i*g.y k+g.y k<=g.pg:=by
 have h2:=ok.y k hk
 rw[<-Nat.succ_mul];exact Nat.le_div_iff_mul_le bc
end
theorem g_clI {c:Cfg} {t:Int} (ga:GAt c t (gOf c t)):(gOf c t).clI=c.cl:=by
 unfold PlG.clI gOf;dsimp only;rw[List.map_map]
 conv=>rhs;rw [<-List.map_id c.cl]
 refine List.map_congr_left fun y hy=>?_
 obtain⟨k,hk⟩:=List.getElem?_of_mem hy
 have:=ga.y k y hk
 show((y.toNat:Nat):Int)=y
 omega
structure DnA where
 k:Nat
 oL:Own
 oF:Own
 oM:Own
structure DnC where
 i:Nat
 oL:Own
def jeq (g:PlG) (k d j jm:Nat) (b8:Nat) (vc:Value) (oL oF oM:Own):jb:=
 (b8,cells [oV oL (LKx g k d).length,oV oF (FKx g k j).length,oV oM (MKx g k jm).length, .int .i64 (g.words:Nat),vc] 34)::(oH slE 200 (LKx g k d) oL++(oH iE 3 (FKx g k j) oF++oH iE 3 (MKx g k jm) oM))
theorem plnHp_app {g:PlG} {k d j jm b8:Nat} {vc:Value} {oL oF oM:Own} {F:jb}:jeq g k d j jm b8 vc oL oF oM++F=(b8,cells [oV oL (LKx g k d).length,oV oF (FKx g k j).length,oV oM (MKx g k jm).length, .int .i64 (g.words:Nat),vc] 34)::(oH slE 200 (LKx g k d) oL++(oH iE 3 (FKx g k j) oF++(oH iE 3 (MKx g k jm) oM++F))):=by
 unfold jeq;simp only[List.cons_append,List.append_assoc]
theorem rpNew_K {w0:World} {F:jb} {c:Cfg} {vc vt:Value} {t:Int} (hR:Jl w0 F c vc vt) (ht:Jh c t 0=true) (hvc:vc.oneCell'=true):
  Call Tryz.prog w0 46 [jA c vc vt, .int .i64 t] F (fun r H'=> ∃ (v:PlV) (N:jb),(∀ Dc,Sli w0 Dc iE vc c.cl->jad w0 (N++Dc) v (gOf c t))/\r= .tuple [.agg (plL v (gOf c t)).toArray, .int .i64 0].toArray/\H'=N++F):=by
 have ga:=g_at ht
 have hcl:=g_clI ga
 obtain⟨g,hg⟩: ∃ g,g=gOf c t:=⟨_,rfl⟩
 rw[<-hg] at ga hcl|-
 have hreg:=fun A (hp:Part A F)=>jeI (t:=t) (hR.part hp)
 have hsl:=fun A (k:Nat) (hp:Part A F)=>jjp (t:=t) (k:=(k:Nat)) (hR.part hp)
 rw[ga.region] at hreg
 have ok:=ga.ok
 have hm:=ok.m
 have hgm:=ga.m
 have hgy:=ga.y
 have hgs:=ga.slots
 have hgpg:=ga.page
 have hpgl:=ok.pg
 obtain⟨hS,hT',o1,o2,l1,l2⟩:=hR
 obtain⟨cl,page,tn,workers,grey,gens⟩:=c
 dsimp only at hS hT' l1 l2 hgm hgy hgpg hcl;simp only[jA,jV] at hreg hsl|-;subst hgpg;simp only[prV] at hreg hsl;clear ga hg ht;refine en2 106 Tryz.func46 ?_;refine yr3 ?_;intro b2;refine yr1 ?_;intro b4;refine yr8 ?_;refine jj (hreg _ ja) ?_;refine yr24 ?_;intro b8;refine yr10 ?_;refine K.loopT (σ:=DnA) [(1,_),(2,_),(4,_),(8,_)] (fun s kp_=>(9, .int .i64 (s.k:Nat))::kp_) (fun s=>jeq g s.k 0 0 0 b8 vc s.oL s.oF s.oM++((b2,cells [vc, .int .i64 (g.pg:Nat),vt, .int .i64 workers, .int .i64 grey, .int .i64 gens] 25)::(b4,cells [.slice none 0 0, .slice none 0 0, .slice none 0 0, .int .i64 0, .slice none 0 0] 34)::F)) (fun s=>s.k<=g.m/\oOk slE (LKx g s.k 0) s.oL/\oOk iE (FKx g s.k 0) s.oF/\oOk iE (MKx g s.k 0) s.oM) (fun s=>g.m-s.k) (⟨0,none,none,none⟩) jg Bl (⟨Nat.zero_le _,rfl,rfl,rfl⟩) ?_;rintro⟨k,oL,oF,oM⟩ ⟨hk,kL,kF,kM⟩;dsimp only at hk kL kF kM|-;rw[plnHp_app]
 by_cases hlt:k<g.m
 ·obtain⟨y,hy⟩:=jq (l:=cl) (k:=k) bc
  have hyk:=hgy k y hy
  subst hyk
  have hkl:k<cl.length:=by omega
  have hsl1:=fun A hp=>hsl A k hp
  rw[hgs k hlt] at hsl1;dsimp only at hsl1
  have y1:=ok.y k hlt
  have p1:=ok.per hlt
  have n1:=ok.n hlt
  have g1:=ok.pgs hlt
  have f1:=ok.first (show k+1<=g.m by omega)
  have q1:=ok.page (show k+1<=g.m by omega)
  have f2:g.first (k+1)=g.first k+g.n k:=rfl
  have q2:g.page (k+1)=g.page k+g.pgs k:=rfl
  clear hsl hgs hgy;refine yr21 ?_;refine jj (hsl1 _ ja) ?_;refine yr8 ?_;refine K.loopT (σ:=DnA) [(1,_),(2,_),(4,_),(8,_),(9,_)] (fun s kp_=>(10, .int .i64 ((g.n k-min (s.k*g.per k) (g.n k):Nat):Int))::kp_) (fun s=>jeq g k (min (s.k*g.per k) (g.n k)) s.k s.k b8 vc s.oL s.oF s.oM++((b2,cells [vc, .int .i64 (g.pg:Nat),vt, .int .i64 workers, .int .i64 grey, .int .i64 gens] 25)::(b4,cells [.slice none 0 0, .slice none 0 0, .slice none 0 0, .int .i64 0, .slice none 0 0] 34)::F)) (fun s=>s.k<=g.pgs k/\oOk slE (LKx g k (min (s.k*g.per k) (g.n k))) s.oL/\oOk iE (FKx g k s.k) s.oF/\oOk iE (MKx g k s.k) s.oM) (fun s=>g.pgs k-s.k) (⟨0,oL,oF,oM⟩) jg (by rw[plnHp_app];simp only[Nat.zero_mul,Nat.zero_min];exact ja) ((by simp only[Nat.zero_mul,Nat.zero_min];exact⟨Nat.zero_le _,kL,kF,kM⟩)) ?_;rintro⟨j,oL,oF,oM⟩ ⟨hjp,kL,kF,kM⟩;dsimp only at hjp kL kF kM|-
  by_cases hj:j<g.pgs k
  ·have hd:=(pgs_lt ok hlt).1 hj
   have hmin:min (j*g.per k) (g.n k)=j*g.per k:=by omega
   rw[hmin] at kL|-
   obtain⟨D,hD⟩: ∃ D,D=j*g.per k:=⟨_,rfl⟩
   have hDn':(j+1)*g.per k=D+g.per k:=by rw[Nat.succ_mul,hD]
   have hfs:FKx g k j++ [(((LKx g k D).length:Nat):Int)]=FKx g k (j+1):=by rw[jhq,hD];exact FKx_next
   have hmp:mnyP g k j=min (g.per k) (g.n k-D):=by unfold mnyP;rw [hD]
   have hsle: ∀ i,i<g.per k->g.sl k (D+i)=⟨k,g.y k,(g.page k+j)*g.pg+i*g.y k,g.page k+j⟩:=fun i hi=>by rw[hD];exact sl_in ok hlt hi
   have hle: ∀ i,i<g.per k↔i*g.y k+g.y k<=g.pg:=fun i=>per_iff ok hlt
   rw[<-hD] at kL hd|-
   have hfl:=FKx_len (g:=g) (k:=k) (j:=j)
   have hfl1:=FKx_len (g:=g) (k:=k) (j:=j+1)
   have hml:=MKx_len (g:=g) (k:=k) (j:=j)
   have hml1:=MKx_len (g:=g) (k:=k) (j:=j+1)
   have hbF:(FKx g k (j+1)).length<=4294967296:=by omega
   have hbM:(MKx g k (j+1)).length<=4294967296:=by omega
   have hgt0:((g.n k-D:Nat):Int)>0:=by omega
   have hPw:(g.page k+j)*g.pg<=g.words:=Nat.mul_le_mul_right _ (by have:=jbL (n:=g.pgs) hlt;unfold PlG.pages;unfold PlG.page at*;omega)
   have hww:=ok.words
   clear hD;rw[plnHp_app];refine yr19 ?_;refine zg ?_
   (iterate 7 first|refine yS ?_|intro _)
   refine KL.e rfl (Eff.appZ (E:=iE) (xs:=FKx g k j) (o:=oF) (ys:=[(((LKx g k D).length:Nat):Int)]) (zs:=FKx g k (j+1)) rfl rfl rfl rfl rfl rfl jt bh (Sli.blk jK rfl bF bn rfl) hfs hbF rfl) ?_;rintro _ _ ⟨o6,ok6,rfl,rfl⟩;refine yr16 ?_;refine K.loopT (σ:=DnC) [(1,_),(2,_),(4,_),(8,_),(9,_),(12,_)] (fun s kp_=>(10, .int .i64 ((g.n k-(D+s.i):Nat):Int))::(13, .int .i64 (s.i:Nat))::(14, .int .i64 ((s.i*g.y k:Nat):Int))::kp_) (fun s=>jeq g k (D+s.i) (j+1) j b8 vc s.oL o6 oM++((b2,cells [vc, .int .i64 (g.pg:Nat),vt, .int .i64 workers, .int .i64 grey, .int .i64 gens] 25)::(b4,cells [.slice none 0 0, .slice none 0 0, .slice none 0 0, .int .i64 0, .slice none 0 0] 34)::F)) (fun s=>D+s.i<=g.n k/\s.i<=g.per k/\oOk slE (LKx g k (D+s.i)) s.oL) (fun s=>g.n k-(D+s.i)) (⟨0,oL⟩) jg Bl (⟨by show D+0<=_;omega,Nat.zero_le _,kL⟩) ?_;rintro⟨i,oL2⟩ ⟨hDi,hip,kL2⟩;dsimp only at hDi hip kL2|-;rw[plnHp_app]
   have hlei:=hle i
   have hLl:=jhq (g:=g) (k:=k) (d:=D+i)
   have hiy:i*g.y k<=64:=by
    have h1:i*g.y k<=g.per k*g.y k:=Nat.mul_le_mul_right _ hip
    have h2:g.per k*g.y k<=g.pg:=Nat.div_mul_le_self _ _
    omega
   have hLl1:=jhq (g:=g) (k:=k) (d:=D+(i+1))
   by_cases h1:D+i<g.n k
   ·have hg1:((g.n k-(D+i):Nat):Int)>0:=by omega
    by_cases h2:i<g.per k
    ·have hle2:((i*g.y k:Nat):Int)+((g.y k:Nat):Int)<=((g.pg:Nat):Int):=by have:=hlei.1 h2;omega
     have hx:=hsle i h2
     have hbL:(LKx g k (D+(i+1))).length<=4294967296:=by omega
     have hq1:(((FKx g k j).length:Nat):Int)*((g.pg:Nat):Int)=(((g.page k+j)*g.pg:Nat):Int):=by rw[hfl];simp
     have hq2:(((g.page k+j)*g.pg:Nat):Int)+((i*g.y k:Nat):Int)=(((g.sl k (D+i)).addr:Nat):Int):=by rw[hx];simp
     have hq3:(((FKx g k j).length:Nat):Int)=(((g.sl k (D+i)).page:Nat):Int):=by rw[hx,hfl]
     have hq4:((g.y k:Nat):Int)=(((g.sl k (D+i)).size:Nat):Int):=by rw[hx]
     have hq5:((k:Nat):Int)=(((g.sl k (D+i)).cls:Nat):Int):=by rw[hx]
     obtain⟨PP,hPP⟩: ∃ PP,PP=(g.page k+j)*g.pg:=⟨_,rfl⟩
     rw[<-hPP] at hq1 hq2 hPw
     have hsn:LKx g k (D+i)++ [g.sl k (D+i)]=LKx g k (D+(i+1)):=LKx_next
     refine yr2 ?_;refine zac ?_;refine yr21 ?_;refine zi ?_
     (repeat refine K.seq ?_)
     refine K.dr ((b8,cells [oV oL2 (LKx g k (D+i)).length,oV o6 (FKx g k (j+1)).length,oV oM (MKx g k j).length, .int .i64 (g.words:Nat),vc] 34)::[]) (od 0 [1,1,0,0,0,0,0,0,0,0,0,0,0,0,0,0,2,2,0,4]) ja ?_
     (iterate 19 first|refine yS ?_|intro _)
     -- STOP at region 16 op 17: {"h": "Op.call", "a": [{"callee": {"h": "Callee.builtin", "a": ["Builtin.append"]}, "args": [{"h": "Operand.tmp", "a": [77]}, {"h": "Operand.tmp", "a": [92]}], "argTypes": [32, 32]}]}
     rw[hq1,hq2,hq3];refine KD.e rfl rfl (Eff.appZ (E:=slE) (xs:=LKx g k (D+i)) (o:=oL2) (ys:=[g.sl k (D+i)]) (zs:=LKx g k (D+(i+1))) rfl rfl rfl rfl rfl rfl jt bh ba (hsn) be rfl) ?_;rintro _ _ ⟨o',ok',rfl,rfl⟩;refine⟨ja,?_⟩;refine yr1 ?_;refine zaD ?_;refine yr1 ?_;rw[<-hq3]
     have he1:((i*g.y k:Nat):Int)+((g.y k:Nat):Int)=(((i+1)*g.y k:Nat):Int):=by rw[Nat.succ_mul];omega
     have he2:((g.n k-(D+i):Nat):Int)-1=((g.n k-(D+(i+1)):Nat):Int):=by omega
     clear hq1 hq2 hq3 hq4 hq5 hx hsn;refine yr25 ?_;rw[he1,he2];exact KE.again ⟨i+1,o'⟩ jg Bl ⟨by show D+(i+1)<=_;omega,h2,ok'⟩ (by show g.n k-(D+(i+1))<g.n k-(D+i);omega)
    ·have hgt2: ¬((i*g.y k:Nat):Int)+((g.y k:Nat):Int)<=((g.pg:Nat):Int):=by have:=mt hlei.2 h2;omega
     have hie:i=g.per k:=by omega
     have hDn:min ((j+1)*g.per k) (g.n k)=D+i:=by rw[hDn'];omega
     have hmn:MKx g k j++ [((i:Nat):Int)]=MKx g k (j+1):=by rw[<-jkc,hmp,show min (g.per k) (g.n k-D)=i by omega]
     ·skip
      refine yr2 ?_;refine zac ?_;refine yr22 ?_;refine zg ?_
      (iterate 5 first|refine yS ?_|intro _)
      refine KL.e rfl (Eff.appZ (E:=iE) (xs:=MKx g k j) (o:=oM) (ys:=[((i:Nat):Int)]) (zs:=MKx g k (j+1)) rfl rfl rfl rfl rfl rfl jt bh ba (hmn) be rfl) ?_;rintro _ _ ⟨o',ok',rfl,rfl⟩;refine yr4 ?_;exact zcc
   ·have hg1: ¬((g.n k-(D+i):Nat):Int)>0:=by omega
    have hDn:min ((j+1)*g.per k) (g.n k)=D+i:=by rw[hDn'];omega
    have hmn:MKx g k j++ [((i:Nat):Int)]=MKx g k (j+1):=by rw[<-jkc,hmp,show min (g.per k) (g.n k-D)=i by omega]
    ·skip
     ·skip
      refine yr2 ?_;refine zac ?_;refine yr22 ?_;refine zg ?_
      (iterate 5 first|refine yS ?_|intro _)
      refine KL.e rfl (Eff.appZ (E:=iE) (xs:=MKx g k j) (o:=oM) (ys:=[((i:Nat):Int)]) (zs:=MKx g k (j+1)) rfl rfl rfl rfl rfl rfl jt bh ba (hmn) be rfl) ?_;rintro _ _ ⟨o',ok',rfl,rfl⟩;refine yr4 ?_;exact zcc
  ·have hje:j=g.pgs k:=by omega
   have hnle:g.n k<=j*g.per k:=by have:=mt (pgs_lt ok hlt).2 hj;omega
   have hmin:min (j*g.per k) (g.n k)=g.n k:=by omega
   rw[hmin] at kL|-;subst hje;rw[plnHp_app];rw[LKx_up] at kL|-;rw[FKx_up] at kF|-;rw[MKx_up] at kM|-
   have hgt0: ¬((g.n k-g.n k:Nat):Int)>0:=by omega
   refine yr19 ?_;exact KE.again ⟨k+1,oL,oF,oM⟩ jg Bl ⟨hlt,kL,kF,kM⟩ (by show g.m-(k+1)<g.m-k;omega)
 ·have hke:k=g.m:=by omega
  subst hke;rw[LKx_all] at kL|-;rw[FKx_all] at kF|-;rw[MKx_all] at kM|-;refine yr24 ?_;refine KE.fin (H':=(oH slE 200 g.L oL++(oH iE 3 g.firsts oF++oH iE 3 g.manys oM))++F) jd rfl jc bf ⟨⟨oV oL g.L.length,oV oF g.firsts.length,oV oM g.manys.length,vc,t.toNat⟩,_,fun Dc hC=>⟨Sli.own bp kL rfl,Sli.own bp kF rfl,Sli.own bp kM rfl,by rw[hcl];exact hC.part bf,jJ _ _,jJ _ _,jJ _ _,hvc⟩,rfl,rfl⟩
theorem rpNewT_K (j:Nat) {w0:World} {F:jb} {c:Cfg} {vc vt:Value} {t:Int} (hR:Jl w0 F c vc vt) (ht:Jh c t 0=true) (hvc:vc.oneCell'=true):
  Call Tryz.prog w0 46 [jA c vc vt, .int .i64 t] F (fun r H'=> ∃ (v:PlV) (N:jb),v.t=j/\(∀ Dc,Sli w0 Dc iE vc c.cl->jad w0 (N++Dc) v (gOf c t))/\r= .tuple [.agg (plL v (gOf c t)).toArray, .int .i64 0].toArray/\H'=N++F):=by
 refine(rpNew_K hR ht hvc).mono ?_;rintro _ _ ⟨v,N,h,rfl,rfl⟩;exact⟨⟨v.L,v.F,v.M,v.C,j⟩,N,rfl,fun Dc hC=>⟨(h Dc hC).L,(h Dc hC).F,(h Dc hC).M,(h Dc hC).C,(h Dc hC).oL,(h Dc hC).oF,(h Dc hC).oM,(h Dc hC).oC⟩,rfl,rfl⟩
theorem jiw {w0:World} {H:jb} {w:Nat} (hw:w<18446744073709551616):Cs w0 73 [.int .u64 (w:Nat)] H (capV w):=by
 have d1:((w:Nat):Int)%4294967296=((capG w:Nat):Int):=rfl
 have d2:((w:Nat):Int)/4294967296=((w/4294967296:Nat):Int):=rfl
 have d3:((w/4294967296:Nat):Int)/16777216=((capT w:Nat):Int):=by
  show((w/4294967296/16777216:Nat):Int)=_
  unfold capT;rw [Nat.div_div_eq_div_mul]
 have d4:((w/4294967296:Nat):Int)%16777216=((capI w:Nat):Int):=rfl
 have b1:capG w<4294967296:=Nat.mod_lt _ bn
 have b2:capI w<16777216:=Nat.mod_lt _ bn
 have b3:capT w<256:=by unfold capT;omega
 have b4:w/4294967296<4294967296:=by omega
 unfold capV
 obtain⟨hi,ehi⟩: ∃ hi,w/4294967296=hi:=⟨_,rfl⟩
 obtain⟨gn,egn⟩: ∃ gn,capG w=gn:=⟨_,rfl⟩
 obtain⟨ix,eix⟩: ∃ ix,capI w=ix:=⟨_,rfl⟩
 obtain⟨tn,etn⟩: ∃ tn,capT w=tn:=⟨_,rfl⟩
 rw[egn] at d1 b1|-;rw[eix] at d4 b2|-;rw[etn] at d3 b3|-;rw[ehi] at d2 d3 d4 b4
 by_cases hz:gn=0
 ·have hz':((w:Nat):Int)%4294967296=0:=by rw[d1];omega
  rw[if_pos hz];refine en1 22 Tryz.func73 ?_;refine yr3 ?_;intro b2;refine yr34 ?_;exact zd
 ·have hz': ¬((w:Nat):Int)%4294967296=0:=by rw[d1];omega
  rw[if_neg hz];refine en1 22 Tryz.func73 ?_;refine yr3 ?_;intro b2;refine yr43 ?_;exact KE.fin jd rfl jc ja ⟨by simp only[d1,d2,d3,d4];rfl,rfl⟩
theorem jmB {w0:World} {H:jb} {t i n:Nat} (ht:t<256) (hi:i<16777216) (hn:1<=n/\n<4294967296):Cs w0 231 [.agg [.int .i64 (t:Nat), .int .i64 (i:Nat), .int .u32 (n:Nat)].toArray] H (.tuple [.int .u64 (capW t i n:Nat), .int .i64 0].toArray):=by
 have h1: ¬((t:Nat):Int)<0:=by omega
 have h2: ¬((t:Nat):Int)>=256:=by omega
 have h3: ¬((i:Nat):Int)<0:=by omega
 have h4: ¬((i:Nat):Int)>=16777216:=by omega
 have h5: ¬((n:Nat):Int)=0:=by omega
 have e:capW t i n=(t*16777216+i)*4294967296+n:=by unfold capW;omega
 rw[e];refine en1 40 Tryz.func231 ?_
 (iterate 59 first|refine yS ?_|intro _)
 exact zd
structure UsS where
 i:Nat
 n:Nat
theorem jif: ∀ {l:List jn} {A:List Bool} {n:Nat},(∀ p∈l,p.size<=n)->usedL l A<=A.length*n
 | [],A,n,_=>by cases A<;>simp[usedL]
 |p::l,[],n,_=>by simp[usedL]
 |p::l,a::A,n,h=>by
  have ih:=jif (l:=l) (A:=A) fun q hq=>h q (.tail _ hq)
  have hp:=h p (.head _)
  simp only[usedL,List.length_cons,Nat.succ_mul]
  split<;>omega
theorem jie: ∀ {l:List jn} {A:List Bool} {i:Nat} {p:jn} {a:Bool},l[i]?=some p->A[i]?=some a->usedL l (A.take (i+1))=usedL l (A.take i)+(if a=true then p.size else 0)
 |p::l,a::A,0,q,b,h1,h2=>by
  simp only[List.getElem?_cons_zero,Option.some.injEq] at h1 h2;subst h1 h2
  simp[usedL]
  cases l<;>simp[usedL]
 |p::l,a::A,i+1,q,b,h1,h2=>by
  simp only[List.getElem?_cons_succ] at h1 h2
  have ih:=jie h1 h2
  simp only[List.take_succ_cons,usedL];rw[ih];omega
 | [],A,i,q,b,h1,h2=>by simp at h1
 |p::l,[],i,q,b,h1,h2=>by simp at h2
section
variable {w0 : World} {D F : jb} {v : PlV} {va vr : Value} {g : PlG} {A : List Bool} {R : List RwD} {t s : Nat} {x : List Int} {y : jn}
theorem rUsed_K (hA:ArD w0 D v va g A) (ok:jh g) (hl:A.length=g.slots):
  Cs w0 77 [.agg (arL v g va).toArray] (D++F) (.int .i64 (usedL g.L A:Nat)):=by
 have hL:=hA.p.L
 have haA:=hA.a
 have q1:=hA.p.oL
 have q2:=hA.p.oF
 have q3:=hA.p.oM
 have q4:=hA.p.oC
 have q5:=hA.o
 have hLl:=jak (g:=g)
 have hsl:=ok.slots
 have hsz: ∀ p∈g.L,p.size<=64:=fun p hp=>by
  obtain⟨i,hi⟩:=List.getElem?_of_mem hp
  exact(ok.fits hi).2.2.1
 unfold arL;refine en1 27 Tryz.func77 ?_;refine yr3 ?_;intro b1;refine yr15 ?_;refine K.loopT (σ:=UsS) [(1,_)] (fun s kp_=>(4, .int .i64 (s.i:Nat))::(3, .int .i64 (s.n:Nat))::kp_) (fun s=>(b1,cells [v.L,v.F,v.M, .int .i64 (g.words:Nat),v.C,va] 37)::(D++F)) (fun s=>s.i<=A.length/\s.n=usedL g.L (A.take s.i)) (fun s=>A.length-s.i) (⟨0,0⟩) jg ja (⟨Nat.zero_le _,by show 0=usedL g.L [];cases g.L<;>rfl⟩) ?_;rintro⟨i,n⟩ ⟨hi,hu⟩;dsimp only at hi hu|-
 by_cases hlt:i<A.length
 ·have hlt':((i:Nat):Int)<((A.length:Nat):Int):=by omega
  obtain⟨a,ha⟩:=jq hlt
  obtain⟨p,hp⟩:=jq (l:=g.L) (k:=i) bc
  have hn:=jie hp ha
  have hb:=jif (A:=A.take i) hsz
  rw[List.length_take] at hb
  have hps:=hsz p (List.mem_of_getElem? hp)
  cases a with
  |true=>
   rw[if_pos rfl] at hn;refine yr44 ?_;exact KE.again ⟨i+1,n+p.size⟩ jg ja ⟨hlt,by dsimp only;rw [hn,hu]⟩ bI
  |false=>
   rw[if_neg bn,Nat.add_zero] at hn;refine jbf ?_;exact KE.again ⟨i+1,n⟩ jg ja ⟨hlt,by dsimp only;rw [hn,hu];rfl⟩ bI
 ·have hlt': ¬((i:Nat):Int)<((A.length:Nat):Int):=by omega
  rw[List.take_of_length_le bc] at hu;refine yr23 ?_;exact KE.fin jd rfl jc ja ⟨by rw[hu];rfl,rfl⟩
theorem rbWord_K {i:Int} (hB:BoD w0 D v vr g R) (hf:BoF g R t x) (hy:g.L[s]?=some y):
  Cs w0 138 [.agg (boL v g vr t).toArray, .int .i64 (s:Nat), .int .i64 i] (D++F) (.tuple [.int .u64 (wordP x y i).1, .int .i64 (wordP x y i).2].toArray):=by
 have ho:=hB.m.o
 have q1:=hB.p.oL
 have q2:=hB.p.oF
 have q3:=hB.p.oM
 have q4:=hB.p.oC
 have hfit:=hf.ok.fits hy
 have hww:=hf.ok.words
 have hlx:=hf.l
 have hfld:=fun A=>jeH (w0:=w0) (D:=D) (F:=A) (ref:=false) (i:=i) hB hf hy
 unfold wordP
 by_cases e:fldP x y false i=0
 ·obtain⟨p1,p2,p3⟩:=J7 e
  have hi1:(1:Int)+i=((1+i.toNat:Nat):Int):=by omega
  have hfa:y.addr+(1+i.toNat)=fAt y i:=by unfold fAt;omega
  have hld:=fun A=>je0 (w0:=w0) (D:=D) (F:=A) (i:=1+i.toNat) hB hf hy bc
  rw[hfa] at hld;simp only[e] at hfld;rw[if_pos e];unfold boL at*;refine en3 21 Tryz.func138 ?_
  (iterate 14 first|refine yS ?_|intro _)
  refine zq ?_;refine yq19 fun T hT=>?_;rw[hi1];refine(CallV.part (CallV.fn (hld _)) ja).mono ?_;rintro _ _ ⟨rfl,rfl⟩;refine ze ?_;clear hT T;refine yr5 ?_;exact zd
 ·rw[if_neg e]
  have hne:fldP x y false i≠0:=e
  obtain⟨fe,hfe⟩: ∃ fe,fe=fldP x y false i:=⟨_,rfl⟩
  simp only[<-hfe] at hfld hne|-;unfold boL at*;refine en3 21 Tryz.func138 ?_
  (iterate 14 first|refine yS ?_|intro _)
  refine zq ?_;refine yr20 ?_;exact zd
end
structure LkS where
 k:Nat
section
variable {w0 : World} {D F : jb} {v : Value} {L : List jk} {gens : Int}
theorem jmF (hS:Sli w0 D wE v L) (hv:v.oneCell'=true) (ok:StOk L):
  Cs w0 224 [.agg [v, .int .i64 gens].toArray, .string (stB 0)] (D++F) (.int .i64 (cntP 0 L:Nat)):=by
 have hl:=ok.1
 refine en2 25 Tryz.func224 ?_;refine yr3 ?_;intro b2;refine yr15 ?_;refine K.loopT (σ:=LkS) [(2,_)] (fun s kp_=>(6, .int .i64 (s.k:Nat))::(5, .int .i64 (cntP 0 (L.take s.k):Nat))::(1, .string (stB 0))::kp_) (fun s=>(b2,cells [v, .int .i64 gens] 45)::(D++F)) (fun s=>s.k<=L.length) (fun s=>L.length-s.k) (⟨0⟩) jg ja (Nat.zero_le _) ?_;rintro⟨k⟩ hk;dsimp only at hk|-
 by_cases hlt:k<L.length
 ·have hlt':((k:Nat):Int)<((L.length:Nat):Int):=by omega
  obtain⟨e,he⟩:=jq hlt
  have heb:=ok.2 e (List.mem_of_getElem? he)
  have hn:cntP 0 (L.take (k+1))=cntP 0 (L.take k)+if e.st=0 then 1 else 0:=by
   unfold cntP;rw[List.take_add_one,he]
   simp[List.countP_append,List.countP_cons]
  have hb:cntP 0 (L.take k)<=1024:=Nat.le_trans List.countP_le_length bK
  by_cases h0:e.st=0
  ·have h1:(stB e.st.toNat).1.toList=(stB 0).1.toList:=by rw[h0];rfl
   rw[if_pos h0] at hn;refine yr40 ?_;exact zcd
  ·have h1: ¬(stB e.st.toNat).1.toList=(stB 0).1.toList:=jkr heb h0
   rw[if_neg h0,Nat.add_zero] at hn;refine yr36 ?_;exact zcd
 ·have hlt': ¬((k:Nat):Int)<((L.length:Nat):Int):=by omega
  rw[List.take_of_length_le bc];refine yr23 ?_;exact zd
theorem rLookA_K {i n:Nat} (hS:Sli w0 D wE v L) (hv:v.oneCell'=true) (ok:StOk L):
  Cs w0 137 [.agg [v, .int .i64 gens].toArray, .int .i64 (i:Nat), .int .u32 (n:Nat)] (D++F) (.tuple [.int .i64 (((J2 L (i:Nat) (n:Nat)).map (·.slot)).getD 0), .int .i64 (if (J2 L (i:Nat) (n:Nat)).isSome=true then 0 else 130)].toArray):=by
 have hl:=ok.1
 have hN:J2 L (i:Nat) (n:Nat)=match L[i]? with|some e=>if e.st=1/\e.gen=(n:Nat) then some e else none|none=>none:=by
  unfold J2;rw [if_pos bc,Int.toNat_natCast];rfl
 cases hn:J2 L (i:Nat) (n:Nat) with
 |some e=>
  have he:L[i]?=some e/\e.st=1/\e.gen=(n:Nat):=by
   rw[hn] at hN
   cases hT:L[i]? with
   |none=>rw [hT] at hN;cases hN
   |some q=>
    rw[hT] at hN;dsimp only at hN
    split at hN
    ·rename_i h1;cases hN;exact⟨rfl,h1⟩
    ·cases hN
  have:=jkG (w0:=w0) (F:=F) (gens:=gens) hS hv hl he.1 he.2.1
  rw[he.2.2] at this;exact this
 |none=>
  simp only[Option.map_none,Option.getD_none,Option.isSome_none,Bool.false_eq_true,if_false]
  have hno: ∀ e,L[i]?=some e->e.st=1-> ¬e.gen=(n:Nat):=fun e he h1 h2=>by
   rw[hn,he] at hN;dsimp only at hN;rw[if_pos ⟨h1,h2⟩] at hN
   cases hN
  refine en3 44 Tryz.func137 ?_;refine yr3 ?_;intro b3;refine yr11 ?_;refine K.loopT (σ:=LkS) [(1,_),(2,_),(3,_)] (fun s kp_=>(8, .int .i64 (s.k:Nat))::kp_) (fun s=>(b3,cells [v, .int .i64 gens] 45)::(D++F)) (fun s=>s.k<=L.length) (fun s=>L.length-s.k) (⟨0⟩) jg ja (Nat.zero_le _) ?_;rintro⟨k⟩ hk;dsimp only at hk|-
  by_cases hlt:k<L.length
  ·have hlt':((k:Nat):Int)<((L.length:Nat):Int):=by omega
   obtain⟨e,he⟩:=jq hlt
   have heb:=ok.2 e (List.mem_of_getElem? he)
   by_cases hki:k=i
   ·subst hki
    have h3:((k:Nat):Int)=(k:Nat):=rfl
    by_cases h1:e.st=1
    ·have h2:(stB e.st.toNat).1.toList=[108,105,118,101]:=by rw[h1];rfl
     have h4: ¬e.gen=(n:Nat):=hno e he h1
     refine yr50 ?_;exact zby
    ·have h2: ¬(stB e.st.toNat).1.toList=[108,105,118,101]:=jkq heb h1
     refine yr50 ?_;exact zby
   ·have h3: ¬((k:Nat):Int)=(i:Nat):=by omega
    refine yr50 ?_;exact zby
  ·have hlt': ¬((k:Nat):Int)<((L.length:Nat):Int):=by omega
   refine yr23 ?_;exact zd
theorem cnt_doc {T:List jk} {a:Int}:cntP a (T.map j5)=cntP a T:=by
 unfold cntP;rw[List.countP_map]
 congr 1
 funext e
 show decide ((j5 e).st=a)=_
 rw[(jbn e).1]
theorem jmN {T:List jk} {i n:Nat}:(J2 (T.map j5) (i:Nat) (n:Nat))=J2 T (i:Nat) (n:Nat):=by
 unfold J2;rw[if_pos bc,Int.toNat_natCast,List.getElem?_map]
 cases T[i]? with
 |none=>rfl
 |some e=>
  show(if (j5 e).st=1/\(j5 e).gen=(n:Nat) then some (j5 e) else none)=if e.st=1/\e.gen=(n:Nat) then some e else none
  rw[(jbn e).1,(jbn e).2]
  by_cases h:e.st=1/\e.gen=(n:Nat)
  ·rw[if_pos h,if_pos h];unfold j5;rw [if_pos h.1]
  ·rw[if_neg h,if_neg h]
theorem rPin2_K {vn:Value} {l:List Int} {s:Nat} (hN:Sli w0 D iE vn l) (hv:vn.oneCell'=true) (hs:s<l.length) (hl:l.length<=65536) (hb: ∀ v∈l,0<=v/\v<=255):
  Call Tryz.prog w0 70 [vn, .int .i64 (s:Nat)] (D++F) (fun r H'=> ∃ (vn':Value) (N:jb),Sli w0 (N++D) iE vn' (JQ l s)/\vn'.oneCell'=true/\r= .tuple [vn', .int .i64 (if (l[s]?).getD 0<255 then 0 else 140)].toArray/\H'=N++(D++F)):=by
 obtain⟨z,hz⟩:=jq hs
 have hzb:=hb z (List.mem_of_getElem? hz)
 have hge: ¬((s:Nat):Int)>=(l.length:Nat):=by omega
 have hp:JQ l s=if z<255 then l.set s (z+1) else l:=by unfold JQ;rw [hz];rfl
 have hg:(l[s]?).getD 0=z:=by rw[hz];rfl
 rw[hg]
 by_cases h:z<255
 ·rw[hp,if_pos h,if_pos h]
  have h': ¬z>=255:=by omega
  refine en2 32 Tryz.func70 ?_
  (iterate 40 first|refine yS ?_|intro _)
  refine KL.e rfl (Eff.appLit (E:=iE) (ys:=l) rfl rfl rfl rfl rfl rfl rfl jK ba be rfl) ?_;rintro _ _ ⟨o',ok',rfl,rfl⟩;refine yr22 ?_;refine KE.fin (H':=oH iE 3 (l.set s (z+1)) o'++(D++F)) jd rfl jc ja ⟨oV o' l.length,_,Sli.own jt (ok'.set s _) bF,jJ _ _,rfl,rfl⟩
 ·rw[hp,if_neg h,if_neg h]
  have h':z>=255:=by omega
  refine en2 32 Tryz.func70 ?_;refine yr42 ?_;exact KE.fin jd rfl jc ja ⟨vn,[],hN,hv,rfl,rfl⟩
