/-The walker and the contracts that the law needs,part 28. -/
import Derived.Test.YtebiafomiemgbaaGreatDoorJ27
set_option linter.unusedVariables false set_option linter.unusedSimpArgs false set_option linter.unusedVariables false
set_option linter.unusedSimpArgs false
namespace Go.Proofs.YtebiafomiemgbaaGreatDoor.Sw
set_option maxHeartbeats 8000000
open Go.Proofs.YtebiafomiemgbaaGreatDoor renaming lo → qL, hi → qH
open Go.RowKit
set_option maxRecDepth 10000
def jeS (c:Cfg):Bool:=decide (c.cl.length≤50)&&decide (c.tn.length≤50)
theorem Small_K {w0:World} {H:jb} {c:Cfg} {vc vt:Value} (hR:Jc w0 H c vc vt):
  Call Tryz.prog w0 48 [jr c vc vt] H (fun r H'=>r= .bool (jeS c)∧H'=H):=by
 obtain⟨hS,hT',o1,o2,l1,l2⟩:=hR
 obtain⟨cl,page,tn,workers,grey,gens⟩:=c
 dsimp only at hS hT' l1 l2;simp only[jr,jG]
 have hd:jeS ⟨cl,page,tn,workers,grey,gens⟩=(decide (cl.length≤50)&&decide (tn.length≤50)):=rfl
 refine Call.enter1 (n:=13) (by rfl) Tryz.func48 rfl rfl rfl ?_
 by_cases h1:cl.length≤50
 ·by_cases h2:tn.length≤50
  ·have he:jeS ⟨cl,page,tn,workers,grey,gens⟩=true:=by grind
   refine zbN ?_;intro b1;refine zjZ ?_;refine zec ?_;refine zQ ?_;refine ziD ?_;refine zec ?_;refine zdh ?_;exact zfD
  ·have he:jeS ⟨cl,page,tn,workers,grey,gens⟩=false:=by grind
   refine zbN ?_;intro b1;refine zjZ ?_;refine zec ?_;refine zQ ?_;refine ziD ?_;refine zhN ?_;refine zdh ?_;exact zfD
 ·have he:jeS ⟨cl,page,tn,workers,grey,gens⟩=false:=by grind
  refine zbN ?_;intro b1;refine zjZ ?_;refine zhN ?_;refine zdT ?_;refine zcA ?_;exact zfD
set_option maxRecDepth 10000
theorem bNew_K {w0:World} {F:jb} {m:Ju} {t:Nat} {p:jZ} {x:List Int} (okm:jak m) (hr:m.R[t]?=some x) (ok:jaS p) (hn:x.length=p.g.words) (hw:jac x):
  Call Tryz.prog w0 109 [.pointer (some ⟨m.b,0,none⟩), .int .i64 (t:Nat), .pointer (some ⟨p.b,0,none⟩)] (jy m++(planH p++F)) (fun r H'=> ∃ B:BoM,jaD B x∧B.m=m∧B.t=t∧B.p=p∧r= .tuple [.pointer (some ⟨B.b,0,none⟩), .int .i64 0].toArray∧H'=jT B++(jy m++(planH p++F))):=by
 have hs:=ok.g.slots
 have hne: ¬((p.g.slots:Nat):Int)=0:=by omega
 have hne2: ¬((x.length:Nat):Int)≠(p.g.words:Nat):=by omega
 refine Call.enter3 (n:=39) (by rfl) Tryz.func109 rfl rfl rfl ?_;refine zlA ?_;refine jB (Words_K okm hr) ja ?_;rintro _ _ ⟨o,ko,rfl,rfl⟩;refine znz ?_;refine zC ?_;refine zev ?_;refine jn (jeI ok) ja ?_;refine zl ?_;refine zC ?_;refine zx ?_;refine zd0 ?_;refine zfh ?_;refine ze9 ?_;refine zQ ?_;refine zp ?_;refine jn (Words0_K ok) ja ?_;refine zl ?_;refine zcz ?_;refine zbA ?_;refine zB ?_;refine zj ?_;refine zgK ?_;intro b38;exact KE.fin (H':=jT ⟨b38,m,t,p⟩++(jy m++(planH p++F))) je rfl jd (by rw[jbn];exact ja) ⟨⟨b38,m,t,p⟩,⟨okm,ok,hr,hn,hw⟩,rfl,rfl,rfl,rfl,rfl⟩
set_option maxRecDepth 10000
theorem clip_eq (n:Nat):(if (4611686018427387904:Int)<(if ((n:Nat):Int)<0 then 0 else((n:Nat):Int)) then 4611686018427387904 else(if ((n:Nat):Int)<0 then 0 else((n:Nat):Int)))=((min n M62:Nat):Int):=by
 grind[M62]
theorem clip_K {w0:World} {H:jb} {n:Nat}:Call Tryz.prog w0 331 [.int .i64 (n:Nat)] H (fun r H'=>r= .int .i64 (min n M62:Nat)∧H'=H):=by
 refine Call.enter1 (n:=6) (by rfl) Tryz.func331 rfl rfl rfl ?_;refine zfT ?_;refine KL.v rfl (Val.max rfl rfl) ?_;refine KL.v rfl (Val.min rfl rfl) ?_;refine zm ?_;exact KE.fin je rfl jd ja ⟨by rw[clip_eq];rfl,rfl⟩
theorem jgS {w0:World} {H:jb} {a b:Nat} (ha:a≤M62) (hb:b≤M62):Call Tryz.prog w0 306 [.int .i64 (a:Nat), .int .i64 (b:Nat)] H (fun r H'=>r= .int .i64 (satA a b:Nat)∧H'=H):=by
 have hM:M62=4611686018427387904:=rfl
 by_cases h1:a+b<9223372036854775808
 ·have e1:((a:Nat):Int)+((b:Nat):Int)=((a+b:Nat):Int):=by omega
  have h2: ¬((a:Nat):Int)<0:=by omega
  have h3: ¬((a+b:Nat):Int)<0:=by omega
  have hc:=fun A=>clip_K (w0:=w0) (H:=A) (n:=a+b)
  have hs:min (a+b) M62=satA a b:=rfl
  rw[hs] at hc
  by_cases ha0:((a:Nat):Int)>0
  ·by_cases hb0:((b:Nat):Int)>0
   ·refine zov ?_;refine zc6 ?_;refine zaB ?_;refine zU ?_;rw[e1];refine zp0 ?_;refine zaG ?_;refine zX ?_;refine zaG ?_;refine zcx ?_;refine zW ?_;refine zA ?_;refine zck ?_;refine zb1 ?_;refine zbA ?_;refine zn ?_;refine jp (hc _) ?_;exact zq
   ·refine zov ?_;refine zc6 ?_;refine zaB ?_;refine zU ?_;rw[e1];refine zp0 ?_;refine zaG ?_;refine zX ?_;refine zti ?_;refine zb1 ?_;refine zck ?_;refine zb1 ?_;refine zbA ?_;refine zn ?_;refine jp (hc _) ?_;exact zq
  ·refine zov ?_;refine zc6 ?_;refine zaB ?_;refine zU ?_;rw[e1];refine zp0 ?_;refine zaA ?_;refine zb1 ?_;refine zb1 ?_;refine zck ?_;refine zb1 ?_;refine zbA ?_;refine zn ?_;refine jp (hc _) ?_;exact zq
 ·have e1:a=4611686018427387904:=by omega
  have e2:b=4611686018427387904:=by omega
  subst e1 e2
  have hs:satA 4611686018427387904 4611686018427387904=4611686018427387904:=by decide
  rw[hs];refine zov ?_;refine zc6 ?_;refine KL.v rfl (Val.addW rfl rfl) ?_;refine zU ?_;rw[show IntKind.i64.wrap (((4611686018427387904:Nat):Int)+((4611686018427387904:Nat):Int))= -9223372036854775808 by decide];refine zp0 ?_;refine zaG ?_;refine zX ?_;refine zaG ?_;refine zcx ?_;refine zI ?_;refine zA ?_;refine zd5 ?_;refine znq ?_;exact zH
theorem satSub_K {w0:World} {H:jb} {a:Nat} (ha:a≤M62):Call Tryz.prog w0 308 [.int .i64 (a:Nat), .int .i64 1] H (fun r H'=>r= .int .i64 (a-1:Nat)∧H'=H):=by
 have hM:M62=4611686018427387904:=rfl
 by_cases h1:((a:Nat):Int)≤1
 ·have hs:((a-1:Nat):Int)=0:=by omega
  rw[hs];refine Call.enter2 (n:=18) (by rfl) Tryz.func308 rfl rfl rfl ?_;refine zc6 ?_;refine zc0 ?_;refine zt ?_;refine zeh ?_;refine zB ?_;refine zec ?_;refine zd5 ?_;refine zm ?_;refine zef ?_;exact zH
 ·have e1:((a:Nat):Int)-1=((a-1:Nat):Int):=by omega
  have h3: ¬((a-1:Nat):Int)<0:=by omega
  have hc:=fun A=>clip_K (w0:=w0) (H:=A) (n:=a-1)
  rw[show min (a-1) M62=a-1 by omega] at hc;refine Call.enter2 (n:=18) (by rfl) Tryz.func308 rfl rfl rfl ?_;refine zc6 ?_;refine zc0 ?_;refine zt ?_;refine zeh ?_;refine zB ?_;refine zhN ?_;refine zck ?_;refine zt ?_;refine zlG ?_;rw[e1];refine zG ?_;refine zn ?_;refine jp (hc _) ?_;refine zm ?_;refine zef ?_;exact zH
theorem jka {w0:World} {H:jb} {n:Nat} (hn:n<9223372036854775808):Call Tryz.prog w0 343 [.int .i64 (n:Nat)] H (fun r H'=>r= .tuple [.int .u64 (n:Nat), .bool false].toArray∧H'=H):=by
 have h3: ¬((n:Nat):Int)<0:=by omega
 refine Call.enter1 (n:=11) (by rfl) Tryz.func343 rfl rfl rfl ?_;refine zL ?_;refine zad ?_;refine zW ?_;refine zba ?_;refine zaT ?_;exact zb5
theorem mul1_K {w0:World} {H:jb} {n:Nat}:Call Tryz.prog w0 333 [.int .u64 0, .int .u64 (n:Nat)] H (fun r H'=>r= .int .u64 (n:Nat)∧H'=H):=by
 refine Call.enter2 (n:=8) (by rfl) Tryz.func333 rfl rfl rfl ?_;refine zai ?_;refine zaA ?_;refine zba ?_;exact zq
theorem mul64_K {w0:World} {H:jb} (x y:Nat) (hx:x<18446744073709551616) (hy:y<18446744073709551616):
  Call Tryz.prog w0 221 [.int .u64 x, .int .u64 y] H (fun r H'=>r= .tuple #[.int .u64 ((x*y/18446744073709551616:Nat):Int), .int .u64 ((x*y%18446744073709551616:Nat):Int)]∧H'=H):=by
 refine⟨by rfl,fun w hw=>?_⟩;refine(Tryz.bits_Mul64 x y hx hy w).mono ?_;rintro e w' ⟨he,rfl⟩;exact⟨_,_,he,hw,rfl,rfl⟩
theorem jl1 {w0:World} {H:jb} {a b:Nat} (ha:a≤1048576) (hb:b≤1048576):Call Tryz.prog w0 332 [.int .i64 (a:Nat), .int .i64 (b:Nat), .func (.func 333) #[] #[]] H (fun r H'=>r= .int .i64 (a*b:Nat)∧H'=H):=by
 have hab:a*b≤1048576*1048576:=Nat.mul_le_mul ha hb
 have s1:=fun A=>jka (w0:=w0) (H:=A) (n:=a) (by omega)
 have s2:=fun A=>jka (w0:=w0) (H:=A) (n:=b) (by omega)
 have hm:=fun A=>mul64_K (w0:=w0) (H:=A) a b (by omega) (by omega)
 obtain⟨p,hp⟩: ∃ p,p=a*b:=⟨_,rfl⟩
 rw[←hp] at hab hm⊢;rw[show p/18446744073709551616=0 by omega,show p%18446744073709551616=p by omega] at hm;refine Call.enter3 (n:=41) (by rfl) Tryz.func332 rfl rfl rfl ?_;refine zbL ?_;refine jp (s1 _) ?_;refine zY ?_;refine zch ?_;refine jp (s2 _) ?_
 by_cases h1:((a:Nat):Int)=0
 ·have:p=0:=by grind
  subst this;refine zY ?_;refine zeD ?_;refine zi8 ?_;refine zX ?_;refine zO ?_;refine zx ?_;refine zcN ?_;refine zbh ?_;exact zaL
 ·by_cases h2:((b:Nat):Int)=0
  ·have:p=0:=by grind
   subst this;refine zY ?_;refine zeD ?_;refine zi8 ?_;refine zX ?_;refine zC ?_;refine zx ?_;refine zX ?_;refine zO ?_;refine za8 ?_;exact zaL
  ·(refine KL.v rfl (Val.move rfl) ?_)
   refine zh4 ?_;refine zt ?_;refine zeD ?_;refine zi8 ?_;refine zX ?_;refine zC ?_;refine zx ?_;refine zX ?_;refine zC ?_;refine zaX ?_;refine zB ?_;refine zn ?_;refine jp (hm _) ?_;refine zh4 ?_;refine zp ?_;refine jp (mul1_K (n:=p)) ?_
   have e5:(if (4611686018427387904:Int)<((p:Nat):Int) then 4611686018427387904 else((p:Nat):Int))=((p:Nat):Int):=if_neg (by omega)
   refine KL.v rfl (Val.min rfl rfl) ?_;refine zaT ?_;refine zm ?_;exact KE.fin je rfl jd ja ⟨by simp only[e5];rfl,rfl⟩
theorem satMul_K {w0:World} {H:jb} {a b:Nat} (ha:a≤1048576) (hb:b≤1048576):Call Tryz.prog w0 307 [.int .i64 (a:Nat), .int .i64 (b:Nat)] H (fun r H'=>r= .int .i64 (a*b:Nat)∧H'=H):=by
 refine Call.enter2 (n:=8) (by rfl) Tryz.func307 rfl rfl rfl ?_;refine zde ?_;refine jp (jl1 ha hb) ?_;exact zq
end Go.Proofs.YtebiafomiemgbaaGreatDoor.Sw
namespace Go.Proofs.YtebiafomiemgbaaGreatDoor
open Go.RowKit
section
variable {P : Program} {w0 : World} {ro : Option Nat} {n : Nat} {Q : Exit → Act → World → Prop} {ds : List Deferred} {m : jk} {H R : jb} {ops : Array Oper} {ord : Ord}
variable {ty : TypeId} {pos : String} {af : Array Edge}
theorem KD.callcM {i d:Nat} {f:Operand} {as0:List Operand} {ts:Array TypeId} {fv:Value} {vs:List Value} (hi:ops[i]?=some ⟨some d, .call {callee:= .value f,args:=as0.toArray,argTypes:=ts},ty,pos,af,none⟩) (hd:Nat.blt d n=true) (hf:evO m f=some fv) (ha:EvL m as0 vs)
  (h: ∀ T:Ji,(∀ v H',Part H' H→KD P w0 ro n ops R ord Q ds ((d,v)::m) H'→T v H')→CallV P w0 fv vs H T):KD P w0 ro n ops R ((i,5)::ord) Q ds m H:=
 KD.eM hi hd (Eff.call hf ha (h (fun v H'=>Part H' H∧KD P w0 ro n ops R ord Q ds ((d,v)::m) H') fun _ _ p k=>⟨p,k⟩)) fun _ _ k=>k
end
end Go.Proofs.YtebiafomiemgbaaGreatDoor
namespace Go.Proofs.YtebiafomiemgbaaGreatDoor.Sw
open Go.Proofs.YtebiafomiemgbaaGreatDoor renaming lo → qL, hi → qH
set_option maxRecDepth 10000
theorem used_nil (l:List jq):usedL l []=0:=by cases l<;>rfl
theorem jj0: ∀ (f:Nat) (l:List jq) (A:List Bool),usedL (l.drop f) (A.drop f)≤usedL l A
 |0,l,A=>Nat.le_refl _
 |f+1,[],A=>by simp[usedL]
 |f+1,p::l,[]=>by grind[used_nil]
 |f+1,p::l,a::A=>by
  have:=jj0 f l A
  grind[usedL]
theorem jkT {z:Nat}: ∀ (n:Nat) (l:List jq) (A:List Bool),(∀ d,d<n→A[d]?=some true∧ ∃ p,l[d]?=some p∧p.size=z)→n*z≤usedL l A
 |0,l,A,_=>by simp
 |n+1,[],A,h=>by obtain⟨_,p,hp,_⟩:=h 0 (by omega);grind
 |n+1,p::l,[],h=>by obtain⟨h1,_⟩:=h 0 (by omega);grind
 |n+1,p::l,a::A,h=>by
  obtain⟨h1,q,h2,h3⟩:=h 0 (by omega)
  have ih:=jkT n l A fun d hd=>by simpa using h (d+1) (by omega)
  grind[usedL]
theorem take_fits {g:PlG} {A:List Bool} (ok:jg g) (hA:A.length=g.slots) {k:Nat} (hk:k<g.m) (hf:usedL g.L A+g.y k≤g.q):(takeP g A (k:Nat)).2.1=0:=by
 unfold takeP;rw[if_pos ⟨by omega,by omega⟩,Int.toNat_natCast]
 cases hp:jb8 A (g.first k) (g.n k) with
 |some i=>rfl
 |none=>
  exfalso
  have hno:=jkC hp
  have h1:=jj0 (g.first k) g.L A
  have h2:=jkT (z:=g.y k) (g.n k) (g.L.drop (g.first k)) (A.drop (g.first k)) fun d hd=>by
   have hL:=L_get hk hd
   have hl:=jv hL
   rw[jdU,←hA] at hl;refine⟨?_,g.sl k d,by rw[List.getElem?_drop];exact hL,rfl⟩;rw[List.getElem?_drop]
   rcases bit_some hl with e|e
   ·exact e
   ·exact absurd e (hno _ (by omega) (by omega))
  have hy:=(ok.y k hk).1
  have h3:g.n k=g.q/g.y k:=rfl
  have h4:=Nat.div_add_mod g.q (g.y k)
  have h5:=Nat.mod_lt g.q (show 0<g.y k by omega)
  rw[h3,Nat.mul_comm] at h2
  omega
theorem freeB_some {s:CyP} (h:Jt s=true):(JM s.W.T).isSome=true:=by
 simp_all[Jt,j6,JM]
section
variable {C : HpC} {wr : Bool} {h h' : HpP} {s s' : CyP} {n : Nat}
theorem fin_mvs {p:PaP} {wk:Nat} (a:jba C.g C.long s n s'):Jh C wr ⟨s,p,wk⟩ ⟨s',p,wk⟩:=by
 induction a with
 |refl=>exact .refl
 |snoc _ b ih=>exact ih.tail (.help (h:=⟨_,p,wk⟩) b)
theorem jfv (hC:HpCk C) (hI:HeI C h) (h0:h.s.ph≠0):Jh C wr h (jbl C h):=
 (fin_mvs (p:=h.p) (wk:=h.wk) jfl).tail (.publish (h:=⟨(finC C.g C.long h.s).2,h.p,h.wk⟩) (jgf hC.g hI.ok h0))
theorem HeI.mvs (hC:HpCk C) (m:Jh C wr h h') (hI:HeI C h):HeI C h':=m.ind (fun _ _ m h=>h.mv hC m) hI
theorem jh4 (hC:HpCk C) (hI:HeI C h) {is:CyP→Bool}:Jh C wr h (ja5 C is h):=by
 unfold ja5
 split
 ·grind[h1,jfv]
 ·exact .refl
theorem jgT {is:CyP→Bool} (h1: ¬is (ja5 C is h).s=true):(ja5 C is h).s.ph=0:=by
 unfold ja5 at h1⊢
 split
 ·rfl
 grind
theorem jcR (hC:HpCk C) (hI:HeI C h) {is:CyP→Bool}:Jh C wr h (jaQ C is h):=by
 have m1:=jh4 (wr:=wr) hC hI (is:=is)
 unfold jaQ
 split
 ·omega
 ·rename_i h1
  have h0:=jgT h1
  have m2:=m1.tail (.begin h0)
  exact m2.trans (jfv hC (hI.mvs hC m2) (show(1:Nat)≠0 by decide))
structure jaZ (g:PlG) (s s':CyP):Prop where
 r: ∀ t,RchM g s.W t→RchM g s'.W t
 w: ∀ t,RchM g s.W t→jR g s.W.x s'.W.x t
 t: ∀ k,slotT s'.W.T k=slotT s.W.T k
 nm: ∀ i n,namedT s'.W.T i n=namedT s.W.T i n
 N:s'.W.N=s.W.N
theorem jaZ.refl {g:PlG}:jaZ g s s:=⟨fun _ h=>h,fun _ _=>jR.refl,fun _=>rfl,fun _ _=>rfl,rfl⟩
theorem jaZ.trans {g:PlG} {s'':CyP} (a:jaZ g s s') (b:jaZ g s' s''):jaZ g s s'':=
 ⟨fun t h=>b.r t (a.r t h),fun t h=>(a.w t h).trans (b.w t (a.r t h)),fun k=>(b.t k).trans (a.t k),fun i n=>(b.nm i n).trans (a.nm i n),b.N.trans a.N⟩
theorem jmF {T:List jl} {gn k:Int}:slotT (j5 gn T) k=slotT T k:=by
 grind[slotT,j5,jah]
theorem jmG {T:List jl} {gn i n:Int}:namedT (j5 gn T) i n=namedT T i n:=by
 grind[namedT,j5,jah]
theorem end_W (hC:HpCk C) (hI:HeI C h) (h0:h.s.ph≠0):jaZ C.g h.s (jbl C h).s:=by
 obtain⟨S0,A0,hi⟩:=hI.i1 h0
 have hw:=fin_W hC.g hI.ok hi
 have hs: ∀ t,RchM C.g h.s.W t→jR C.g h.s.W.x (jbl C h).s.W.x t:=fun t ht=>hw.w t (hi.cl.rch ht)
 have hT:(jbl C h).s.W.T=j5 C.gn h.s.W.T:=by show j5 C.gn (finC C.g C.long h.s).2.W.T=_;rw [hw.T]
 exact⟨fun t ht=>rch_next hC.g hT hw.N hs ht,hs,fun k=>by grind[jmF],fun i n=>by grind[jmG],hw.N⟩
theorem jjn:jaZ C.g h.s (jbq C h).s:=⟨fun _ h=>h,fun _ _=>jR.refl,fun _=>rfl,fun _ _=>rfl,rfl⟩
theorem room1_W (hC:HpCk C) (hI:HeI C h) {is:CyP→Bool}:jaZ C.g h.s (ja5 C is h).s:=by
 unfold ja5
 split
 ·grind[h1,end_W]
 ·exact .refl
theorem jhq (hC:HpCk C) (hI:HeI C h) {is:CyP→Bool}:jaZ C.g h.s (jaQ C is h).s:=by
 have m1:=jh4 (wr:=true) hC hI (is:=is)
 unfold jaQ
 split
 ·grind[room1_W]
 ·rename_i h1
  have h0:=jgT h1
  exact((room1_W hC hI).trans jjn).trans (end_W hC (hI.mvs hC (m1.tail (.begin h0))) (show(1:Nat)≠0 by decide))
theorem jgV: ∀ (d:Nat) (h:HpP),d≤h.p.debt→Jh C wr h (jaR C d h)
 |0,h,_=> .refl
 |d+1,h,hd=>by
  unfold jaR
  cases hh:j8 C.g C.long h.s with
  |none=>exact .refl
  |some s'=>
   have m1:Jh C wr h ⟨s',{h.p with debt:=d},h.wk+1⟩:=(HpMv.one (.help hh)).tail (.free (h:={h with s:=s'}) rfl fun hb=>⟨hb.s,hb.t,by have:=hb.d;grind,hb.c⟩)
   exact m1.trans (jgV d _ (Nat.le_refl _))
theorem jf0: ∀ (d:Nat) (h:HpP),(jaR C d h).p.act=h.p.act
 |0,h=>rfl
 |d+1,h=>by
  unfold jaR
  cases hh:j8 C.g C.long h.s with
  |none=>rfl
  |some s'=>exact(jf0 d _).trans rfl
theorem due_mvs (hC:HpCk C) (hI:HeI C h) {due:Nat} (h1:due=1→h.p.act=false) (h2:due=2→h.p.act=true):Jh C wr h (je1 C due h):=by
 have hp:=hI.pa
 unfold je1
 split
 ·rename_i e
  rw[h1 e] at hp;exact HpMv.one (.begin (Classical.byContradiction fun e=>by grind))
 ·split
  ·grind[h2,jfv]
  ·exact .refl
theorem jfx {tr ast n:Nat} {p:PaP}:((Jz tr ast n p).1=1→p.act=false)∧((Jz tr ast n p).1=2→p.act=true):=by
 grind[Jz]
theorem paced_mvs (hC:HpCk C) (hI:HeI C h):Jh C wr h (jdf C n h):=by
 have m1:Jh C wr h {h with p:=(Jz C.tr C.ast n h.p).2}:=HpMv.one (.free rfl fun hb=>hb.ask _ _ _)
 have m2:=m1.trans (jgV (Jz C.tr C.ast n h.p).2.debt {h with p:=(Jz C.tr C.ast n h.p).2} (Nat.le_refl _))
 have ha:(jaR C (Jz C.tr C.ast n h.p).2.debt {h with p:=(Jz C.tr C.ast n h.p).2}).p.act=h.p.act:=(jf0 _ _).trans rfl
 exact m2.trans (due_mvs hC (hI.mvs hC m2) (fun e=>ha.trans (jfx.1 e)) fun e=>ha.trans (jfx.2 e))
theorem jfe {g:PlG} {need:Int} (h: ¬classI g need=g.cl.length):classI g need<g.m:=by
 have:classI g need≤g.cl.length:=List.findIdx_le_length
 show _<g.cl.length
 omega
theorem jgK (hC:HpCk C) (hI:HeI C h) {k:Nat} (hk:k<C.g.m) (hf:fitsB C.g (C.g.y k) h.s=true):(takeP C.g h.s.A (k:Nat)).2.1=0:=take_fits hC.g hI.ok.A hk (of_decide_eq_true hf)
theorem not_false' {b:Bool} (h: ¬b=false):b=true:=by grind
theorem jkE (hC:HpCk C) (hI:HeI C h) {k:Nat} (hk:k<C.g.m) (hf:fitsB C.g (C.g.y k) h.s=true):usedL C.g.L (takeP C.g h.s.A (k:Nat)).2.2≤C.g.q:=by
 have hu:usedL C.g.L h.s.A+C.g.y k≤C.g.q:=of_decide_eq_true hf
 obtain⟨k',j,ek,hk',hfr,ht,hjl⟩:=jew (jgK hC hI hk hf)
 obtain⟨g1,g2,g3,_⟩:=jdY hfr
 have ek':k'=k:=by omega
 subst ek'
 have hL:C.g.L[j]?=some (C.g.sl k' (j-C.g.first k')):=by
  have:=L_get (g:=C.g) (k:=k') (d:=j-C.g.first k') hk (by omega)
  grind
 have h1:=jfX (A:=h.s.A) true hL hjl
 rw[if_neg (by grind),if_pos rfl] at h1;rw[ht];dsimp only
 have h2:(C.g.sl k' (j-C.g.first k')).size=C.g.y k':=rfl
 omega
theorem class_fits {g:PlG} {need:Int} (h: ¬classI g need=g.cl.length):need≤(g.y (classI g need):Nat):=by
 grind[classI,PlG.y]
theorem ji1 (hC:HpCk C) (hI:HeI C h) {a b:Int} (hm:JT ⟨0,a,b⟩=true) (hk: ¬classI C.g (a+b+1)=C.g.cl.length) (h2:fitsB C.g (C.g.y (classI C.g (a+b+1))) h.s=true):
  ∃ (j:Nat) (y:jq),takeP C.g h.s.A (classI C.g (a+b+1):Nat)=(((j:Nat):Int),0,h.s.A.set j true)∧h.s.A[j]?=some false∧C.g.L[j]?=some y∧y.cls=classI C.g (a+b+1)∧y.size=C.g.y (classI C.g (a+b+1))∧JT ⟨(classI C.g (a+b+1):Nat),a,b⟩=true∧jaz y ⟨(classI C.g (a+b+1):Nat),a,b⟩=true:=by
 have ok:=hC.g
 have hkm:=jfe hk
 obtain⟨k',j,ek,hk',hf,ht,_⟩:=jew (jgK hC hI hkm h2)
 obtain⟨g1,g2,g3,_⟩:=jdY hf
 have ek':k'=classI C.g (a+b+1):=by omega
 subst ek'
 have hy:C.g.L[j]?=some (C.g.sl (classI C.g (a+b+1)) (j-C.g.first (classI C.g (a+b+1)))):=by
  have:=L_get (g:=C.g) (k:=classI C.g (a+b+1)) (d:=j-C.g.first (classI C.g (a+b+1))) hkm (by omega)
  grind
 have hmay:=jfA hm
 dsimp only at hmay
 have hmay2:JT ⟨(classI C.g (a+b+1):Nat),a,b⟩=true:=by
  unfold JT;refine decide_eq_true ⟨by grind,by have:=ok.m.2;grind,hmay.2.2.1,hmay.2.2.2.1,hmay.2.2.2.2.1,hmay.2.2.2.2.2⟩
 refine⟨j,_,ht,g3,hy,rfl,rfl,hmay2,?_⟩
 have:=class_fits hk
 unfold jaz;rw[hmay2];simp only[Bool.true_and,Bool.and_eq_true,decide_eq_true_eq];exact⟨rfl,by show a+b+1≤((C.g.y (classI C.g (a+b+1)):Nat):Int);omega⟩
theorem jdn (hC:HpCk C) (hI:HeI C h) {a b:Int} (hm:JT ⟨0,a,b⟩=true) (hk: ¬classI C.g (a+b+1)=C.g.cl.length) (h2:fitsB C.g (C.g.y (classI C.g (a+b+1))) h.s=true) (h3:Jt h.s=true):HpMv C wr h {h with s:=mkC C.g h.s (classI C.g (a+b+1):Nat) ⟨(classI C.g (a+b+1):Nat),a,b⟩}:=by
 obtain⟨j,y,ht,_,hy,_,_,_,hl⟩:=ji1 hC hI hm hk h2
 exact .make (jgK hC hI (jfe hk) h2) (freeB_some h3) (jkE hC hI (jfe hk) h2) (by grind[jW])
theorem jc7 (hC:HpCk C) (hI:HeI C h) {k:Nat}:Jh C wr h (allocR C h k):=jcR hC hI
theorem allocR_W (hC:HpCk C) (hI:HeI C h) {k:Nat}:jaZ C.g h.s (allocR C h k).s:=jhq hC hI
theorem alloc_mvs (hC:HpCk C) (hI:HeI C h) {a b:Int}:Jh C wr h (Jn C h a b).2:=by
 unfold Jn
 split
 ·exact .refl
 ·rename_i hm
  split
  ·exact .refl
  ·rename_i hk
   have m1:=jc7 (wr:=wr) hC hI (k:=classI C.g (a+b+1))
   have hI1:=hI.mvs hC m1
   split
   ·omega
   ·split
    ·omega
    ·rename_i h1 h2
     have m2:=jdn (wr:=wr) hC hI1 (not_false' hm) hk (not_false' h1) (not_false' h2)
     exact(m1.tail m2).trans (paced_mvs hC (hI1.mv hC m2))
theorem je9 {x:List Int} {y:jq} {i:Int} (h:(ja9 x y i).2=0):fldP x y (ja9 x y i).1 i=0∧ ∃ q,headP x y=some q:=by
 grind[ja9,fldP,headP,jbZ]
theorem jgj {g:PlG} {x:List Int} {y:jq} (hrf:jbA g x) (hy:g.L[n]?=some y) {i:Int} (h:fldP x y true i=0):(refP x g.slots y i).2=0:=by
 have:=hrf n y hy i h
 grind[refP]
theorem slot_named {tn:Nat} {T:List jl} {w:Nat} {sl:Int} (h:hpSlot tn T w=some sl):slotT T (capI w:Nat)=some sl:=by
 grind[hpSlot,namedT,slotT,capI]
theorem read_mvs (hC:HpCk C) (hI:HeI C h) {sl a k:Int} (hs:slotT h.s.W.T k=some sl):Jh C wr h (Jj C h sl a).2:=by
 obtain⟨j,rfl,hj⟩:=jbG (jaG hI.ok.w hs)
 obtain⟨y,hy⟩:=j9 hj
 unfold Jj;rw[jW hy]
 split
 ·exact .refl
 ·split
  ·exact .refl
  ·split
   ·exact .refl
   ·rename_i h1 h2 h3
    have m1:=jcR (wr:=wr) hC hI (is:=Jt)
    split
    ·omega
    ·rename_i h4
     have hW:=jhq hC hI (is:=Jt)
     have hf:=(je9 (x:=h.s.W.x) (y:=y) (i:=a) (Classical.byContradiction h1)).1
     rw[not_false' h2] at hf
     obtain⟨t,ht⟩: ∃ t:Nat,(refP h.s.W.x C.g.slots y a).1=(t:Nat):=⟨((refP h.s.W.x C.g.slots y a).1).toNat,by omega⟩
     have hr:refO C.g h.s.W.x ((j:Nat):Int) a=some ((t:Nat):Int):=by
      unfold refO;rw [jW hy,if_pos ⟨jgj hI.ok.rf hy hf,by omega⟩,ht]
     have hrj:RchM C.g h.s.W j:=jcr.slot hs
     rw[ht];exact m1.tail (.read (n:=j) (k:=k) (i:=a) ((hW.t k).trans hs) (by rw[jcF hC.g (hW.w j hrj)];omega) (freeB_some (not_false' h4)))
theorem jh2 {g:PlG} {long:Nat} {k sl:Int} (hs:slotT s.W.T k=some sl):doesC g long s ⟨4,k,0,0⟩={s with W:={s.W with N:=jav s.W.N sl.toNat}}:=by
 show(if 4%6<2 then _ else if 4%6=2 then _ else _)=_
 grind
theorem jhH {g:PlG} {long:Nat} {k sl:Int} (hs:slotT s.W.T k=some sl):doesC g long s ⟨5,k,0,0⟩={shdC g long s sl with W:={(shdC g long s sl).W with N:=jax (shdC g long s sl).W.N sl.toNat}}:=by
 show(if 5%6<2 then _ else if 5%6=2 then _ else _)=_
 grind
theorem jih {g:PlG} {long:Nat} {k sl:Int} (hs:slotT s.W.T k=some sl):doesC g long s ⟨3,k,0,0⟩={shdC g long s sl with W:={(shdC g long s sl).W with T:=Jk (shdC g long s sl).W.T k}}:=by
 show(if 3%6<2 then _ else if 3%6=2 then _ else _)=_
 grind
theorem jhJ {g:PlG} {long tn:Nat} {k a:Int} {j v:Nat} {y:jq} (hs:slotT s.W.T k=some ((j:Nat):Int)) (hy:g.L[j]?=some y) (hr0:(refP s.W.x g.slots y a).2=0) (h3: ¬(v≠0∧(hpSlot tn s.W.T v).isNone=true)):
  doesC g long s ⟨2,k,a,if v=0 then-1 else(capI v:Nat)⟩=jcD g (Jd g long (Jd g long s (refP s.W.x g.slots y a).1) (if v=0 then-1 else(hpSlot tn s.W.T v).getD (-1))) (j:Nat) a (if v=0 then-1 else(hpSlot tn s.W.T v).getD (-1)):=by
 show(if 2%6<2 then _ else if 2%6=2 then jbj _ _ _ _ else _)=_
 rw[if_neg (by decide),if_pos (by decide)];unfold jbj;rw[hs];dsimp only;rw[jW hy]
 by_cases h0:v=0
 ·rw[if_pos h0,if_pos h0,if_neg (fun q=>by omega),if_neg (fun q=>q hr0)]
  rfl
 ·obtain⟨to,hto⟩: ∃ to,hpSlot tn s.W.T v=some to:=by
   cases hq:hpSlot tn s.W.T v with
   |none=>grind
   |some to=>grind
  grind[toC,slot_named]
theorem write_mvs (hC:HpCk C) (hI:HeI C h) {sl a:Int} {v k:Nat} (hs:slotT h.s.W.T (k:Nat)=some sl) (hv:v<18446744073709551616) (hw:wr=true):Jh C wr h (jaO C h sl a v).2:=by
 obtain⟨j,rfl,hj⟩:=jbG (jaG hI.ok.w hs)
 obtain⟨y,hy⟩:=j9 hj
 unfold jaO
 split
 ·exact .refl
 ·split
  ·exact HpMv.one (.word hw hs ⟨by omega,by omega⟩)
  ·split
   ·exact .refl
   ·rename_i h1 h2 h3
    rw[jW hy] at h1 h2⊢
    have hf:=(je9 (x:=h.s.W.x) (y:=y) (i:=a) (Classical.byContradiction h1)).1
    rw[not_false' h2] at hf
    have hr0:=jgj hI.ok.rf hy hf
    have m:HpMv C wr h {h with s:=doesC C.g C.long h.s ⟨2,(k:Nat),a,if v=0 then-1 else(capI v:Nat)⟩}:= .acts (show 2≤2%6 by decide) fun e=>by grind
    rw[jhJ hs hy hr0 h3] at m;exact HpMv.one m
theorem op_mvs (hC:HpCk C) (hI:HeI C h) {op:OpP} {sl:Int} (hs:slotT h.s.W.T (capI op.h:Nat)=some sl) (hv:op.v<18446744073709551616) (hw:op.c=3∨op.c=5→wr=true):Jh C wr h (hpOp C h op sl).2:=by
 unfold hpOp
 split
 ·grind[read_mvs]
 ·split
  ·grind[write_mvs]
  ·split
   ·have m:HpMv C wr h {h with s:=doesC C.g C.long h.s ⟨4,(capI op.h:Nat),0,0⟩}:= .acts (show 2≤4%6 by decide) fun _=> .inr (show 4%6=4 by decide)
    rw[jh2 hs] at m;exact HpMv.one m
   ·split
    ·rename_i e5
     unfold jbo
     split
     ·exact .refl
     ·have m:HpMv C wr h {h with s:=doesC C.g C.long h.s ⟨5,(capI op.h:Nat),0,0⟩}:= .acts (show 2≤5%6 by decide) fun e=>by grind
      grind[jhH,HpMv.one]
    ·split
     ·have m:HpMv C wr h {h with s:=doesC C.g C.long h.s ⟨3,(capI op.h:Nat),0,0⟩}:= .acts (show 2≤3%6 by decide) fun _=> .inl (show 3%6=3 by decide)
      rw[jih hs] at m;exact HpMv.one m
     ·exact .refl
theorem does_mvs (hC:HpCk C) (hI:HeI C h) {op:OpP} (hv:op.v<18446744073709551616) (hw:op.c=3∨op.c=5→wr=true):Jh C wr h (jD C h op).2:=by
 unfold jD
 split
 ·exact .refl
 ·split
  ·grind[alloc_mvs]
  ·split
   ·exact .refl
   grind[op_mvs,slot_named]
theorem do_mvs (hC:HpCk C) (hI:HeI C h) {op:OpP} (hv:op.v<18446744073709551616) (hw:op.c=3∨op.c=5→wr=true):Jh C wr h (jS C h op).2:=by
 have m:Jh C wr h {h with wk:=0}:=HpMv.one (.free rfl fun h=>h)
 exact m.trans (does_mvs hC (hI.mvs hC m) hv hw)
theorem ji3 {k u:Int}:Jh C wr h (hpStep C h k u).2:=by
 unfold hpStep
 split
 ·cases hs:stepC C.g C.long C.nw h.s k u with
  |none=>exact .refl
  |some s'=>exact HpMv.one (.step hs)
 ·exact .refl
end
open Go.RowKit
set_option maxRecDepth 10000
theorem capI_W {t i n:Nat} (hn:n<4294967296) (hi:i<16777216):capI (capW t i n)=i:=by unfold capI capW;omega
theorem capG_W {t i n:Nat} (hn:n<4294967296):capG (capW t i n)=n:=by grind[capG,capW]
def jC (T T':List jl):Prop:= ∀ (i:Nat) (e:jl),T[i]?=some e→ ∃ e',T'[i]?=some e'∧(e.gen<e'.gen∨(e'.gen=e.gen∧(e.st≠0→e'.st≠0)∧(2≤e.st→2≤e'.st)))
theorem jC.refl {T:List jl}:jC T T:=fun i e h=>⟨e,h, .inr ⟨rfl,fun h=>h,fun h=>h⟩⟩
theorem jC.trans {T T' T'':List jl} (a:jC T T') (b:jC T' T''):jC T T'':=fun i e h=>by
 obtain⟨e1,h1,c1⟩:=a i e h
 obtain⟨e2,h2,c2⟩:=b i e1 h1
 grind
def OldH (T:List jl) (w:Nat):Prop:= ∃ e,T[capI w]?=some e∧((capG w:Nat)<e.gen∨(e.gen=(capG w:Nat)∧e.st≠0))
def DeadH (T:List jl) (w:Nat):Prop:= ∃ e,T[capI w]?=some e∧((capG w:Nat)<e.gen∨(e.gen=(capG w:Nat)∧2≤e.st))
section
variable {T T' : List jl} {w tn : Nat} {t gn : Int}
theorem OldH.le (h:OldH T w) (hl:jC T T'):OldH T' w:=by
 obtain⟨e,h1,c⟩:=h
 obtain⟨e',h2,c'⟩:=hl _ _ h1
 refine⟨e',h2,?_⟩
 omega
theorem DeadH.le (h:DeadH T w) (hl:jC T T'):DeadH T' w:=by
 obtain⟨e,h1,c⟩:=h
 obtain⟨e',h2,c'⟩:=hl _ _ h1
 refine⟨e',h2,?_⟩
 omega
theorem DeadH.slot (h:DeadH T w):hpSlot tn T w=none:=by
 obtain⟨e,h1,c⟩:=h
 grind[hpSlot,namedT]
theorem jkv (hT:T.length≤1024) (he: ∀ e∈T,1≤e.gen∧e.gen≤2147483648) (hf:(JM T).isSome=true):OldH (jH T t) (jbk tn T)∧jbk tn T≠0:=by
 grind[g1,g2,jbk,jbd,jH,OldH,capW,jbg,jv,jct,capI_W,capG_W]
end
section
variable {C : HpC} {wr : Bool} {h h' : HpP}
theorem HeI.gens (hC:HpCk C) (hI:HeI C h): ∀ e∈h.s.W.T,1≤e.gen∧e.gen≤2147483648:=fun e he=>by
 have:=hI.e e he;have:=hC.gn;omega
theorem HeI.T1024 (hC:HpCk C) (hI:HeI C h):h.s.W.T.length≤1024:=by rw[hI.n];exact hC.caps.2
def JZ (C:HpC) (h h':HpP) (w:Nat):Prop:= ∃ (T1:List jl) (t:Int),T1.length≤1024∧(∀ e∈T1,1≤e.gen∧e.gen≤2147483648)∧jC h.s.W.T T1∧(JM T1).isSome=true∧w=jbk C.tn T1∧jC (jH T1 t) h'.s.W.T
theorem do_h {op:OpP}:(jS C h op).1.h=if (jD C {h with wk:=0} op).1.e=0 then(jD C {h with wk:=0} op).1.h else 0:=by
 unfold jS jgn;dsimp only
 split<;>rfl
end
open Go.RowKit
set_option maxRecDepth 10000
section
variable {C : HpC} {wr : Bool} {h h' : HpP} {s s' : CyP} {n : Nat}
theorem HeI.wk0 (hI:HeI C h):HeI C {h with wk:=0}:=⟨hI.ok,hI.t0,hI.i1,hI.pa,hI.pb,hI.e,hI.n⟩
theorem HeI.zr (hI:HeI C h) {t:Nat} (ht:h.s.A[t]?=some false):jb9 C.g h.s.W.x t:=by
 by_cases e:h.s.ph=0
 ·exact(hI.t0 e).zr t ht
 ·obtain⟨S0,A0,hi⟩:=hI.i1 e;exact hi.zr t ht
theorem HeI.rch (hI:HeI C h) {t:Nat} (ht:RchM C.g h.s.W t):h.s.A[t]?=some true:=by
 by_cases e:h.s.ph=0
 ·exact(hI.t0 e).tk.rch ht
 ·obtain⟨S0,A0,hi⟩:=hI.i1 e;exact hi.pA (hi.cl.rch ht)
end
set_option maxRecDepth 10000
section
variable {w0 : World} {F : jb} {y : CyM} {s : CyP} {g : PlG} {long : Nat}
def goesY (y:CyM) (ph:Nat) (act:Bool):CyM:={y with s:={y.s with act:=act},ph:=ph}
theorem CpM.goes (h:CpM y s) (ph:Nat) (act:Bool):CpM (goesY y ph act) {s with sa:=act,ph:=ph}:=
 ⟨h.p,h.ok,h.R,h.oka,h.A,⟨h.oks.d,h.oks.dn,h.oks.at_⟩,rfl,h.at_,h.D,h.ab,h.bb,h.mb,rfl,h.st,h.nw⟩
set_option maxHeartbeats 1000000 in
theorem cygoes_K (hG:ji w0) (h:CpM y s) (eg:y.B.p.g=g) (hi:CyPre g y.k.g.ring.length s):
  Call Tryz.prog w0 145 [.pointer (some ⟨y.b,0,none⟩)] (cycH y++F)
   (fun r H'=>r= .tuple #[]∧H'=cycH (goesY y (Js g s).ph (Js g s).sa)++F):=by
 subst eg
 have hph:=hi.ph
 have hdone:=fun A=>mkDone_K (w0:=w0) (F:=A) hG h.p h.ok h.R hi.m
 have e1:=h.ph
 have e2:=h.sa
 have e3:=h.at_
 have hdn:=h.oks.dn
 have hsp:=fun A (x:SpM)=>jis (w0:=w0) (F:=A) (s:=x)
 have hst:=fun A (ha:y.s.act=false)=>spStart_K (w0:=w0) (F:=A) (s:=y.s) ha
 unfold goesY;simp only[seenH_app] at hdone
 by_cases h1:s.ph=1
 ·obtain⟨p1,p2,p3,p4⟩:=hi.p1 h1
  have hsl:=h.p.bo.p.g.slots
  have hst':=fun A=>hst A (e2.trans p2)
  have e1':y.ph=1:=e1.trans h1
  cases hd:jaa y.B.p.g s.W s.m with
  |true=>
   have hg:Js y.B.p.g s={s with sa:=true,ph:=2}:=by
    unfold Js;rw [if_pos ⟨h1,hd⟩,if_neg (by omega)]
   rw[hg];simp only[hd] at hdone
   have hnd:jcN {y.s with act:=true}=false:=by unfold jcN;dsimp only;rw [decide_eq_false (by omega)];rfl
   have hsp':=fun A=>hsp A {y.s with act:=true}
   rw[hnd] at hsp'
   obtain⟨yb,B,a,T,N,k,sp,nw,ph,st⟩:=y
   dsimp only at*;subst e1';refine zl4 ?_;simp only[cycH_app];refine zl5 ?_;refine zcF ?_;refine zO ?_;refine zaY ?_;refine zc2 ?_;refine zaD ?_;refine zp ?_;refine jn (hdone _) ja ?_;refine zA ?_;refine zt ?_;refine zaR ?_;refine zpv ?_;refine zV ?_;refine zF ?_;refine zbn ?_;refine zp ?_;refine jn (hst' _) ja ?_;refine zed ?_;refine zcF ?_;refine zfk ?_;refine zc4 ?_;refine ztm ?_;refine zbn ?_;refine zp ?_;refine jn (hsp' _) ja ?_;refine zax ?_;refine zgM ?_;refine znX ?_;exact zl6
  |false=>
   have hg:Js y.B.p.g s=s:=by
    unfold Js;rw [if_neg (by rw[hd];simp),if_neg (by omega)]
   rw[hg];simp only[hd] at hdone;rw[←e1,←e2]
   obtain⟨yb,B,a,T,N,k,sp,nw,ph,st⟩:=y
   dsimp only at*;subst e1';refine zl4 ?_;simp only[cycH_app];refine zl5 ?_;refine zcF ?_;refine zO ?_;refine zaY ?_;refine zc2 ?_;refine zaD ?_;refine zp ?_;refine jn (hdone _) ja ?_;refine zA ?_;refine zt ?_;refine zas ?_;refine zdy ?_;refine zC ?_;refine zt ?_;refine zax ?_;refine zgM ?_;refine zru ?_;refine znE ?_;exact zl6
 ·by_cases h2:s.ph=2
  ·obtain⟨p1,p2,p3⟩:=hi.p2 h2
   have e1':y.ph=2:=e1.trans h2
   have hnd:jcN y.s=decide (s.at_=y.B.p.g.slots):=by
    unfold jcN;rw [e2,p2,e3,hdn];rfl
   have hsp':=fun A=>hsp A y.s
   rw[hnd] at hsp'
   by_cases ha:s.at_=y.B.p.g.slots
   ·have hg:Js y.B.p.g s={s with ph:=3}:=by
     unfold Js;rw [if_neg (by omega),if_pos ⟨h2,ha⟩]
    rw[hg];rw[decide_eq_true ha] at hsp';dsimp only;rw[←e2]
    obtain⟨yb,B,a,T,N,k,sp,nw,ph,st⟩:=y
    dsimp only at*;subst e1';refine zl4 ?_;simp only[cycH_app];refine zl5 ?_;refine zcF ?_;refine zC ?_;refine zcD ?_;refine zx ?_;refine zt ?_;refine zas ?_;refine zdy ?_;refine zpA ?_;refine zrm ?_;refine znE ?_;refine zrr ?_;refine zbn ?_;refine zp ?_;refine jn (hsp' _) ja ?_;refine zak ?_;refine zF ?_;refine zc4 ?_;refine zjX ?_;refine zgM ?_;refine znX ?_;exact zl6
   ·have hg:Js y.B.p.g s=s:=by
     unfold Js;rw [if_neg (by omega),if_neg (by omega)]
    rw[hg];rw[decide_eq_false ha] at hsp';rw[←e1,←e2]
    obtain⟨yb,B,a,T,N,k,sp,nw,ph,st⟩:=y
    dsimp only at*;subst e1';refine zl4 ?_;simp only[cycH_app];refine zl5 ?_;refine zcF ?_;refine zC ?_;refine zcD ?_;refine zx ?_;refine zt ?_;refine zas ?_;refine zdy ?_;refine zpA ?_;refine zrm ?_;refine znE ?_;refine zrr ?_;refine zbn ?_;refine zp ?_;refine jn (hsp' _) ja ?_;refine zax ?_;refine zgM ?_;refine znX ?_;exact zl6
  ·have hg:Js y.B.p.g s=s:=by
    unfold Js;rw [if_neg (by omega),if_neg (by omega)]
   rw[hg,←e1,←e2]
   have h1': ¬((y.ph:Nat):Int)=1:=by omega
   have h2': ¬((y.ph:Nat):Int)=2:=by omega
   refine zl4 ?_;simp only[cycH_app];refine zl5 ?_;refine zcF ?_;refine zC ?_;refine zcD ?_;refine zx ?_;refine zt ?_;refine zas ?_;refine zdy ?_;refine zC ?_;refine zt ?_;refine zax ?_;refine zgM ?_;refine zru ?_;refine znE ?_;exact zl6
def jdQ (y:CyM) (ph:Nat) (act:Bool):CyM:={y with s:={y.s with act:=act},ph:=ph,st:=y.st+1}
theorem jg1 (hG:ji w0) (h:CpM y s) (eg:y.B.p.g=g) (hi:CyPre g y.k.g.ring.length s) (hst:s.st≤100000000):
  Call Tryz.prog w0 116 [.pointer (some ⟨y.b,0,none⟩), .bool true] (cycH y++F)
   (fun r H'=>r= .bool true∧H'=cycH (jdQ y (madeC g s).ph (madeC g s).sa)++F):=by
 have h':CpM {y with st:=y.st+1} {s with st:=s.st+1}:=⟨h.p,h.ok,h.R,h.oka,h.A,h.oks,h.sa,h.at_,h.D,h.ab,h.bb,h.mb,h.ph,by show y.st+1=s.st+1;rw [h.st],h.nw⟩
 have hi':CyPre g y.k.g.ring.length {s with st:=s.st+1}:=⟨hi.w,hi.rf,hi.m,hi.i,hi.A,hi.D,hi.p0,hi.p1,hi.p2,hi.p3,hi.ph,hi.dn⟩
 have hgo:=fun A=>cygoes_K (w0:=w0) (F:=A) hG h' eg hi'
 have e1:=h.st
 have e2:((y.st:Nat):Int)+1=((y.st+1:Nat):Int):=by omega
 obtain⟨q,hq⟩: ∃ q,madeC g s=q:=⟨_,rfl⟩
 have hq':Js g {s with st:=s.st+1}=q:=hq
 rw[hq'] at hgo;rw[hq];unfold goesY at hgo;unfold jdQ
 obtain⟨yb,B,a,T,N,k,sp,nw,ph,st⟩:=y
 dsimp only at*;refine Call.enter2 (n:=16) (by rfl) Tryz.func116 rfl rfl rfl ?_;simp only[cycH_app];refine zai ?_;refine zao ?_;refine zF ?_;refine zbE ?_;refine zw ?_;refine zaB ?_;refine zS ?_;refine zbE ?_;refine zaq ?_;refine zed ?_;refine zz fun T hT=>?_;rw[e2];refine(CallV.part (CallV.fn (hgo _)) (by simp only[cycH_app];exact ja)).mono ?_;rintro _ _ ⟨rfl,rfl⟩;refine ze ?_;clear hT T;refine zeJ ?_;exact zso
theorem cymade_E {b:Nat} {H:jb}:Call Tryz.prog w0 116 [.pointer (some ⟨b,0,none⟩), .bool false] H (fun r H'=>r= .bool false∧H'=H):=by
 refine Call.enter2 (n:=16) (by rfl) Tryz.func116 rfl rfl rfl ?_;refine zai ?_;refine zba ?_;exact zq
end
open Go.RowKit
set_option maxRecDepth 10000
section
variable {w0 : World} {F : jb} {y : CyM} {s : CyP} {g : PlG} {long : Nat}
theorem cCount_K {t:Nat} (h:CpR g long y s):Call Tryz.prog w0 209 [.pointer (some ⟨y.N.b,0,none⟩), .int .i64 (t:Nat)] (cycH y++F) (fun r H'=>r= .int .i64 ((s.W.N[t]?).getD 0)∧H'=cycH y++F):=by
 have hc:=Call.ro (w0:=w0) (A:=JX y.N) (H:=cycH y++F) (fun F=>jkj (F:=F) (s:=(t:Nat)) h.p.pi) (by rw[cycH_app];exact ja)
 rw[if_pos (by omega),Int.toNat_natCast,h.p.eN] at hc;exact hc
end
def nb (l:List UInt8):Nat:=l.foldl (fun a c=>a*256+c.toNat) 0
theorem nb_lt' (l:List UInt8): ∀ a:Nat,l.foldl (fun a c=>a*256+c.toNat) a<(a+1)*256^l.length:=by
 induction l with
 |nil=>grind
 |cons c l ih=>
  intro a
  have h1:=ih (a*256+c.toNat)
  have h2:=c.toNat_lt
  simp only[List.foldl_cons,List.length_cons,Nat.pow_succ];refine Nat.lt_of_lt_of_le h1 ?_;rw[Nat.mul_comm (256^l.length) 256,←Nat.mul_assoc];exact Nat.mul_le_mul_right _ (by omega)
theorem jb7 (l:List UInt8):nb l<256^l.length:=by have:=nb_lt' l 0;grind[nb]
end Go.Proofs.YtebiafomiemgbaaGreatDoor.Sw
