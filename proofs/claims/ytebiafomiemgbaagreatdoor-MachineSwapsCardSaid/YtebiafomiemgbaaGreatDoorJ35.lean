/-The walker and the contracts that the law needs,part 35. -/
import Derived.Test.YtebiafomiemgbaaGreatDoorJ34
set_option linter.unusedVariables false set_option linter.unusedSimpArgs false set_option linter.unusedVariables false
set_option linter.unusedSimpArgs false
namespace Go.Proofs.YtebiafomiemgbaaGreatDoor.Sw
set_option maxHeartbeats 8000000
open Go.Proofs.YtebiafomiemgbaaGreatDoor renaming lo → qL, hi → qH
open Go.RowKit
set_option maxRecDepth 10000
structure PdS where
 y:CyM
 q:HpP
section
variable {w0 : World} {D : HpD} {nf nk n : Nat} {y y' : CyM} {h : HpP} {s' : CyP} {F : jb}
theorem hyHelp_K (hG:ji w0) (h1:HpR D nf nk y h):Call Tryz.prog w0 262 [.pointer (some ⟨D.yb,0,none⟩)] (hpH D y h++F) (fun r H'=>r= .bool (j8 D.C.g D.C.long h.s).isSome∧HpQ D nf nk {h with s:=(j8 D.C.g D.C.long h.s).getD h.s} F H'):=
 h1.lift (n:=0) (F:=F) fun A=>by have:=jlC (w0:=w0) (F:=A) hG h1.p;rw [h1.b] at this;exact this
set_option maxHeartbeats 1000000 in
theorem hppaced_K (hG:ji w0) (hD:HpDok D) (hI:HeI D.C h) (h1:HpR D nf nk y h) (hn:1≤n∧n≤64) (hf:nf≤1000000) (hk:nk≤200000000):
  Call Tryz.prog w0 200 [.pointer (some ⟨D.b,0,none⟩), .int .i64 (n:Nat)] (hpH D y h++F) (fun r H'=>r= .tuple #[]∧HpQ D (nf+1) (nk+200000000) (jdf D.C n h) F H'):=by
 have hC:=hD.C
 have hA:=h1.pace (F:=F) (h1.pb.ask D.C.tr D.C.ast n) (fun A=>pcAsk_K (w0:=w0) (F:=A) (n:=n) (h1.pc hD) hn)
 have m1:Jh D.C true h {h with p:=(Jz D.C.tr D.C.ast n h.p).2}:=HpMv.one (.free rfl fun hb=>hb.ask _ _ _)
 have hI1:=hI.mvs hC m1
 have hd:=jfx (tr:=D.C.tr) (ast:=D.C.ast) (n:=n) (p:=h.p)
 have hle:=h1.p.le.s
 have hw:=h1.w
 unfold jdf
 have hdd:(Jz D.C.tr D.C.ast n h.p).1=0∨(Jz D.C.tr D.C.ast n h.p).1=1∨(Jz D.C.tr D.C.ast n h.p).1=2:=by
  unfold Jz;dsimp only
  split
  ·exact .inl rfl
  ·split
   ·exact .inr (.inr rfl)
   ·exact .inr (.inl rfl)
 have hac:(Jz D.C.tr D.C.ast n h.p).2.act=h.p.act:=rfl
 obtain⟨due,hdue⟩: ∃ due,due=(Jz D.C.tr D.C.ast n h.p).1:=⟨_,rfl⟩
 obtain⟨p1,hp1⟩: ∃ p1,p1=(Jz D.C.tr D.C.ast n h.p).2:=⟨_,rfl⟩
 simp only[←hdue,←hp1] at hA m1 hI1 hd hdd hac⊢
 have mT:=jgV (C:=D.C) (wr:=true) p1.debt {h with p:=p1} (Nat.le_refl _)
 have hIT:=hI1.mvs hC mT
 have hTa:(jaR D.C p1.debt {h with p:=p1}).p.act=h.p.act:=(jf0 _ _).trans hac
 obtain⟨T,hT0⟩: ∃ T,T=jaR D.C p1.debt {h with p:=p1}:=⟨_,rfl⟩
 rw[←hT0] at hIT hTa⊢
 have hdebt:=fun A (y:CyM) (q:HpP) (h2:HpR D nf (nk+100000000) y q)=>h2.pace0 (F:=A) (fun A=>pcDebt_K (w0:=w0) (F:=A) (h2.pc hD))
 have hhelp:=fun A (y:CyM) (q:HpP) (h2:HpR D nf (nk+100000000) y q)=>hyHelp_K (w0:=w0) (F:=A) hG h2
 have hpay:=fun A (y:CyM) (q:HpP) (h2:HpR D nf (nk+100000000) y q)=>h2.pace (F:=A) (p':={q.p with debt:=q.p.debt-1}) ⟨h2.pb.s,h2.pb.t,Nat.le_trans (Nat.sub_le _ _) h2.pb.d,h2.pb.c⟩ (fun A=>pcPay_K (w0:=w0) (F:=A) (h2.pc hD))
 unfold HpQ at hA hhelp hpay⊢;refine Call.enter2 (n:=49) (by kernel_rfl) Tryz.func200 rfl rfl rfl ?_;simp only[hpH_app];refine zG ?_;refine zcF ?_;refine zz fun T hT=>?_;refine(CallV.part (CallV.fn hA) (by first|exact ja|(simp only[hpH_app];exact ja))).mono ?_;rintro _ _ ⟨rfl,y1,h2,rfl⟩;refine ze ?_;clear hT T;refine zY ?_;refine zU ?_;refine K.cutT (σ:=CyM) [] jc (fun s kp_=>(0, .pointer (some ⟨D.b,0,none⟩))::(4, .int .u8 (due:Nat))::kp_) (fun s=>hpH D s T++F) (fun s=>HpR D nf (nk+100000000) s T) ?_ ?_
 ·refine K.block ?_;refine K.loopT (σ:=PdS) [(0,_)] (fun s kp_=>(4, .int .u8 (due:Nat))::kp_) (fun s=>hpH D s.y s.q++F) (fun s=>HpR D nf (nk+100000000) s.y s.q∧HeI D.C s.q∧jaR D.C s.q.p.debt s.q=T∧s.q.wk+Jo D.C.g s.q.s≤nk+100000000) (fun s=>s.q.p.debt) (⟨y1,{h with p:=p1}⟩) jc ja (⟨h2.mono (Nat.le_refl _) (by omega),hI1,hT0.symm,by dsimp only;omega⟩) ?_;rintro⟨y2,q⟩ ⟨r1,r2,r3,r4⟩;dsimp only at r1 r2 r3 r4⊢
  cases hqd:q.p.debt with
  |zero=>
   have hd0:=fun A=>hdebt A y2 q r1
   simp only[hqd] at hd0;rw[hqd] at r3
   have r3':q=T:=r3
   subst r3';refine zg9 ?_;refine zcF ?_;refine zu fun T hT=>?_;refine zqI ?_;rintro _ _ ⟨rfl,rfl⟩;refine ze ?_;clear hT T;refine zaA ?_;refine zcD ?_;refine zx ?_;refine zdx ?_;exact KE.meet y2 jc (by first|exact ja|(simp only[hpH_app];exact ja)) r1
  |succ d=>
   have hd0:=fun A=>hdebt A y2 q r1
   simp only[hqd] at hd0
   have hdp:((d+1:Nat):Int)>0:=by omega
   have hh:=fun A=>hhelp A y2 q r1
   cases hs:j8 D.C.g D.C.long q.s with
   |none=>
    have r3':q=T:=by rw[←r3,hqd];unfold jaR;rw [hs]
    subst r3';simp only[hs,Option.isSome_none,Option.getD_none] at hh;refine zg9 ?_;refine zcF ?_;refine zu fun T hT=>?_;refine zqI ?_;rintro _ _ ⟨rfl,rfl⟩;refine ze ?_;clear hT T;simp only[hpH_app];refine zaG ?_;refine zaY ?_;refine zc3 ?_;refine zhj fun T hT=>?_;refine(CallV.part (CallV.fn (hh _)) (by first|exact ja|(simp only[hpH_app];exact ja))).mono ?_;rintro _ _ ⟨rfl,y3,h3,rfl⟩;refine ze ?_;clear hT T;refine zA ?_;refine zdx ?_;exact KE.meet y3 jc (by first|exact ja|(simp only[hpH_app];exact ja)) h3
   |some s1=>
    have hmes:=jfj hC.g r2.ok hs
    have e5:((q.wk:Nat):Int)+1=((q.wk+1:Nat):Int):=by omega
    have hI3:HeI D.C ⟨s1,{q.p with debt:=d},q.wk+1⟩:=r2.mvs hC ((HpMv.one (.help hs)).tail (.free (wr:=true) (h:={q with s:=s1}) rfl fun hb=>⟨hb.s,hb.t,by have:=hb.d;show d≤M62;dsimp only at this;omega,hb.c⟩))
    have r3':jaR D.C d ⟨s1,{q.p with debt:=d},q.wk+1⟩=T:=by rw[←r3,hqd];conv=>rhs;unfold jaR;rw [hs]
    simp only[hs,Option.isSome_some,Option.getD_some] at hh
    have hwk:=fun(y3:CyM) (h3:HpR D nf (nk+100000000) y3 {q with s:=s1})=>h3.wk (n:=q.wk+1) (nk':=nk+100000000) (by omega)
    have hp:=fun A (y3:CyM) (h3:HpR D nf (nk+100000000) y3 {q with s:=s1})=>hpay A y3 _ (hwk y3 h3)
    simp only[hqd,Nat.add_sub_cancel] at hp;refine zg9 ?_;refine zcF ?_;refine zu fun T hT=>?_;refine zqI ?_;rintro _ _ ⟨rfl,rfl⟩;refine ze ?_;clear hT T;simp only[hpH_app];refine zaG ?_;refine zaY ?_;refine zc3 ?_;refine zhj fun T hT=>?_;refine(CallV.part (CallV.fn (hh _)) (by first|exact ja|(simp only[hpH_app];exact ja))).mono ?_;rintro _ _ ⟨rfl,y3,h3,rfl⟩;refine ze ?_;clear hT T;simp only[hpH_app];refine zA ?_;refine KL.nil (KE.next (K.condT rfl (K.skip (KE.next (K.block (K.seq (K.region ?_)))))));refine zF ?_;refine zbE ?_;refine zw ?_;refine zfk ?_;refine zbE ?_;refine zjX ?_;rw[e5];refine zeU ?_;refine zcF ?_;refine zu fun T hT=>?_;refine(CallV.part (CallV.fn (hp _ y3 h3)) (by first|exact ja|(simp only[hpH_app];exact ja))).mono ?_;rintro _ _ ⟨⟨z,rfl⟩,y4,h4,rfl⟩;refine ze ?_;clear hT T;refine zR ?_;refine zaw ?_;exact KE.again ⟨y4,⟨s1,{q.p with debt:=d},q.wk+1⟩⟩ jc (by first|exact ja|(simp only[hpH_app];exact ja)) ⟨h4,hI3,r3',by show q.wk+1+Jo D.C.g s1≤_;omega⟩ (by show d<d+1;omega)
 ·clear h2;rintro y1 h2
  have hpa:=hIT.pa
  unfold je1
  rcases hdd with e|e|e
  ·subst e;rw[if_neg (by decide),if_neg (by decide)];refine zaH ?_;refine zeh ?_;refine zfS ?_;refine zC ?_;refine zdX ?_;exact KE.finN je rfl jd (by first|exact ja|(simp only[hpH_app];exact ja)) ⟨rfl,y1,h2.mono (by omega) (by omega),rfl⟩
  ·subst e
   have ha:=hTa.trans (hd.1 rfl)
   have h0:T.s.ph=0:=Classical.byContradiction fun q=>by rw[ha,decide_eq_true q] at hpa;cases hpa
   have hB:=jky (w0:=w0) (F:=F) hD h2 h0 ha hf
   unfold HpQ at hB;rw[if_pos rfl];refine zaH ?_;refine zeh ?_;refine zg3 ?_;refine zak ?_;refine zz fun T hT=>?_;refine(CallV.part (CallV.fn hB) (by first|exact ja|(simp only[hpH_app];exact ja))).mono ?_;rintro _ _ ⟨rfl,y3,h3,rfl⟩;refine ze ?_;clear hT T;refine zR ?_;refine zaw ?_;exact zsL
  ·subst e
   have ha:=hTa.trans (hd.2 rfl)
   have h0:T.s.ph≠0:=of_decide_eq_true (hpa.symm.trans ha)
   have hE:=jjg (F:=F) hG hD h2 h0 ha (by omega)
   unfold HpQ at hE;rw[if_neg (by decide),if_pos rfl];refine zaH ?_;refine zeh ?_;refine zfS ?_;refine zg3 ?_;refine zak ?_;refine zz fun T hT=>?_;refine(CallV.part (CallV.fn hE) (by first|exact ja|(simp only[hpH_app];exact ja))).mono ?_;rintro _ _ ⟨rfl,y3,h3,rfl⟩;refine ze ?_;clear hT T;refine zR ?_;refine zaw ?_;exact zsL
end
set_option maxRecDepth 10000
section
variable {w0 : World} {D : HpD} {nf nk n : Nat} {y y' : CyM} {h : HpP} {s s' : CyP} {F G : jb} {op : OpP} {z : jq} {b3 b10 b11 sz : Nat}
theorem class_get (hD:HpDok D) {k:Nat} (hk:k<D.C.g.m):D.c.cl[((k:Nat):Int).toNat]?=some ((D.C.g.y k:Nat):Int):=by
 have hc:JC D.c.cl=true:=by have:=hD.c;grind[jz]
 rw[hD.g,gOf_m] at hk
 obtain⟨v,hv⟩:=jh hk
 have hn:=jlD hc v (List.mem_of_getElem? hv)
 rw[Int.toNat_natCast,hv,hD.g,gOf_y hv]
 grind
theorem ofP_D (hD:HpDok D) {n:Int} (hn:1≤n):ofP D.c.cl n=if classI D.C.g n=D.C.g.cl.length then(0,50) else(((classI D.C.g n:Nat):Int),0):=by
 have hc:JC D.c.cl=true:=by have:=hD.c;grind[jz]
 rw[hD.g]
 grind[ofP_class]
theorem cl_len (hD:HpDok D):D.c.cl.length≤8:=by
 have:=hD.C.g.m.2
 rw[hD.g,gOf_m] at this
 omega
def al1 (h:HpP) (A:List Bool):HpP:={h with s:={h.s with A:=A}}
def al2 (h:HpP) (x:List Int):HpP:={h with s:={h.s with W:={h.s.W with x:=x}}}
def al3 (h:HpP) (j:Nat):HpP:={h with s:={h.s with m:=JP h.s.m j}}
def al4 (h:HpP) (j:Nat):HpP:={h with s:={h.s with W:={h.s.W with T:=jH h.s.W.T (j:Nat)}}}
theorem alTake_K {k:Int} {j:Nat} {A':List Bool} (hG:ji w0) (h1:HpR D nf nk y h) (ht:takeP D.C.g h.s.A k=(((j:Nat):Int),0,A')):Call Tryz.prog w0 195 [.pointer (some ⟨D.ab,0,none⟩), .int .i64 k] (hpH D y h++F) (fun r H'=>r= .tuple [.int .i64 (j:Nat), .int .i64 0].toArray∧ ∃ y',HpR D nf nk y' (al1 h A')∧H'=hpH D y' (al1 h A')++F):=by
 have:=hyTake_K (F:=F) (k:=k) hG h1
 rw[ht] at this;exact this
theorem alMake_K {hd:HdP} (hG:ji w0) (h1:HpR D nf nk y h) (hz:D.C.g.L[n]?=some z):Call Tryz.prog w0 197 [.pointer (some ⟨D.Bb,0,none⟩), .int .i64 (n:Nat), .agg [.int .i64 hd.c, .int .i64 hd.r, .int .i64 hd.w].toArray] (hpH D y h++F) (fun r H'=>r= .int .i64 (makeP h.s.W.x z hd).1∧ ∃ y',HpR D nf nk y' (al2 h (makeP h.s.W.x z hd).2)∧H'=hpH D y' (al2 h (makeP h.s.W.x z hd).2)++F):=hyMake_K hG h1 hz
theorem alBlack_K (h1:HpR D nf nk y h) (hn:n<D.C.g.slots):Call Tryz.prog w0 198 [.pointer (some ⟨D.yb,0,none⟩), .int .i64 (n:Nat)] (hpH D y h++F) (fun r H'=>r= .int .i64 0∧ ∃ y',HpR D nf nk y' (al3 h n)∧H'=hpH D y' (al3 h n)++F):=hyBlack_K h1 hn
theorem alMint_K {t:Nat} {T:List jl} (hD:HpDok D) (h1:HpR D nf nk y h) (hT:h.s.W.T=T) (hI: ∀ e∈T,1≤e.gen∧e.gen≤2147483648) (ht:t<D.C.g.slots) (hf:(JM T).isSome=true):Call Tryz.prog w0 199 [.pointer (some ⟨D.b,0,none⟩), .int .i64 (t:Nat)] (hpH D y h++F)
  (fun r H'=>r= .int .u64 (jbk D.C.tn T:Nat)∧ ∃ y',HpR D nf nk y' (al4 h t)∧H'=hpH D y' (al4 h t)++F):=by
 subst hT;exact jlu hD h1 hI ht hf
set_option maxHeartbeats 1000000 in
theorem hpalloc_K {sl:Int} (hG:ji w0) (hD:HpDok D) (hI:HeI D.C h) (h1:HpR D nf 0 y h) (hf:nf≤900000):Call Tryz.prog w0 153 [.pointer (some ⟨D.b,0,none⟩),opV op, .int .i64 sl] (hpH D y h++F) (fun r H'=>r=snV (Jn D.C h op.a op.b).1∧HpQ D (nf+2) 400000000 (Jn D.C h op.a op.b).2 F H'):=by
 have hC:=hD.C
 have hoc:=hD.oc
 have hgn:=hC.gn
 have hcl8:=cl_len hD
 have hcl9:D.c.cl.length≤4294967296:=by omega
 have htold:=fun A (e:Int)=>jbE (w0:=w0) (H:=A) (e:=e)
 have hneed:=fun A=>Need_K (w0:=w0) (H:=A) (h:=⟨0,op.a,op.b⟩)
 unfold hdV jcZ at hneed;dsimp only at hneed;unfold Jn;unfold HpQ;unfold opV
 by_cases hm:JT ⟨0,op.a,op.b⟩=false
 ·rw[if_pos hm];simp only[hm,Bool.false_eq_true,if_false] at hneed;refine zmh ?_;refine zki ?_;intro b3 b4 b6;refine zal ?_;refine zaa ?_;refine zby ?_;refine zbb ?_;refine zbQ ?_;intro b7;refine zhf ?_;refine zbi ?_;refine zM ?_;refine zao ?_;exact zhr
 ·rw[if_neg hm]
  have hm':=not_false' hm
  have hmay:=jfA hm'
  dsimp only at hmay;simp only[hm',if_true] at hneed
  have hofp:=ofP_D hD (n:=op.a+op.b+1) (by omega)
  have hof:=fun A v (hS:Sli w0 A iE v D.c.cl) (hvc:v.cells=[v].toArray)=>classOf_K (w0:=w0) (n:=op.a+op.b+1) hS hvc (by omega)
  rw[hofp] at hof
  by_cases hk:classI D.C.g (op.a+op.b+1)=D.C.g.cl.length
  ·rw[if_pos hk];simp only[if_pos hk] at hof;refine zmh ?_;refine zki ?_;intro b3 b4 b6;refine zal ?_;refine zaa ?_;refine zby ?_;refine zbb ?_;refine zbQ ?_;intro b7;refine zhf ?_;simp only[hpH_app];refine zbM ?_;refine za6 ?_;refine za0 ?_;refine zcJ ?_;refine ziS ?_;refine zoP ?_;refine zbF ?_;refine zcJ ?_;refine zaq ?_;refine zap ?_;refine zM ?_;refine zao ?_;refine zpU ?_;exact zoQ
  ·rw[if_neg hk];simp only[if_neg hk] at hof
   have hkm:=jfe hk
   have hyk:=hC.g.y _ hkm
   have hpg:=hC.g.pg
   have hget:=class_get hD hkm
   have hIR:=hI.mvs hC (jc7 (wr:=true) hC hI (k:=classI D.C.g (op.a+op.b+1)))
   have htk:=fun h2=>ji1 hC hIR hm' hk h2
   have hmv:=fun h2 h3=>jdn (wr:=true) hC hIR hm' hk h2 h3
   have hsz:D.C.g.y (classI D.C.g (op.a+op.b+1))≤1048576:=by omega
   have hrm:=fun A (b3 b10 b11:Nat)=>jlt (w0:=w0) (fv:= .func (.func 193) #[] #[.pointer (some ⟨b11,0,none⟩), .pointer (some ⟨b3,0,none⟩)]) (G:=(b3,cells [.pointer (some ⟨D.b,0,none⟩)] 64)::(b10,cells [.int .i64 (D.C.g.y (classI D.C.g (op.a+op.b+1)):Nat)] 3)::(b11,cells [fitV b3 b10] 28)::A) (is:=fun s=>fitsB D.C.g (D.C.g.y (classI D.C.g (op.a+op.b+1))) s&&Jt s) hG hD hI h1 (by omega) (by omega) (fun nf nk y h h1=>CallV.clo (args:=[]) (cap:=[.pointer (some ⟨b11,0,none⟩), .pointer (some ⟨b3,0,none⟩)]) (alboth_K hD h1 hsz))
   change ∀ (A:jb) (b3 b10 b11:Nat),Call _ _ _ _ _ (fun r H'=>r= .tuple #[]∧HpQ D (nf+1) (0+200000000) (allocR D.C h (classI D.C.g (op.a+op.b+1))) _ H') at hrm
   obtain⟨k,hkk⟩: ∃ k,classI D.C.g (op.a+op.b+1)=k:=⟨_,rfl⟩
   simp only[hkk] at hrm hIR htk hmv hof hyk hkm hget hsz⊢
   obtain⟨R,hR⟩: ∃ R,allocR D.C h k=R:=⟨_,rfl⟩
   simp only[hR] at hrm hIR htk hmv⊢;clear hofp hR
   obtain⟨sz,hsz'⟩: ∃ sz,D.C.g.y k=sz:=⟨_,rfl⟩
   simp only[hsz'] at hrm hyk hget hsz htk hmv⊢
   have hft:=fun A (b3 b10:Nat) (y1:CyM) (h2:HpR D (nf+1) (0+200000000) y1 R)=>jlM (w0:=w0) (G:=A) (b3:=b3) (b10:=b10) hD h2 hsz
   have hfr:=fun A (y1:CyM) (h2:HpR D (nf+1) (0+200000000) y1 R)=>jg0 (w0:=w0) (F:=A) h2
   have hklt:k<D.c.cl.length:=jv hget
   unfold HpQ at hrm;unfold fitV at hrm
   cases hb1:fitsB D.C.g sz R.s with
   |false=>
    rw[if_pos rfl];simp only[hb1] at hft;refine zmh ?_;refine zki ?_;intro b3 b4 b6;refine zal ?_;refine zaa ?_;refine zby ?_;refine zbb ?_;refine zbQ ?_;intro b7;refine zhf ?_;simp only[hpH_app];refine zbM ?_;refine za6 ?_;refine za0 ?_;refine zcJ ?_;refine ziS ?_;refine zoP ?_;refine zbF ?_;refine zcJ ?_;refine zaq ?_;refine zbR ?_;refine zb8 ?_;refine zqJ ?_;refine ziT ?_;refine zkI ?_;refine zcX ?_;refine zcX ?_;refine zqK ?_;refine zqL ?_;refine ze4 ?_;intro b10;refine zcl ?_;refine zV ?_;refine za5 ?_;refine zbe ?_;intro b11;refine zcO ?_;refine zw ?_;refine zbk fun T hT=>?_;refine zqM ?_;rintro _ _ ⟨rfl,y1,h2,rfl⟩;refine ze ?_;clear hT T;refine zdl ?_;refine zw ?_;refine zu fun T hT=>?_;refine zqN ?_;rintro _ _ ⟨rfl,rfl⟩;refine ze ?_;clear hT T;refine zag ?_;refine zd5 ?_;refine zlm ?_;refine zbG ?_;exact zsM
   |true=>
    rw[if_neg (by decide)];simp only[hb1] at hft
    cases hb2:Jt R.s with
    |false=>
     rw[if_pos rfl];simp only[hb2] at hfr;refine zmh ?_;refine zki ?_;intro b3 b4 b6;refine zal ?_;refine zaa ?_;refine zby ?_;refine zbb ?_;refine zbQ ?_;intro b7;refine zhf ?_;simp only[hpH_app];refine zbM ?_;refine za6 ?_;refine za0 ?_;refine zcJ ?_;refine ziS ?_;refine zoP ?_;refine zbF ?_;refine zcJ ?_;refine zaq ?_;refine zbR ?_;refine zb8 ?_;refine zqJ ?_;refine ziT ?_;refine zkI ?_;refine zcX ?_;refine zcX ?_;refine zqK ?_;refine zqL ?_;refine ze4 ?_;intro b10;refine zcl ?_;refine zV ?_;refine za5 ?_;refine zbe ?_;intro b11;refine zcO ?_;refine zw ?_;refine zbk fun T hT=>?_;refine zqM ?_;rintro _ _ ⟨rfl,y1,h2,rfl⟩;refine ze ?_;clear hT T;refine zdl ?_;refine zw ?_;refine zu fun T hT=>?_;refine zqN ?_;rintro _ _ ⟨rfl,rfl⟩;refine ze ?_;clear hT T;refine zy ?_;refine zcw ?_;refine zaI ?_;refine jn (hfr _ y1 h2) ja ?_;refine zag ?_;refine zd5 ?_;refine zlm ?_;refine zbG ?_;exact zsM
    |true=>
     rw[if_neg (by decide)];simp only[hb2] at hfr
     obtain⟨j,z,ht,_,hz,_,_,hmk2,hlk⟩:=htk hb1
     have hjl:j<D.C.g.slots:=by rw[←jdU];exact jv hz
     have hge: ∀ e∈R.s.W.T,1≤e.gen∧e.gen≤2147483648:=fun e he=>⟨(hIR.e e he).1,Int.le_trans (hIR.e e he).2 hgn.2⟩
     have hI4:=hIR.mv hC (hmv hb1 hb2)
     have hR4:({R with s:=mkC D.C.g R.s (k:Nat) ⟨(k:Nat),op.a,op.b⟩}:HpP)=al4 (al3 (al2 (al1 R (R.s.A.set j true)) (makeP R.s.W.x z ⟨(k:Nat),op.a,op.b⟩).2) j) j:=by
      unfold mkC;rw[ht];dsimp only;rw[jW hz,Int.toNat_natCast]
      rfl
     rw[hR4] at hI4⊢;rw[ht];dsimp only;rw[jW hz]
     have hAr:=fun A (y1:CyM) (h2:HpR D (nf+1) (0+200000000) y1 R)=>jif (w0:=w0) (F:=A) h2
     have hTk:=fun A (y1:CyM) (h2:HpR D (nf+1) (0+200000000) y1 R)=>alTake_K (w0:=w0) (F:=A) hG h2 ht
     obtain⟨R1,hR1⟩: ∃ R1,al1 R (R.s.A.set j true)=R1:=⟨_,rfl⟩
     have hT1:R1.s.W=R.s.W:=by rw[←hR1];rfl
     rw[hR1] at hI4 hR4⊢;simp only[hR1] at hTk
     have hBd:=fun A (y1:CyM) (h2:HpR D (nf+1) (0+200000000) y1 R1)=>jfi (w0:=w0) (F:=A) h2
     have hMk:=fun A (y1:CyM) (h2:HpR D (nf+1) (0+200000000) y1 R1)=>alMake_K (w0:=w0) (F:=A) (hd:=⟨(k:Nat),op.a,op.b⟩) hG h2 hz
     rw[hT1] at hMk
     obtain⟨R2,hR2⟩: ∃ R2,al2 R1 (makeP R.s.W.x z ⟨(k:Nat),op.a,op.b⟩).2=R2:=⟨_,rfl⟩
     have hT2:R2.s.W.T=R.s.W.T:=by rw[←hR2];show R1.s.W.T=_;rw [hT1]
     rw[hR2] at hI4 hR4⊢;simp only[hR2] at hMk
     have hBl:=fun A (y1:CyM) (h2:HpR D (nf+1) (0+200000000) y1 R2)=>alBlack_K (w0:=w0) (F:=A) h2 hjl
     obtain⟨R3,hR3⟩: ∃ R3,al3 R2 j=R3:=⟨_,rfl⟩
     have hT3:R3.s.W.T=R.s.W.T:=by rw[←hR3];exact hT2
     rw[hR3] at hI4 hR4⊢;simp only[hR3] at hBl
     have hMi:=fun A (y1:CyM) (h2:HpR D (nf+1) (0+200000000) y1 R3)=>alMint_K (w0:=w0) (F:=A) (T:=R.s.W.T) hD h2 hT3 hge hjl (freeB_some hb2)
     obtain⟨R4,hR4'⟩: ∃ R4,al4 R3 j=R4:=⟨_,rfl⟩
     rw[hR4'] at hI4⊢;simp only[hR4'] at hMi
     have hPc:=fun A (y1:CyM) (h2:HpR D (nf+1) (0+200000000) y1 R4)=>hppaced_K (w0:=w0) (F:=A) (n:=sz) hG hD hI4 h2 ⟨by omega,by omega⟩ (by omega) (by omega)
     have hPl:=fun A (y1:CyM) (h2:HpR D (nf+1+1) (0+200000000+200000000) y1 (jdf D.C sz R4))=>jeE (w0:=w0) (F:=A) h2
     have hAd:=fun A (y1:CyM) (h2:HpR D (nf+1+1) (0+200000000+200000000) y1 (jdf D.C sz R4))=>jeF (w0:=w0) (F:=A) h2 hz
     unfold HpQ at hPc;clear hR1 hR2 hR3 hR4 hR4' hI4 hIR hI hmv htk;refine zmh ?_;refine zki ?_;intro b3 b4 b6;refine zal ?_;refine zaa ?_;refine zby ?_;refine zbb ?_;refine zbQ ?_;intro b7;refine zhf ?_;simp only[hpH_app];refine zbM ?_;refine za6 ?_;refine za0 ?_;refine zcJ ?_;refine ziS ?_;refine zoP ?_;refine zbF ?_;refine zcJ ?_;refine zaq ?_;refine zbR ?_;refine zb8 ?_;refine zqJ ?_;refine ziT ?_;refine zkI ?_;refine zcX ?_;refine zcX ?_;refine zqK ?_;refine zqL ?_;refine ze4 ?_;intro b10;refine zcl ?_;refine zV ?_;refine za5 ?_;refine zbe ?_;intro b11;refine zcO ?_;refine zw ?_;refine zbk fun T hT=>?_;refine zqM ?_;rintro _ _ ⟨rfl,y1,h2,rfl⟩;refine ze ?_;clear hT T;refine zdl ?_;refine zw ?_;refine zu fun T hT=>?_;refine zqN ?_;rintro _ _ ⟨rfl,rfl⟩;refine ze ?_;clear hT T;refine zy ?_;refine zcw ?_;refine zaI ?_;refine jn (hfr _ y1 h2) ja ?_;simp only[hpH_app];refine zy ?_;refine zdX ?_;refine zb9 ?_;refine zJ ?_
     (first|refine K.seq (K.drawn _ [(0,0),(1,0),(2,0),(3,0),(5,1),(6,1),(4,2),(7,4),(8,0),(9,0),(10,0),(11,0),(12,0)] (by kernel_rfl) (by kernel_rfl) (by kernel_rfl) (by kernel_rfl) (by kernel_rfl) (by kernel_rfl) Part.all ?_)|refine K.seq (K.seq (K.drawn _ [(0,0),(1,0),(2,0),(3,0),(5,1),(6,1),(4,2),(7,4),(8,0),(9,0),(10,0),(11,0),(12,0)] (by kernel_rfl) (by kernel_rfl) (by kernel_rfl) (by kernel_rfl) (by kernel_rfl) (by kernel_rfl) Part.all ?_))|refine K.drawn _ [(0,0),(1,0),(2,0),(3,0),(5,1),(6,1),(4,2),(7,4),(8,0),(9,0),(10,0),(11,0),(12,0)] (by kernel_rfl) (by kernel_rfl) (by kernel_rfl) (by kernel_rfl) (by kernel_rfl) (by kernel_rfl) Part.all ?_)
     refine zaC ?_;refine zbm ?_;refine zgo ?_;refine zcP ?_;refine zk fun T hT=>?_;refine zqO ?_;rintro _ _ ⟨rfl,rfl⟩;refine zaM ?_;clear hT T;refine zjb fun T hT=>?_;refine(CallV.part (CallV.fn (hTk _ y1 h2)) (by first|exact ja|(simp only[hpH_app];exact ja))).mono ?_;rintro _ _ ⟨rfl,y2,h3,rfl⟩;refine zi ?_;clear hT T;refine zeH ?_;simp only[hpH_app];refine zb9 ?_;refine zJ ?_
     (first|refine K.seq (K.drawn _ [(0,0),(1,0),(2,0),(3,0),(5,1),(6,1),(4,2),(7,4)] (by kernel_rfl) (by kernel_rfl) (by kernel_rfl) (by kernel_rfl) (by kernel_rfl) (by kernel_rfl) Part.all ?_)|refine K.seq (K.seq (K.drawn _ [(0,0),(1,0),(2,0),(3,0),(5,1),(6,1),(4,2),(7,4)] (by kernel_rfl) (by kernel_rfl) (by kernel_rfl) (by kernel_rfl) (by kernel_rfl) (by kernel_rfl) Part.all ?_))|refine K.drawn _ [(0,0),(1,0),(2,0),(3,0),(5,1),(6,1),(4,2),(7,4)] (by kernel_rfl) (by kernel_rfl) (by kernel_rfl) (by kernel_rfl) (by kernel_rfl) (by kernel_rfl) Part.all ?_)
     refine zaC ?_;refine zbm ?_;refine zgo ?_;refine zP ?_;refine zqP ?_;refine zk fun T hT=>?_;refine(CallV.part (CallV.fn (hBd _ y2 h3)) (by first|exact ja|(simp only[hpH_app];exact ja))).mono ?_;rintro _ _ ⟨rfl,rfl⟩;refine zaM ?_;clear hT T;refine zjb fun T hT=>?_;refine(CallV.part (CallV.fn (hMk _ y2 h3)) (by first|exact ja|(simp only[hpH_app];exact ja))).mono ?_;rintro _ _ ⟨rfl,y3,h4,rfl⟩;refine zi ?_;clear hT T;refine zam ?_;simp only[hpH_app];refine zV ?_;refine za0 ?_;refine ze1 ?_;refine zz fun T hT=>?_;refine(CallV.part (CallV.fn (hBl _ y3 h4)) (by first|exact ja|(simp only[hpH_app];exact ja))).mono ?_;rintro _ _ ⟨rfl,y4,h5,rfl⟩;refine ze ?_;clear hT T;refine zal ?_;refine zw ?_;refine zn ?_;refine jB (hMi _ y4 h5) ja ?_;rintro _ _ ⟨rfl,y5,h6,rfl⟩;refine zgs ?_;refine zaI ?_;refine jB (hPc _ y5 h6) ja ?_;rintro _ _ ⟨rfl,y6,h7,rfl⟩;simp only[hpH_app];refine zal ?_;refine za0 ?_;refine ze1 ?_;refine zu fun T hT=>?_;refine(CallV.part (CallV.fn (hPl _ y6 h7)) (by first|exact ja|(simp only[hpH_app];exact ja))).mono ?_;rintro _ _ ⟨rfl,rfl⟩;refine ze ?_;clear hT T;refine zz fun T hT=>?_;refine(CallV.part (CallV.fn (hAd _ y6 h7)) (by first|exact ja|(simp only[hpH_app];exact ja))).mono ?_;rintro _ _ ⟨rfl,rfl⟩;refine ze ?_;clear hT T;refine ziF ?_;refine zfr ?_;exact KE.fin je rfl jd (by first|exact ja|(simp only[hpH_app];exact ja)) ⟨rfl,y6,h7,rfl⟩
end
open Go.RowKit
set_option maxRecDepth 10000
section
variable {w0 : World} {F : jb} {c : Cfg} {vc vt : Value} {t : Nat} {m : Ju} {x : Tn}
theorem setSelf {α:Type} {l:List α} {v:α} {t:Nat} (h:l[t]?=some v):l.set t v=l:=by
 apply List.ext_getElem?
 grind
theorem pcNew_K {tr ast:Nat} {q p:Int} (h1:1≤tr∧tr≤1048576) (h2:ast≤1024):Call Tryz.prog w0 83 [.agg [.int .i64 q, .int .i64 (tr:Nat), .int .i64 p, .int .i64 (ast:Nat)].toArray] F (fun r H'=> ∃ b,r= .tuple [.pointer (some ⟨b,0,none⟩), .int .i64 0].toArray∧H'=paceH ⟨b,tr,ast,⟨0,0,0,0,false⟩⟩++F):=by
 have e1: ¬((tr:Nat):Int)<1:=by omega
 have e2: ¬((tr:Nat):Int)>1048576:=by omega
 have e3: ¬((ast:Nat):Int)<0:=by omega
 have e4: ¬((ast:Nat):Int)>1024:=by omega
 refine Call.enter1 (n:=28) (by rfl) Tryz.func83 rfl rfl rfl ?_;refine zb7 ?_;intro b1;refine zae ?_;refine zW ?_;refine ziw ?_;refine zim ?_;refine zQ ?_;refine zbU ?_;refine zaD ?_;refine zW ?_;refine zx ?_;refine zQ ?_;refine zbU ?_;refine zaD ?_;refine zaA ?_;refine zaX ?_;refine zae ?_;refine zby ?_;refine zgK ?_;intro b27;exact KE.fin je rfl jd ja ⟨_,rfl,rfl⟩
def hC0 (c:Cfg) (t:Nat) (x:Tn):HpC:=⟨gOf c (t:Nat),c.grey.toNat,c.workers.toNat,c.gens,t,x.trigger.toNat,x.assist.toNat,x.caps.toNat⟩
theorem hC0_ok (hc:jz c=true) (hx:c.tn[t]?=some x):HpCk (hC0 c t x):=by
 have hcfg:=Jf hc
 obtain⟨t1,t2,t3,t4⟩:=hcfg.ten x (List.mem_of_getElem? hx)
 have htl:=jv hx
 have ht:JB c t 0=true:=jcH (i:=t) (j:=0) hc htl (by have:=hcfg.cl;omega)
 have h1:=hcfg.workers
 have h2:=hcfg.grey
 have h3:=hcfg.tn
 exact⟨(g_at ht).ok,by show 1≤c.grey.toNat;omega,by show c.workers.toNat≤8;omega,hcfg.gens,by show t<8;omega,by show 1≤x.trigger.toNat∧x.trigger.toNat≤1048576;omega,by show x.assist.toNat≤1024;omega,by show 1≤x.caps.toNat∧x.caps.toNat≤1024;omega⟩
theorem gOf_q (hc:jz c=true) (hx:c.tn[t]?=some x):x.quota=((gOf c (t:Nat)).q:Nat):=by
 have hcfg:=Jf hc
 obtain⟨t1,t2,t3,t4⟩:=hcfg.ten x (List.mem_of_getElem? hx)
 obtain⟨y0,hy0⟩:=jh (l:=c.cl) (k:=0) (by have:=hcfg.cl;omega)
 have:=hcfg.el y0 (List.mem_of_getElem? hy0)
 show x.quota=(((jbM c ((t:Nat):Int)).toNat:Nat):Int)
 grind[jbM]
def hD0 (c:Cfg) (t:Nat) (x:Tn) (R0:List (List Int)) (mb b qb:Nat) (y:CyM) (oc ot:Own):HpD:=⟨hC0 c t x,c,oc,ot,R0,b,y.b,qb,mb,y.B.b,y.T.b,y.a.b,y.N.b,y.B.p.b⟩
set_option maxHeartbeats 1000000 in
theorem hpNew_K (hG:ji w0) (hR:Jc w0 F c vc vt) (hc:jz c=true) (hx:c.tn[t]?=some x) (okm:jak m) (hm:m.R[t]?=some (List.replicate (gOf c t).words 0)):
  Call Tryz.prog w0 51 [jr c vc vt, .int .i64 (t:Nat), .pointer (some ⟨m.b,0,none⟩)] (jy m++F)
   (fun r H'=> ∃ D y,HpDok D∧HpR D 1 0 y (jbe D.C)∧D.c=c∧D.C=hC0 c t x∧D.R0=m.R∧D.mb=m.b∧y.B.m=m∧r= .tuple [.pointer (some ⟨D.b,0,none⟩), .int .i64 0].toArray∧H'=hpH D y (jbe D.C)++F):=by
 have hcfg:=Jf hc
 have hCk:=hC0_ok hc hx
 have hq:=gOf_q hc hx
 have hwk:=hcfg.workers
 obtain⟨t1,t2,t3,t4⟩:=hcfg.ten x (List.mem_of_getElem? hx)
 have hcl8:=hcfg.cl
 have htn8:=hcfg.tn
 have hlt:=jv hx
 have hcn:=fun A (hp:Part A F)=>cyNew_K (F:=A) (t:=t) hG (hR.part hp) hc hx okm hm
 have hOw:=fun A (hp:Part A F)=>Own_K (hR.part hp) (by omega) (by omega)
 have hfin: ∀ (b qb:Nat) (y:CyM) (oc ot:Own),CyNew (gOf c (t:Nat)) c.grey.toNat x.caps.toNat c.workers.toNat c.gens t m y→oOk iE c.cl oc→oOk tnE c.tn ot→HpDok (hD0 c t x m.R m.b b qb y oc ot)∧HpR (hD0 c t x m.R m.b b qb y oc ot) 1 0 y (jbe (hC0 c t x)):=fun b qb y oc ot hy k1 k2=>by
  refine⟨⟨hCk,hc,rfl,⟨x,hx,hq⟩,k1,k2,by show c.workers=((c.workers.toNat:Nat):Int);omega⟩,⟨hy.R,rfl,by rw[hy.m];rfl,rfl,rfl,rfl,rfl,rfl,hy.nw,hy.G,by rw[hy.f];exact Nat.le_refl 1,hy.t,?_,⟨Nat.zero_le _,Nat.zero_le _,Nat.zero_le _,Nat.zero_le _⟩,Nat.le_refl 0⟩⟩;rw[hy.m];exact(setSelf hm).symm
 obtain⟨tr,htr⟩: ∃ tr:Nat,x.trigger=tr:=⟨x.trigger.toNat,by omega⟩
 obtain⟨ast,has⟩: ∃ ast:Nat,x.assist=ast:=⟨x.assist.toNat,by omega⟩
 have hpc:=fun A (q p:Int)=>pcNew_K (w0:=w0) (F:=A) (tr:=tr) (ast:=ast) (q:=q) (p:=p) (by omega) (by omega)
 have hxc:x=⟨x.quota,(tr:Nat),x.caps,(ast:Nat)⟩:=by rw[←htr,←has]
 have hH: ∀ (b qb:Nat) (y:CyM) (oc ot:Own),hpH (hD0 c t x m.R m.b b qb y oc ot) y (jbe (hC0 c t x))++F=(b,cells [oV oc c.cl.length, .int .i64 c.page,oV ot c.tn.length, .int .i64 c.workers, .int .i64 c.grey, .int .i64 c.gens, .int .i64 (t:Nat), .pointer (some ⟨y.b,0,none⟩), .pointer (some ⟨qb,0,none⟩), .int .i64 0] 120)::(paceH ⟨qb,tr,ast,⟨0,0,0,0,false⟩⟩++(oH iE 3 c.cl oc++(oH tnE 55 c.tn ot++(cycH y++F)))):=fun b qb y oc ot=>by
  have e1:x.trigger.toNat=tr:=by omega
  have e2:x.assist.toNat=ast:=by omega
  rw[hpH_app,←e1,←e2]
  rfl
 obtain⟨hS,hT',o1,o2,l1,l2⟩:=hR
 have hx':c.tn[((t:Nat):Int).toNat]?=some ⟨x.quota,(tr:Nat),x.caps,(ast:Nat)⟩:=by rw[←hxc];exact hx
 unfold jr jG at hcn hOw⊢;refine Call.enter3 (n:=38) (by kernel_rfl) Tryz.func51 rfl rfl rfl ?_;refine zdN ?_;intro b3;refine zgz ?_;refine jB (hcn ((b3,cells [vc, .int .i64 c.page,vt, .int .i64 c.workers, .int .i64 c.grey, .int .i64 c.gens] 25)::F) ja) ja ?_;rintro _ _ ⟨y,hy,rfl,rfl⟩;refine zbM ?_;refine zK ?_;refine zaa ?_;refine zj ?_;refine zj2 ?_;refine zp ?_;refine JY (hpc _ _ _) ?_;rintro _ _ ⟨qb,rfl,rfl⟩;refine zcC ?_;refine zcf ?_;refine JY (hOw _ ja) ?_;rintro _ _ ⟨oc,ot,k1,k2,rfl,rfl⟩;refine zB ?_;refine zj ?_;refine zci ?_;intro b36;refine zj ?_;refine zab ?_;exact KE.fin je rfl jd ja ⟨_,y,(hfin b36 qb y oc ot hy k1 k2).1,(hfin b36 qb y oc ot hy k1 k2).2,rfl,rfl,rfl,rfl,hy.m,rfl,(hH b36 qb y oc ot).symm⟩
end
set_option maxRecDepth 10000
def cycX (y:CyM):jb:=(y.b,cells [.pointer (some ⟨y.B.p.b,0,none⟩), .pointer (some ⟨y.a.b,0,none⟩), .pointer (some ⟨y.B.b,0,none⟩), .pointer (some ⟨y.T.b,0,none⟩), .pointer (some ⟨y.N.b,0,none⟩), .pointer (some ⟨y.k.b,0,none⟩), .pointer (some ⟨y.s.b,0,none⟩), .int .i64 (y.nw:Nat), .int .u8 (y.ph:Nat), .int .i64 (y.st:Nat)] 128)::(jap y.s++(j7 y.a y.B.p++(jt y.k y.B.p++(planH y.B.p++(jT y.B++(jK y.T++JX y.N))))))
def hpX (D:HpD) (y:CyM) (h:HpP):jb:=(D.b,cells (hpL D h) 120)::(paceH ⟨D.qb,D.C.tr,D.C.ast,h.p⟩++(oH iE 3 D.c.cl D.oc++(oH tnE 55 D.c.tn D.ot++cycX y)))
theorem hpX_H {D:HpD} {y:CyM} {h:HpP}:hpH D y h=hpX D y h++jy y.B.m:=by
 simp[hpH,hpX,cycH,cycX]
structure TnM where
 D:HpD
 y:CyM
 h:HpP
def TnM.X (q:TnM):jb:=hpX q.D q.y q.h
def TnM.wm (m:Ju) (q:TnM):TnM:=⟨{q.D with R0:=m.R},{q.y with B:={q.y.B with m:=m}},q.h⟩
theorem wm_X {q:TnM} {m:Ju} (h:m.b=q.y.B.m.b):(q.wm m).X=q.X:=by
 simp[TnM.X,TnM.wm,hpX,cycX,jT,hpL]
def JH:List TnM→jb
 | []=> []
 |q::l=>q.X++JH l
theorem jf9: ∀ {A B:List TnM},JH (A++B)=JH A++JH B
 | [],B=>rfl
 |q::A,B=>by
  show q.X++JH (A++B)=(q.X++JH A)++JH B
  rw[jf9,List.append_assoc]
theorem jjl {m:Ju}: ∀ {L:List TnM},(∀ q∈L,m.b=q.y.B.m.b)→JH (L.map (TnM.wm m))=JH L
 | [],_=>rfl
 |q::L,h=>by
  show(q.wm m).X++JH (L.map (TnM.wm m))=q.X++JH L
  rw[wm_X (h q (.head _)),jjl fun p hp=>h p (.tail _ hp)]
theorem HeI.new {C:HpC} (hC:HpCk C):HeI C (jbe C):=by
 refine⟨newC_ok hC.long hC.nw,fun _=>newC_t hC.g,fun e=>absurd rfl e,rfl,⟨Nat.zero_le _,Nat.zero_le _,Nat.zero_le _,Nat.zero_le _⟩,fun e he=>?_,List.length_replicate ..⟩
 have:=List.eq_of_mem_replicate he
 subst this;exact⟨Int.le_refl 1,hC.gn.1⟩
structure jbz (c:Cfg) (m:Ju) (nf t:Nat) (q:TnM):Prop where
 ok:HpDok q.D
 R:HpR q.D nf 400000000 q.y q.h
 em:q.y.B.m=m
 ec:q.D.c=c
 C: ∃ x,c.tn[t]?=some x∧q.D.C=hC0 c t x
 I:HeI q.D.C q.h
section
variable {c : Cfg} {m m' : Ju} {nf nf' t : Nat} {q : TnM}
theorem jbz.tn (h:jbz c m nf t q):q.D.C.tn=t:=by
 obtain⟨x,_,e⟩:=h.C
 rw[e];rfl
theorem jbz.mono (h:jbz c m nf t q) (hn:nf≤nf'):jbz c m nf' t q:=⟨h.ok,h.R.mono hn (Nat.le_refl _),h.em,h.ec,h.C,h.I⟩
theorem jbz.row (h:jbz c m nf t q):m.R[t]?=some q.h.s.W.x:=by
 have h1:=h.R.p.p.bo.r
 rw[h.em,h.R.t,h.tn] at h1
 omega
theorem jbz.wm (h:jbz c m nf t q) (hb:m'.b=m.b) (okm:jak m') (hR:m'.R[t]?=m.R[t]?):jbz c m' nf t (q.wm m'):=by
 have hr:=h.row
 have htn:=h.tn
 have ht:=h.R.t
 obtain⟨ok,R,hm,hc,C,I⟩:=h
 have hp:=R.p
 have hbo:=hp.p.bo
 refine⟨⟨ok.C,ok.c,ok.g,ok.t,ok.oc,ok.ot,ok.nw⟩,⟨⟨⟨⟨⟨okm,hbo.p,?_,hbo.n,hbo.w⟩,hp.p.tb,hp.p.pi,hp.p.eT,hp.p.eN,hp.p.bb,hp.p.tbb,hp.p.nb,hp.p.w⟩,hp.ok,hp.R,hp.oka,hp.A,hp.oks,hp.sa,hp.at_,hp.D,hp.ab,hp.bb,hp.mb,hp.ph,hp.st,hp.nw⟩,hp.eg,hp.el,hp.i,hp.le⟩,R.b,?_,R.B,R.T,R.a,R.N,R.pl,R.nw,R.g,R.f,R.t,?_,R.pb,R.w⟩,rfl,hc,C,I⟩
 ·show m'.R[q.y.B.t]?=some q.h.s.W.x
  grind
 ·show m'.b=q.D.mb
  rw[hb,←hm];exact R.m
 ·show m'.R=m'.R.set q.D.C.tn q.h.s.W.x
  grind[setSelf]
end
structure FmM where
 b:Nat
 c:Cfg
 oc:Own
 ot:Own
 m:Ju
 L:List TnM
 o:Own
def pbE:Enc Nat:=⟨fun n=> [.pointer (some ⟨n,0,none⟩)],1,fun _=>rfl,by intro x v hv;simp at hv;subst hv;rfl⟩
def FmM.ps (f:FmM):List Nat:=f.L.map (·.D.b)
def FmM.hs (f:FmM):List HpP:=f.L.map (·.h)
def fmL (f:FmM):List Value:=[oV f.oc f.c.cl.length, .int .i64 f.c.page,oV f.ot f.c.tn.length, .int .i64 f.c.workers, .int .i64 f.c.grey, .int .i64 f.c.gens, .pointer (some ⟨f.m.b,0,none⟩),oV f.o f.ps.length]
def fmH (f:FmM):jb:=(f.b,cells (fmL f) 71)::(oH iE 3 f.c.cl f.oc++(oH tnE 55 f.c.tn f.ot++(oH pbE 64 f.ps f.o++(jy f.m++JH f.L))))
theorem fmH_app {f:FmM} {F:jb}:fmH f++F=(f.b,cells [oV f.oc f.c.cl.length, .int .i64 f.c.page,oV f.ot f.c.tn.length, .int .i64 f.c.workers, .int .i64 f.c.grey, .int .i64 f.c.gens, .pointer (some ⟨f.m.b,0,none⟩),oV f.o f.ps.length] 71)::(oH iE 3 f.c.cl f.oc++(oH tnE 55 f.c.tn f.ot++(oH pbE 64 f.ps f.o++(jy f.m++(JH f.L++F))))):=by
 simp[fmH,fmL]
structure FmOk (f:FmM) (nf:Nat):Prop where
 cfg:jz f.c=true
 oc:oOk iE f.c.cl f.oc
 ot:oOk tnE f.c.tn f.ot
 o:oOk pbE f.ps f.o
 n:f.L.length=f.c.tn.length
 r:f.m.R.length=f.c.tn.length
 T: ∀ (t:Nat) (q:TnM),f.L[t]?=some q→jbz f.c f.m nf t q
structure FmTo (f f':FmM):Prop where
 b:f'.b=f.b
 c:f'.c=f.c
 ps:f'.ps=f.ps
 m:f'.m.b=f.m.b
theorem FmTo.refl {f:FmM}:FmTo f f:=⟨rfl,rfl,rfl,rfl⟩
theorem FmTo.trans {f f' f'':FmM} (h:FmTo f f') (h':FmTo f' f''):FmTo f f'':=⟨h'.b.trans h.b,h'.c.trans h.c,h'.ps.trans h.ps,h'.m.trans h.m⟩
structure FmSt (f f':FmM) (t nf:Nat) (h':HpP):Prop where
 ok:FmOk f' nf
 to_:FmTo f f'
 hs:f'.hs=f.hs.set t h'
 R:f'.m.R=f.m.R.set t h'.s.W.x
section
variable {w0 : World} {f f' : FmM} {F : jb} {nf nf' t : Nat} {q : TnM} {h' : HpP} {fn : FuncId} {args : List Value}
theorem FmOk.mono (ok:FmOk f nf) (hn:nf≤nf'):FmOk f nf':=⟨ok.cfg,ok.oc,ok.ot,ok.o,ok.n,ok.r,fun t q h=>(ok.T t q h).mono hn⟩
theorem FmOk.at_ (ok:FmOk f nf) (ht:t<f.c.tn.length): ∃ q,f.L[t]?=some q∧jbz f.c f.m nf t q:=by
 obtain⟨q,hq⟩:=jh (l:=f.L) (k:=t) (by rw[ok.n];omega)
 exact⟨q,hq,ok.T t q hq⟩
theorem FmOk.lift {P:Value→Prop} (ok:FmOk f nf) (hq:f.L[t]?=some q) (hn:nf≤nf') (hI:HeI q.D.C h') (hc: ∀ A,Call Tryz.prog w0 fn args (hpH q.D q.y q.h++A) (fun r H'=>P r∧HpQ q.D nf' 400000000 h' A H')):
  Call Tryz.prog w0 fn args (fmH f++F) (fun r H'=>P r∧ ∃ f',FmSt f f' t nf' h'∧H'=fmH f'++F):=by
 have hk:=ok.T t q hq
 have hkm:=hk.em
 have hktn:=hk.tn
 have htl:=jv hq
 have hL:f.L=f.L.take t++q::f.L.drop (t+1):=by
  obtain⟨hl,e⟩:=List.getElem?_eq_some_iff.1 hq
  rw[←e,←List.drop_eq_getElem_cons hl,List.take_append_drop]
 obtain⟨A,hA⟩: ∃ A,A=f.L.take t:=⟨_,rfl⟩
 obtain⟨B,hB⟩: ∃ B,B=f.L.drop (t+1):=⟨_,rfl⟩
 have hAl:A.length=t:=by grind
 rw[←hA,←hB] at hL
 have hX:JH f.L=JH A++(q.X++JH B):=by rw[hL,jf9];rfl
 refine Call.at_ (hc ((f.b,cells [oV f.oc f.c.cl.length, .int .i64 f.c.page,oV f.ot f.c.tn.length, .int .i64 f.c.workers, .int .i64 f.c.grey, .int .i64 f.c.gens, .pointer (some ⟨f.m.b,0,none⟩),oV f.o f.ps.length] 71)::(oH iE 3 f.c.cl f.oc++(oH tnE 55 f.c.tn f.ot++(oH pbE 64 f.ps f.o++(JH A++(JH B++F))))))) ?_ ?_
 ·rw[fmH_app,hX,hpX_H,hkm];unfold TnM.X;simp only[List.append_assoc];exact ja
 ·rintro r _ ⟨hP,y',hR',rfl⟩
  have hmb:y'.B.m.b=f.m.b:=by rw[hR'.m,←hkm];exact hk.R.m.symm
  have hmR:y'.B.m.R=f.m.R.set t h'.s.W.x:=by
   rw[hR'.R,←hkm,hk.R.R,hktn,List.set_set]
  have hother: ∀ u,u≠t→y'.B.m.R[u]?=f.m.R[u]? :=fun u hu=>by rw[hmR,List.getElem?_set_ne (fun e=>hu e.symm)]
  have hget: ∀ (u:Nat) (p:TnM),(A.map (TnM.wm y'.B.m)++⟨q.D,y',h'⟩::B.map (TnM.wm y'.B.m))[u]?=some p→jbz f.c y'.B.m nf' u p:=fun u p hp=>by
   by_cases hu:u=t
   ·subst hu;rw[List.getElem?_append_right (by rw[List.length_map];omega),List.length_map,hAl,Nat.sub_self] at hp;simp only[List.getElem?_cons_zero,Option.some.injEq] at hp;subst hp;exact⟨hk.ok,hR',rfl,hk.ec,hk.C,hI⟩
   ·have hp2: ∃ p0,f.L[u]?=some p0∧p=p0.wm y'.B.m:=by
     rw[hL]
     by_cases hlt:u<t
     ·rw[List.getElem?_append_left (by rw[List.length_map];omega),List.getElem?_map] at hp;rw[List.getElem?_append_left (by omega)]
      cases h0:A[u]? with
      |none=>rw [h0] at hp;cases hp
      |some p0=>rw [h0] at hp;exact⟨p0,rfl,(Option.some.inj hp).symm⟩
     ·obtain⟨d,hd⟩: ∃ d,u=t+1+d:=⟨u-(t+1),by omega⟩
      rw[List.getElem?_append_right (by rw[List.length_map];omega),List.length_map,hAl,show u-t=d+1 by omega,List.getElem?_cons_succ,List.getElem?_map] at hp;rw[List.getElem?_append_right (by omega),hAl,show u-t=d+1 by omega,List.getElem?_cons_succ]
      cases h0:B[d]? with
      |none=>rw [h0] at hp;cases hp
      |some p0=>rw [h0] at hp;exact⟨p0,rfl,(Option.some.inj hp).symm⟩
    obtain⟨p0,h0,rfl⟩:=hp2
    exact((ok.T u p0 h0).wm hmb hR'.p.p.bo.m (hother u hu)).mono hn
  have hps:(A.map (TnM.wm y'.B.m)++⟨q.D,y',h'⟩::B.map (TnM.wm y'.B.m)).map (·.D.b)=f.ps:=by
   unfold FmM.ps;rw[hL];simp only[List.map_append,List.map_cons,List.map_map]
   rfl
  have hhs:(A.map (TnM.wm y'.B.m)++⟨q.D,y',h'⟩::B.map (TnM.wm y'.B.m)).map (·.h)=f.hs.set t h':=by
   unfold FmM.hs;rw[hL];simp only[List.map_append,List.map_cons,List.map_map];rw[List.set_append_right _ _ (by rw[List.length_map];omega),List.length_map,hAl,Nat.sub_self,List.set_cons_zero]
   rfl
  have hwA:JH (A.map (TnM.wm y'.B.m))=JH A:=jjl fun p hp=>by
   obtain⟨u,hu⟩:=List.getElem?_of_mem hp
   have hul:=jv hu
   have h0:=ok.T u p (by rw[hL,List.getElem?_append_left hul];exact hu)
   rw[h0.em];exact hmb
  have hwB:JH (B.map (TnM.wm y'.B.m))=JH B:=jjl fun p hp=>by
   obtain⟨u,hu⟩:=List.getElem?_of_mem hp
   have h0:=ok.T (t+1+u) p (by rw[hL,List.getElem?_append_right (by omega),hAl,show t+1+u-t=u+1 by omega,List.getElem?_cons_succ];exact hu)
   rw[h0.em];exact hmb
  refine⟨fmH {f with m:=y'.B.m,L:=A.map (TnM.wm y'.B.m)++⟨q.D,y',h'⟩::B.map (TnM.wm y'.B.m)}++F,⟨hP,{f with m:=y'.B.m,L:=A.map (TnM.wm y'.B.m)++⟨q.D,y',h'⟩::B.map (TnM.wm y'.B.m)},⟨⟨ok.cfg,ok.oc,ok.ot,?_,?_,?_,hget⟩,⟨rfl,rfl,hps,hmb⟩,hhs,hmR⟩,rfl⟩,?_⟩
  ·show oOk pbE _ f.o
   unfold FmM.ps;rw[hps];exact ok.o
  ·show(A.map (TnM.wm y'.B.m)++⟨q.D,y',h'⟩::B.map (TnM.wm y'.B.m)).length=f.c.tn.length
   rw[←ok.n,hL];simp
  ·show y'.B.m.R.length=f.c.tn.length
   rw[hmR,List.length_set];exact ok.r
  ·rw[fmH_app];unfold FmM.ps;rw[hps,jf9,hwA,hmb]
   show Part _ (_::(_++(_++(_++(_++((JH A++((⟨q.D,y',h'⟩:TnM).X++JH (B.map (TnM.wm y'.B.m))))++F))))))
   rw[hwB,hpX_H];unfold TnM.X FmM.ps;simp only[List.append_assoc];exact ja
theorem FmOk.lift0 {R:Value→Prop} (ok:FmOk f nf) (hq:f.L[t]?=some q) (hc: ∀ A,Call Tryz.prog w0 fn args (hpH q.D q.y q.h++A) (fun r H'=>R r∧H'=hpH q.D q.y q.h++A)):
  Call Tryz.prog w0 fn args (fmH f++F) (fun r H'=>R r∧H'=fmH f++F):=by
 have hk:=ok.T t q hq
 have hkm:=hk.em
 have hL:f.L=f.L.take t++q::f.L.drop (t+1):=by
  obtain⟨hl,e⟩:=List.getElem?_eq_some_iff.1 hq
  rw[←e,←List.drop_eq_getElem_cons hl,List.take_append_drop]
 obtain⟨A,hA⟩: ∃ A,A=f.L.take t:=⟨_,rfl⟩
 obtain⟨B,hB⟩: ∃ B,B=f.L.drop (t+1):=⟨_,rfl⟩
 rw[←hA,←hB] at hL
 have hX:JH f.L=JH A++(q.X++JH B):=by rw[hL,jf9];rfl
 refine Call.ro (A:=hpH q.D q.y q.h) hc ?_;rw[fmH_app,hX,hpX_H,hkm];unfold TnM.X;simp only[List.append_assoc];exact ja
end
open Go.RowKit
set_option maxRecDepth 10000
section
variable {C : HpC} {lg nw ai : Nat}
theorem alt_g:(C.alt lg nw ai).g=C.g:=by rfl
theorem jgt:(C.alt lg nw ai).tn=C.tn:=by rfl
end
section
variable {C : HpC} {lg nw ai : Nat} {h h' : HpP} {s s' : CyP} {n t : Nat}
theorem shdC_0 {g:PlG} {long:Nat} (h0:s.ph=0) (t:Int):shdC g long s t=s:=by grind[shdC]
theorem shdO_0 {g:PlG} {long:Nat} (h0:s.ph=0) (t:Int):Jd g long s t=s:=by
 grind[Jd,shdC_0]
theorem HpE.acts (hC:HpCk C) (hK:HpCk (C.alt lg nw ai)) (e:HpE C lg nw ai h h') {a:ja0} (ha:2≤a.w%6):HpE C lg nw ai {h with s:=doesC C.g C.long h.s a} {h' with s:=doesC C.g lg h'.s a}:=by
 refine e.act hC hK (.acts ha fun q=>by grind) (.acts ha fun q=>by grind) (fun h0=>?_) fun S0 A0 q=>q.acts hC.g ha
 rcases e.r with⟨_,h0',c,d⟩|⟨S0,A0,q⟩
 ·refine⟨jf6.trans h0,jf6.trans h0',?_,?_⟩
  all_goals
   grind[doesC,jbj,jcD,h2,shdO_0,shdC_0]
 ·have:=q.p;omega
theorem HpE.word (hC:HpCk C) (hK:HpCk (C.alt lg nw ai)) (e:HpE C lg nw ai h h') {k i w:Int} (hs:slotT h.s.W.T k=some ((n:Nat):Int)) (hw:0≤w∧w<18446744073709551616):HpE C lg nw ai {h with s:=jbH C.g h.s (n:Nat) i w} {h' with s:=jbH C.g h'.s (n:Nat) i w}:=by
 refine e.act hC hK (.word rfl hs hw) (.word rfl (by rw[e.T];exact hs) hw) (fun h0=>?_) fun S0 A0 q=>q.word hC.g hs hw
 rcases e.r with⟨_,h0',c,d⟩|⟨S0,A0,q⟩
 ·grind[jbH]
 ·have:=q.p;omega
theorem HpE.read (hC:HpCk C) (hK:HpCk (C.alt lg nw ai)) (e:HpE C lg nw ai h h') {k i:Int} (hs:slotT h.s.W.T k=some ((n:Nat):Int)) (hr:refO C.g h.s.W.x ((n:Nat):Int) i=some ((t:Nat):Int)) (hf:(JM h.s.W.T).isSome=true):HpE C lg nw ai {h with s:=jcA C.g C.long h.s (t:Nat)} {h' with s:=jcA C.g lg h'.s (t:Nat)}:=by
 have hrn:RchM C.g h.s.W n:=jcr.slot hs
 refine e.act hC hK (.read hs hr hf) (.read (by rw[e.T];exact hs) (by rw[alt_g,jcF hC.g (e.x hrn)];exact hr) (by rw[e.T];omega)) (fun h0=>?_) fun S0 A0 q=>q.read hC.g (jha hr) (q.I.cl.edge (q.I.cl.slot hs) hr)
 rcases e.r with⟨_,h0',c,d⟩|⟨S0,A0,q⟩
 ·grind[jcA,shdC_0]
 ·have:=q.p;omega
theorem HpE.make (hC:HpCk C) (hK:HpCk (C.alt lg nw ai)) (e:HpE C lg nw ai h h') {k:Int} {hd:HdP} (ht:(takeP C.g h.s.A k).2.1=0) (hf:(JM h.s.W.T).isSome=true) (hu:usedL C.g.L (takeP C.g h.s.A k).2.2≤C.g.q) (hl:jaz (jA C.g (takeP C.g h.s.A k).1) hd=true):HpE C lg nw ai {h with s:=mkC C.g h.s k hd} {h' with s:=mkC C.g h'.s k hd}:=by
 refine e.act hC hK (.make ht hf hu hl) (.make (by rw[e.A];exact ht) (by rw[e.T];omega) (by rw[e.A];exact hu) (by rw[e.A];exact hl)) (fun h0=>?_) fun S0 A0 q=>q.make hC.g ht
 rcases e.r with⟨_,h0',c,d⟩|⟨S0,A0,q⟩
 ·grind[takeP,mkC]
 ·have:=q.p;omega
theorem alloc_E (hC:HpCk C) (hK:HpCk (C.alt lg nw ai)) (e:HpE C lg nw ai h h') {a b:Int}:(Jn (C.alt lg nw ai) h' a b).1=(Jn C h a b).1∧HpE C lg nw ai (Jn C h a b).2 (Jn (C.alt lg nw ai) h' a b).2:=by
 unfold Jn;simp only[alt_g,jgt]
 split
 ·grind
 ·rename_i hm
  split
  ·grind
  ·rename_i hk
   try dsimp only
   have e1:HpE C lg nw ai (allocR C h (classI C.g (a+b+1))) (allocR (C.alt lg nw ai) h' (classI C.g (a+b+1))):=e.room hC hK isS_both
   have hI1:=e1.I
   revert e1 hI1
   generalize allocR C h (classI C.g (a+b+1))=h1
   generalize allocR (C.alt lg nw ai) h' (classI C.g (a+b+1))=h1'
   intro e1 hI1;rw[jls (C:=C) (sz:=C.g.y (classI C.g (a+b+1))) h1.s h1'.s e1.A e1.T,jgZ h1.s h1'.s e1.A e1.T]
   split
   ·grind
   ·split
    ·grind
    ·rename_i h2 h3
     have ht:=jgK hC hI1 (jfe hk) (not_false' h2)
     rw[e1.A,e1.T]
     obtain⟨j,y,htk,_,hy,_,_,_,hl⟩:=ji1 hC hI1 (not_false' hm) hk (not_false' h2)
     exact⟨rfl,(e1.make hC hK ht (freeB_some (not_false' h3)) (jkE hC hI1 (jfe hk) (not_false' h2)) (by grind[jW])).paced hC hK⟩
theorem HpE.head (hC:HpCk C) (hK:HpCk (C.alt lg nw ai)) (e:HpE C lg nw ai h h') {k:Int} {y:jq} (hs:slotT h.s.W.T k=some ((n:Nat):Int)) (hy:C.g.L[n]?=some y):jR C.g h.s.W.x h'.s.W.x n:=e.x (jcr.slot hs)
theorem jjC {g:PlG} (ok:jg g) {x x':List Int} {y:jq} (hS:jR g x x' n) (hy:g.L[n]?=some y) {i:Int}:ja9 x' y i=ja9 x y i:=by grind[ja9,jfQ]
theorem read_E (hC:HpCk C) (hK:HpCk (C.alt lg nw ai)) (e:HpE C lg nw ai h h') {sl a k:Int} (hs:slotT h.s.W.T k=some sl):(Jj (C.alt lg nw ai) h' sl a).1=(Jj C h sl a).1∧HpE C lg nw ai (Jj C h sl a).2 (Jj (C.alt lg nw ai) h' sl a).2:=by
 obtain⟨j,rfl,hj⟩:=jbG (jaG e.I.ok.w hs)
 obtain⟨y,hy⟩:=j9 hj
 have hrj:RchM C.g h.s.W j:=jcr.slot hs
 have hS:=e.x hrj
 unfold Jj;simp only[alt_g,jgt];rw[jW hy]
 try dsimp only
 rw[jjC hC.g hS hy,jjF hC.g hS hy,jh6 hC.g hS hy]
 split
 ·grind
 ·split
  ·grind
  ·split
   ·grind
   ·rename_i h1 h2 h3
    have e1:=e.room hC hK (is:=Jt) jgZ
    rw[jgZ _ _ e1.A e1.T]
    split
    ·grind
    ·rename_i h4
     have hW:=jhq hC e.I (is:=Jt)
     have hf:=(je9 (x:=h.s.W.x) (y:=y) (i:=a) (Classical.byContradiction h1)).1
     rw[not_false' h2] at hf
     obtain⟨t,ht⟩: ∃ t:Nat,(refP h.s.W.x C.g.slots y a).1=(t:Nat):=⟨((refP h.s.W.x C.g.slots y a).1).toNat,by omega⟩
     have hr:refO C.g h.s.W.x ((j:Nat):Int) a=some ((t:Nat):Int):=by
      unfold refO;rw [jW hy,if_pos ⟨jgj e.I.ok.rf hy hf,by omega⟩,ht]
     rw[ht,e1.T];exact⟨rfl,e1.read hC hK (n:=j) (k:=k) (i:=a) ((hW.t k).trans hs) (by rw[jcF hC.g (hW.w j hrj)];omega) (freeB_some (not_false' h4))⟩
theorem write_E (hC:HpCk C) (hK:HpCk (C.alt lg nw ai)) (e:HpE C lg nw ai h h') {sl a:Int} {v k:Nat} (hs:slotT h.s.W.T (k:Nat)=some sl) (hv:v<18446744073709551616):(jaO (C.alt lg nw ai) h' sl a v).1=(jaO C h sl a v).1∧HpE C lg nw ai (jaO C h sl a v).2 (jaO (C.alt lg nw ai) h' sl a v).2:=by
 obtain⟨j,rfl,hj⟩:=jbG (jaG e.I.ok.w hs)
 obtain⟨y,hy⟩:=j9 hj
 have hrj:RchM C.g h.s.W j:=jcr.slot hs
 have hS:=e.x hrj
 have hs':slotT h'.s.W.T (k:Nat)=some ((j:Nat):Int):=by rw[e.T];omega
 unfold jaO;simp only[alt_g,jgt];rw[jW hy]
 have hto:toW (C.alt lg nw ai) h' v=toW C h v:=by unfold toW;rw [e.T,jgt]
 rw[jjC hC.g hS hy,e.T,hto]
 split
 ·grind
 ·rename_i h1
  have hf:=(je9 (x:=h.s.W.x) (y:=y) (i:=a) (Classical.byContradiction h1)).1
  split
  ·rename_i h2
   refine⟨?_,e.word hC hK hs ⟨by omega,by omega⟩⟩;unfold JV;rw[jf4 hC.g hS hy]
   grind
  ·split
   ·grind
   ·rename_i h2 h3
    rw[not_false' h2] at hf
    have hr0:=jgj e.I.ok.rf hy hf
    have hr0':(refP h'.s.W.x C.g.slots y a).2=0:=by rw[jh6 hC.g hS hy];omega
    have q:=e.acts hC hK (a:=⟨2,(k:Nat),a,if v=0 then-1 else(capI v:Nat)⟩) (show 2≤2%6 by decide)
    rw[jhJ (tn:=C.tn) hs hy hr0 h3,jhJ (tn:=C.tn) hs' hy hr0' (by rw[e.T];omega)] at q;rw[e.T] at q;exact⟨rfl,q⟩
theorem op_E (hC:HpCk C) (hK:HpCk (C.alt lg nw ai)) (e:HpE C lg nw ai h h') {op:OpP} {sl:Int} (hs:slotT h.s.W.T (capI op.h:Nat)=some sl) (hv:op.v<18446744073709551616):(hpOp (C.alt lg nw ai) h' op sl).1=(hpOp C h op sl).1∧HpE C lg nw ai (hpOp C h op sl).2 (hpOp (C.alt lg nw ai) h' op sl).2:=by
 have hs':slotT h'.s.W.T (capI op.h:Nat)=some sl:=by rw[e.T];omega
 unfold hpOp
 split
 ·grind[read_E]
 ·split
  ·grind[write_E]
  ·split
   ·have q:=e.acts hC hK (a:=⟨4,(capI op.h:Nat),0,0⟩) (show 2≤4%6 by decide)
    rw[jh2 hs,jh2 hs'] at q;refine⟨?_,q⟩
    show told _=told _
    rw[e.N]
   ·split
    ·unfold jbo;rw[e.N]
     split
     ·grind
     ·have q:=e.acts hC hK (a:=⟨5,(capI op.h:Nat),0,0⟩) (show 2≤5%6 by decide)
      rw[jhH hs,jhH hs'] at q;exact⟨rfl,q⟩
    ·split
     ·have q:=e.acts hC hK (a:=⟨3,(capI op.h:Nat),0,0⟩) (show 2≤3%6 by decide)
      rw[jih hs,jih hs'] at q;exact⟨rfl,q⟩
     ·obtain⟨j,rfl,hj⟩:=jbG (jaG e.I.ok.w hs)
      obtain⟨y,hy⟩:=j9 hj
      have hS:=e.x (jcr.slot hs:RchM C.g h.s.W j)
      refine⟨?_,e⟩;unfold jeV jbr;simp only[alt_g];rw[jW hy]
      try dsimp only
      rw[jfQ hC.g hS hy]
      have hwp: ∀ i,wordP h'.s.W.x y i=wordP h.s.W.x y i:=fun i=>jjF hC.g hS hy
      grind
theorem does_E (hC:HpCk C) (hK:HpCk (C.alt lg nw ai)) (e:HpE C lg nw ai h h') {op:OpP} (hv:op.v<18446744073709551616):(jD (C.alt lg nw ai) h' op).1=(jD C h op).1∧HpE C lg nw ai (jD C h op).2 (jD (C.alt lg nw ai) h' op).2:=by
 unfold jD
 split
 ·grind
 ·split
  ·grind[alloc_E]
  ·rw[e.T,jgt]
   cases hs:hpSlot C.tn h.s.W.T op.h with
   |none=>grind
   |some sl=>
    obtain⟨a,b⟩:=op_E hC hK e (slot_named hs) hv
    try dsimp only
    rw[a];exact⟨rfl,b⟩
theorem do_E (hC:HpCk C) (hK:HpCk (C.alt lg nw ai)) (e:HpE C lg nw ai h h') {op:OpP} (hv:op.v<18446744073709551616):(jS (C.alt lg nw ai) h' op).1=(jS C h op).1∧HpE C lg nw ai (jS C h op).2 (jS (C.alt lg nw ai) h' op).2:=by
 obtain⟨a,b⟩:=does_E hC hK (e.wk 0 0) hv
 unfold jS
 try dsimp only
 refine⟨?_,b⟩;rw[a];unfold jgn;rw[b.A,b.si,b.cy,b.ac]
 rfl
end
end Go.Proofs.YtebiafomiemgbaaGreatDoor.Sw
