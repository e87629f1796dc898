/-The walker and contracts, part 40.-/
import Derived.Test.YtciaccbemnpipaaGreatDoorD2
import Derived.Test.YtciaccbemnpipaaGreatDoorJ36
import Derived.Test.YtciaccbemnpipaaGreatDoorJ37
set_option linter.all false
namespace Go.Proofs.YtciaccbemnpipaaGreatDoor.Sw
set_option maxHeartbeats 8000000
open Go.Proofs.YtciaccbemnpipaaGreatDoor renaming lo -> qL, hi -> qH
open Go.RowKit
set_option maxRecDepth 10000
structure OfS where
 i:Nat
theorem jiL {n:Int}: ∀ {l:List Int} {i:Nat} {x:Int},i<firstP n l->l[i]?=some x-> ¬n<=x
 | [],i,x,h,e=>by simp at e
 |y::l,0,x,h,e=>by
  unfold firstP at h;simp only[List.getElem?_cons_zero,Option.some.injEq] at e;subst e
  split at h
  ·omega
  ·assumption
 |y::l,i+1,x,h,e=>by
  unfold firstP at h
  split at h
  ·omega
  ·exact jiL (n:=n) (l:=l) (i:=i) bc (by simpa using e)
theorem jh5 {n:Int}: ∀ {l:List Int} {x:Int},l[firstP n l]?=some x->n<=x
 | [],x,e=>by simp at e
 |y::l,x,e=>by
  unfold firstP at e
  split at e
  ·cases e;assumption
  ·exact jh5 (by simpa using e)
theorem jiM {n:Int}: ∀ {l:List Int},firstP n l<=l.length
 | []=>Nat.le_refl _
 |y::l=>by
  unfold firstP
  split
  ·exact Nat.zero_le _
  ·have:=jiM (n:=n) (l:=l)
   simp only[List.length_cons];omega
theorem rOfA_K {w0:World} {F:jb} {v:Value} {l:List Int} {n:Int} (hS:Sli w0 F iE v l) (hl:l.length<=140737488355328) (hc:Jk l=true):
  Cs w0 126 [v, .int .i64 n] F (.tuple [.int .i64 (ofP l n).1, .int .i64 (ofP l n).2].toArray):=by
 have hof:ofP l n=if firstP n l=l.length\/n<1 then(0,50) else(((firstP n l:Nat):Int),0):=by unfold ofP;rw [if_pos hc]
 have hno: ∀ (i:Nat) (z:Int),i<firstP n l->l[i]?=some z-> ¬n<=z:=fun i z h1 h2=>jiL h1 h2
 have hyes: ∀ z,l[firstP n l]?=some z->n<=z:=fun z h=>jh5 h
 have hfl:=jiM (n:=n) (l:=l)
 by_cases hn:n<1
 ·rw[hof,if_pos (.inr hn)]
  have hn0: ¬n>0:=by omega
  refine en2 27 Tryz.func126 ?_;refine xq10 fun T hT=>?_;refine(CallV.fn (je2 hS hl)).mono ?_;rw[hc];rintro _ _ ⟨rfl,hH⟩
  obtain rfl:=hH.symm
  unfold jaX;simp only[if_true];refine ze ?_;clear hT T;refine xr13 ?_;refine K.loopT (σ:=OfS) [(0,_),(1,_)] (fun s kp_=>(6, .int .i64 (s.i:Nat))::kp_) (fun s=>F) (fun s=>s.i=0) (fun s=>0) (⟨0⟩) jg ja (rfl) ?_;rintro⟨i⟩ hi;dsimp only at hi|-;subst hi
  by_cases hil:((0:Nat):Int)<((l.length:Nat):Int)
  ·refine xr26 ?_;exact zd
  ·refine xr26 ?_;exact zd
 ·have hn0:n>0:=by omega
  obtain⟨k,hk⟩: ∃ k,firstP n l=k:=⟨_,rfl⟩
  rw[hk] at hof hno hyes hfl;refine en2 27 Tryz.func126 ?_;refine xq10 fun T hT=>?_;refine(CallV.fn (je2 hS hl)).mono ?_;rw[hc];rintro _ _ ⟨rfl,hH⟩
  obtain rfl:=hH.symm
  unfold jaX;simp only[if_true];refine ze ?_;clear hT T;refine xr13 ?_;refine K.loopT (σ:=OfS) [(0,_),(1,_)] (fun s kp_=>(6, .int .i64 (s.i:Nat))::kp_) (fun s=>F) (fun s=>s.i<=k) (fun s=>k+1-s.i) (⟨0⟩) jg ja (Nat.zero_le _) ?_;rintro⟨i⟩ hi;dsimp only at hi|-
  by_cases hil:i<l.length
  ·have hil':((i:Nat):Int)<((l.length:Nat):Int):=by omega
   obtain⟨z,hz⟩:=jq hil
   by_cases hc:i=k
   ·subst hc
    have hne:=hyes z hz
    rw[hof,if_neg bc];refine xr42 ?_;exact zd
   ·have hne:=hno i z bc hz
    refine xr37 ?_;exact KE.again ⟨i+1⟩ jg ja (by show i+1<=k;omega) (by show k+1-(i+1)<k+1-i;omega)
  ·have hil': ¬((i:Nat):Int)<((l.length:Nat):Int):=by omega
   rw[hof,if_pos (.inl bc)];refine xr26 ?_;exact zd
section
variable {C : HpC} {h : HpP} {n d : Nat}
theorem jkH (hC:j6 C) (hJ:HeJ C h):(jbr C h).wk<=h.wk+100000000:=by
 have hn:=(jc8 (g:=C.g) (long:=C.long) (s:=h.s)).ok hC.g hJ.i.ok
 have h2:=hn.mes
 have h3:=hJ.l.s
 show h.wk+_<=_
 omega
theorem qroom_wk (hC:j6 C) (hJ:HeJ C h) {is:CyP->Bool}:(hpRoom C is h).wk<=h.wk+200000000:=by
 have h1:(hpRoom1 C is h).wk<=h.wk+100000000:=by
  unfold hpRoom1
  split
  ·exact jkH hC hJ
  ·omega
 have hJ1:=hJ.mvs hC (jeE (wr:=true) hC hJ.i (is:=is))
 unfold hpRoom
 split
 ·omega
 ·rename_i hq
  have:=jkH hC (hJ1.mv hC (HpMv.begin (wr:=true) (jeX hq)))
  have e:(jb4 C (hpRoom1 C is h)).wk=(hpRoom1 C is h).wk:=rfl
  omega
theorem jjr (hC:j6 C): ∀ (d:Nat) (h:HpP),HeI C h->d<=h.p.debt->(JY C d h).wk+Jg C.g (JY C d h).s<=h.wk+Jg C.g h.s
 |0,h,_,_=>Nat.le_refl _
 |d+1,h,hI,hd=>by
  unfold JY
  cases hh:jM C.g C.long h.s with
  |none=>exact Nat.le_refl _
  |some s'=>
   have hm:=jcm hC.g hI.ok hh
   have hI2:HeI C ⟨s',{h.p with debt:=d},h.wk+1⟩:=hI.mvs hC ((HpMv.one (wr:=true) (.help hh)).tail (.free (h:={h with s:=s'}) rfl fun hb=>⟨hb.s,hb.t,by have:=hb.d;show d<=M62;dsimp only at this;omega,hb.c⟩))
   have:=jjr hC d _ hI2 (Nat.le_refl _)
   dsimp only at this|-
   omega
end
section
variable {R0 : List (List Int)} {w0 : World} {D F : jb} {C : HpC} {c : Cfg} {vc vt : Value} {v : PlV} {d : CyV} {h : HpP}
variable {op : OpP}
theorem HqR.p (hR:HqR R0 w0 D C c vc vt v d h) {h':HpP} (e:h'.s=h.s):HqR R0 w0 D C c vc vt v d h':=⟨by rw[e];exact hR.y,hR.c,hR.e1,hR.e2⟩
theorem jjJ (hK:HqK C c v):Jk c.cl=true/\c.cl.length<=8:=by
 have hc:Jk c.cl=true:=by have:=hK.cf;unfold cfgP at this;rw [Bool.and_eq_true] at this;exact this.1
 refine⟨hc,?_⟩
 have:=hK.k.g.m.2
 rw[hK.g,gOf_m] at this;exact this
theorem hq_get (hK:HqK C c v) {k:Nat} (hk:k<C.g.m):c.cl[((k:Nat):Int).toNat]?=some ((C.g.y k:Nat):Int):=by
 have hc:=(jjJ hK).1
 rw[hK.g,gOf_m] at hk
 obtain⟨v,hv⟩:=jq hk
 have hn:=jgQ hc v (List.mem_of_getElem? hv)
 rw[Int.toNat_natCast,hv,hK.g,gOf_y hv]
 congr 1
 omega
theorem hqdue_K {n:Nat} (hK:HqK C c v) (hJ:HeJ C h) (hR:HqR R0 w0 D C c vc vt v d h) (hw:h.wk<=900000000) (due:Nat) (hd:due=1->h.p.act=false) (hd2:due=2->h.p.act=true):
  (due=1->Call Tryz.prog w0 135 [.agg (hqL C c vc vt v d h).toArray] (D++F) (HqG R0 w0 D F C c vc vt v (jcc C due h) id))/\(due=2->Call Tryz.prog w0 136 [.agg (hqL C c vc vt v d h).toArray] (D++F) (HqG R0 w0 D F C c vc vt v (jcc C due h) id)):=by
 have hpa:=hJ.i.pa
 constructor
 ·intro e
  have ha:=hd e
  have h0:h.s.ph=0:=Classical.byContradiction fun q=>by rw[ha,decide_eq_true q] at hpa;cases hpa
  unfold jcc;rw[if_pos e];exact jiF hK hJ hR h0
 ·intro e
  have ha:=hd2 e
  have h0:h.s.ph≠0:=of_decide_eq_true (hpa.symm.trans ha)
  unfold jcc;rw[if_neg bc,if_pos e];exact jhd hK hJ hR h0 bc
theorem hqalloc_K (hK:HqK C c v) (hJ:HeJ C h) (hR:HqR R0 w0 D C c vc vt v d h) (hw:h.wk<=1000):
  Call Tryz.prog w0 65 [.agg (hqL C c vc vt v d h).toArray,opV op] (D++F) (HqG R0 w0 D F C c vc vt v (hpAlloc C h op.a op.b).2 (fun a=> .tuple [a,snV (hpAlloc C h op.a op.b).1].toArray)):=by
 have hC:=hK.k
 have hgn:=hC.gn
 obtain⟨hcl,hcl8⟩:=jjJ hK
 have hcC:=hR.c.cl
 have hneed:=fun A=>jkF (w0:=w0) (H:=A) (h:=⟨0,op.a,op.b⟩)
 unfold hdV jaj at hneed;dsimp only at hneed
 have htold:=fun A (D':jb) d' (e:Int) h' (hR':HqR R0 w0 D' C c vc vt v d' h')=>je8 (F:=A) (e:=e) hR'
 unfold hpAlloc;unfold HqG;unfold opV
 by_cases hm:Jb ⟨0,op.a,op.b⟩=false
 ·rw[if_pos hm]
  --<
  simp only[hm,Bool.false_eq_true,if_false] at hneed
  have hof:=fun A (hS:Sli w0 A iE vc c.cl)=>rOfA_K (w0:=w0) (n:=0) hS bc hcl
  have ho0:ofP c.cl 0=(0,50):=by unfold ofP;rw [if_pos hcl,if_pos (.inr bn)]
  simp only[ho0] at hof
  have ht0:=fun A=>htold A _ d 50 h hR
  unfold hqL at ht0|-
  obtain⟨q1,q2,q3,q4,q5,q6,q7,q8,q9,r1,r2,r3,r4,r5⟩:=hR.y.c
  have o1:=hR.e1
  have o2:=hR.e2
  refine en2 147 Tryz.func65 ?_
  (iterate 20 first|refine ZS ?_|intro _)
  refine zp ?_;refine xr14 ?_;refine zaN ?_;refine xr23 ?_;refine zai ?_;refine xr8 ?_;exact zbh
  -->
 ·rw[if_neg hm]
  have hm':=jbi hm
  have hmay:=jb6 hm'
  dsimp only at hmay;simp only[hm',if_true] at hneed
  have hof:=fun A (hS:Sli w0 A iE vc c.cl)=>rOfA_K (w0:=w0) (n:=op.a+op.b+1) hS bc hcl
  have hofp:ofP c.cl (op.a+op.b+1)=if classI C.g (op.a+op.b+1)=C.g.cl.length then(0,50) else(((classI C.g (op.a+op.b+1):Nat):Int),0):=by rw[hK.g];exact jiz hcl bc
  rw[hofp] at hof
  by_cases hk:classI C.g (op.a+op.b+1)=C.g.cl.length
  ·rw[if_pos hk]
   --<
   simp only[if_pos hk] at hof
   have ht0:=fun A=>htold A _ d 50 h hR
   unfold hqL at ht0|-
   obtain⟨q1,q2,q3,q4,q5,q6,q7,q8,q9,r1,r2,r3,r4,r5⟩:=hR.y.c
   have o1:=hR.e1
   have o2:=hR.e2
   refine en2 147 Tryz.func65 ?_
   (iterate 20 first|refine ZS ?_|intro _)
   refine zp ?_;refine xr14 ?_;refine zaN ?_;refine xr23 ?_;refine zai ?_;refine xr8 ?_;exact zbh
   -->
  ·rw[if_neg hk];simp only[if_neg hk] at hof
   have hkm:=jdw hk
   have hyk:=hC.g.y _ hkm
   have hpg:=hC.g.pg
   have hget:=hq_get hK hkm
   have hklt0:=jl hget
   have hsz:C.g.y (classI C.g (op.a+op.b+1))<=1048576:=by omega
   have hrm:=fun A=>jjH (F:=A) (is:=fun s=>fitsB C.g (C.g.y (classI C.g (op.a+op.b+1))) s&&freeB s) hK hJ hR hsz bc (fun _ _=>Bool.and_comm _ _)
   change ∀ A,Call _ _ _ _ _ (HqG R0 w0 D A C c vc vt v (allocR C h (classI C.g (op.a+op.b+1))) id) at hrm
   have hJR:=hJ.mvs hC (jew (wr:=true) hC hJ.i (k:=classI C.g (op.a+op.b+1)))
   have hwR:(allocR C h (classI C.g (op.a+op.b+1))).wk<=200001000:=Nat.le_trans (qroom_wk hC hJ) bc
   have htk:=fun h2=>jg0 hC hJR.i hm' hk h2
   have hmv:=fun h2 h3=>mk_mv (wr:=true) hC hJR.i hm' hk h2 h3
   obtain⟨k,hkk⟩: ∃ k,classI C.g (op.a+op.b+1)=k:=⟨_,rfl⟩
   simp only[hkk] at hrm hJR hwR htk hmv hof hyk hkm hget hsz|-
   obtain⟨R,hRR⟩: ∃ R,allocR C h k=R:=⟨_,rfl⟩
   simp only[hRR] at hrm hJR hwR htk hmv|-;clear hofp hRR
   obtain⟨sz,hsz'⟩: ∃ sz,C.g.y k=sz:=⟨_,rfl⟩
   simp only[hsz'] at hrm hyk hget hsz htk hmv|-
   have hus:=fun A (D':jb) d' (hR':HqR R0 w0 D' C c vc vt v d' R)=>jgH (F:=A) hK hJR hR'
   have hfr:=fun A (D':jb) d' (hR':HqR R0 w0 D' C c vc vt v d' R)=>jgG (F:=A) hR'
   have hu:=hJR.u
   have hq4:=hC.g.q
   unfold UsI at hu
   have htn:c.tn[((C.tn:Nat):Int).toNat]?=some ⟨(C.g.q:Nat),(C.tr:Nat),(C.caps:Nat),(C.ast:Nat)⟩:=hK.t
   have htlt:=jl htn
   have hcT:=hR.c.tn
   have hfb:fitsB C.g sz R.s=decide (usedL C.g.L R.s.A+sz<=C.g.q):=rfl
   have hfb2:freeB R.s=decide (0<cntP 0 R.s.W.T):=rfl
   obtain⟨us,hus'⟩: ∃ us,usedL C.g.L R.s.A=us:=⟨_,rfl⟩
   obtain⟨ct,hct'⟩: ∃ ct,cntP 0 R.s.W.T=ct:=⟨_,rfl⟩
   rw[hus'] at hu hus hfb;rw[hct'] at hfr hfb2
   cases hb1:fitsB C.g sz R.s with
   |false=>
    rw[if_pos rfl]
    --<
    rw[hb1] at hfb
    have hb1':((us:Nat):Int)+((sz:Nat):Int)>((C.g.q:Nat):Int):=by have:=of_decide_eq_false hfb.symm;omega
    have ht0:=fun A (D':jb) d' (hR':HqR R0 w0 D' C c vc vt v d' R)=>htold A _ d' 100 R hR'
    unfold HqG id at hrm;unfold hqL at hrm ht0|-
    obtain⟨q1,q2,q3,q4,q5,q6,q7,q8,q9,r1,r2,r3,r4,r5⟩:=hR.y.c
    have o1:=hR.e1
    have o2:=hR.e2
    refine en2 147 Tryz.func65 ?_
    (iterate 20 first|refine ZS ?_|intro _)
    refine zp ?_;refine xr14 ?_;refine zaN ?_;refine xr37 ?_;refine je (hrm _) ja ?_;rintro _ _ ⟨d1,N1,hR1,rfl,rfl⟩
    obtain⟨_,_,_,_,t5,t6,t7,t8,t9,ta,tb,tc,td,te⟩:=hR1.y.c
    refine xr5 ?_;refine zbJ ?_;refine xr13 ?_;refine zbK ?_;rintro _ _ ⟨rfl,rfl⟩;simp only[List.append_assoc];refine xr10 ?_;refine zbL ?_;refine xr8 ?_;exact zbi
    -->
   |true=>
    rw[if_neg bn];rw[hb1] at hfb
    have hb1': ¬((us:Nat):Int)+((sz:Nat):Int)>((C.g.q:Nat):Int):=by have:=of_decide_eq_true hfb.symm;omega
    cases hb2:freeB R.s with
    |false=>
     rw[if_pos rfl]
     --<
     rw[hb2] at hfb2
     have hb2':((ct:Nat):Int)=0:=by have:=of_decide_eq_false hfb2.symm;omega
     have ht0:=fun A (D':jb) d' (hR':HqR R0 w0 D' C c vc vt v d' R)=>htold A _ d' 131 R hR'
     unfold HqG id at hrm;unfold hqL at hrm ht0 hfr|-
     obtain⟨q1,q2,q3,q4,q5,q6,q7,q8,q9,r1,r2,r3,r4,r5⟩:=hR.y.c
     have o1:=hR.e1
     have o2:=hR.e2
     refine en2 147 Tryz.func65 ?_
     (iterate 20 first|refine ZS ?_|intro _)
     refine zp ?_;refine xr14 ?_;refine zaN ?_;refine xr37 ?_;refine je (hrm _) ja ?_;rintro _ _ ⟨d1,N1,hR1,rfl,rfl⟩
     obtain⟨_,_,_,_,t5,t6,t7,t8,t9,ta,tb,tc,td,te⟩:=hR1.y.c
     refine xr5 ?_;refine zbJ ?_;refine xr13 ?_;refine zbK ?_;rintro _ _ ⟨rfl,rfl⟩;simp only[List.append_assoc];refine xr13 ?_;refine zbj ?_;refine xr8 ?_;refine zbL ?_;refine xr8 ?_;exact zbi
     -->
    |true=>
     rw[if_neg bn];rw[hb2] at hfb2
     have hb2': ¬((ct:Nat):Int)=0:=by have:=of_decide_eq_true hfb2.symm;omega
     obtain⟨j,z,ht,_,hz,_,_,hmk2,hlk⟩:=htk hb1
     have hjl:j<C.g.slots:=by rw[<-jak];exact jl hz
     have hge: ∀ e∈R.s.W.T,1<=e.gen/\e.gen<=2147483648:=fun e he=>⟨(hJR.i.e e he).1,Int.le_trans (hJR.i.e e he).2 hgn.2⟩
     have hJ4:=hJR.mv hC (hmv hb1 hb2)
     have okg:=hC.g
     have hok:=hJR.i.ok
     have hR4:({R with s:=mkC C.g R.s (k:Nat) ⟨(k:Nat),op.a,op.b⟩}:HpP)=al4 (al3 (al2 (al1 R (R.s.A.set j true)) (makeP R.s.W.x z ⟨(k:Nat),op.a,op.b⟩).2) j) j:=by
      unfold mkC;rw[ht];dsimp only;rw[jY hz,Int.toNat_natCast]
      rfl
     rw[hR4] at hJ4|-;rw[ht];dsimp only;rw[jY hz]
     have hA1l:(R.s.A.set j true).length=R.s.A.length:=by rw[List.length_set]
     have hX1w:Jv C.g {R.s.W with x:=(makeP R.s.W.x z ⟨(k:Nat),op.a,op.b⟩).2}:=⟨by show(makeP R.s.W.x z _).2.length=_;rw [je6 (by have:=okg.fits hz;rw [hok.w.x];omega)];exact hok.w.x,jfk hok.w.w,hok.w.N,hok.w.n,hok.w.t⟩
     have hX1f:=jfj okg hok.w.x hok.rf hz ⟨(k:Nat),op.a,op.b⟩
     have hX1r:=fun(t:Nat) (ht:t<C.g.slots) (hp:0<refsN R.s.W.x (jv C.g (t:Nat)))=>jeK okg hok.w.x hz ⟨(k:Nat),op.a,op.b⟩ ht hp
     have hTk:=fun A (D':jb) d' (hR':HqR R0 w0 D' C c vc vt v d' R)=>rTake_K (F:=A) (k:=(k:Nat)) hR'.y.A okg hok.A
     simp only[ht] at hTk
     obtain⟨A1,hA1⟩: ∃ A1,R.s.A.set j true=A1:=⟨_,rfl⟩
     have hMk:=fun A (D':jb) d' (hR':HqR R0 w0 D' C c vc vt v d' (al1 R A1))=>rbMake_K (F:=A) (x:=R.s.W.x) (h:=⟨(k:Nat),op.a,op.b⟩) hR'.y.W.B hR'.y.W.f hz
     obtain⟨X1,hX1⟩: ∃ X1,(makeP R.s.W.x z ⟨(k:Nat),op.a,op.b⟩).2=X1:=⟨_,rfl⟩
     rw[hA1] at hA1l hJ4|-;rw[hX1] at hX1w hX1f hJ4|-;simp only[hX1] at hX1r hMk;simp only[hA1] at hTk
     have hok2:jp C.g C.long (al2 (al1 R A1) X1).s:=(hok.take (A':=A1) hA1l).putx (x':=X1) hX1w hX1f hX1r
     have hok3:jp C.g C.long (al3 (al2 (al1 R A1) X1) j).s:=hok2.black j
     have f1:=fun(D' N:jb) (d':CyV) (va':Value) (hR':HqR R0 w0 D' C c vc vt v d' R) (hA:ArD w0 (N++D') v va' C.g A1)=>(⟨hR'.y.take hA,hR'.c.part ja,hR'.e1,hR'.e2⟩:HqR R0 w0 (N++D') C c vc vt v ⟨va',d'.z,d'.q,d'.vd⟩ (al1 R A1))
     have f2:=fun(D' N:jb) (d':CyV) (vr':Value) (R':List RwD) (hR':HqR R0 w0 D' C c vc vt v d' (al1 R A1)) (hB:BoD w0 (N++D') v vr' C.g R') (hX:rwX R'=(rwX d'.z.R).set v.t X1)=>(⟨hR'.y.words hB hX hX1w hX1f,hR'.c.part ja,hR'.e1,hR'.e2⟩:HqR R0 w0 (N++D') C c vc vt v ⟨d'.va,⟨vr',d'.z.vt,d'.z.vn,R',d'.z.gens⟩,d'.q,d'.vd⟩ (al2 (al1 R A1) X1))
     have hBl:=fun A (D':jb) d' (hR':HqR R0 w0 D' C c vc vt v d' (al2 (al1 R A1) X1))=>jmC (F:=A) (t:=j) hR'.y okg hok2 hjl
     have f3:=fun(D' N:jb) (d':CyV) (hR':HqR R0 w0 D' C c vc vt v d' (al2 (al1 R A1) X1)) (d2:CyV) (hy:CyD R0 C.gn w0 (N++D') v C.g d2 (al3 (al2 (al1 R A1) X1) j).s)=>(⟨hy,hR'.c.part ja,hR'.e1,hR'.e2⟩:HqR R0 w0 (N++D') C c vc vt v d2 (al3 (al2 (al1 R A1) X1) j))
     have hMi: ∀ A (D':jb) d',HqR R0 w0 D' C c vc vt v d' (al3 (al2 (al1 R A1) X1) j)->Call Tryz.prog w0 132 [.agg (hqL C c vc vt v d' (al3 (al2 (al1 R A1) X1) j)).toArray, .int .i64 (j:Nat)] (D'++A) (HqG R0 w0 D' A C c vc vt v (al4 (al3 (al2 (al1 R A1) X1) j) j) (fun a=> .tuple [a, .int .u64 (jaU C.tn R.s.W.T:Nat)].toArray)):=fun A D' d' hR'=>jjI (F:=A) (t:=j) hK hok3 hR' hge hjl (jcw hb2)
     have hAk:=fun A=>rpcAsk_K (w0:=w0) (H:=A) (C:=C) (p:=R.p) (n:=sz) hC hJR.i.pb ⟨by omega,by omega⟩
     have hd:=jft (tr:=C.tr) (ast:=C.ast) (n:=sz) (p:=R.p)
     have hJ5:HeJ C {(al4 (al3 (al2 (al1 R A1) X1) j) j) with p:=(Jz C.tr C.ast sz R.p).2}:=hJ4.mv hC (.free (wr:=true) rfl fun hb=>hb.ask _ _ _)
     have hac:(Jz C.tr C.ast sz R.p).2.act=R.p.act:=rfl
     have hRR4:(al4 (al3 (al2 (al1 R A1) X1) j) j).wk=R.wk:=rfl
     have hw5:=hwR
     have hPc:jdd C sz (al4 (al3 (al2 (al1 R A1) X1) j) j)=jcc C (Jz C.tr C.ast sz R.p).1 (JY C (Jz C.tr C.ast sz R.p).2.debt {(al4 (al3 (al2 (al1 R A1) X1) j) j) with p:=(Jz C.tr C.ast sz R.p).2}):=rfl
     rw[hPc];clear hPc
     obtain⟨due,hdue⟩: ∃ due,due=(Jz C.tr C.ast sz R.p).1:=⟨_,rfl⟩
     obtain⟨p1,hp1⟩: ∃ p1,p1=(Jz C.tr C.ast sz R.p).2:=⟨_,rfl⟩
     have hdd:due=0\/due=1\/due=2:=by
      rw[hdue];unfold Jz;dsimp only
      split
      ·exact .inl rfl
      ·split
       ·exact .inr (.inr rfl)
       ·exact .inr (.inl rfl)
     simp only[<-hdue,<-hp1] at hAk hJ5 hd hac|-
     have hPy:=fun A (D':jb) d' (hR':HqR R0 w0 D' C c vc vt v d' {(al4 (al3 (al2 (al1 R A1) X1) j) j) with p:=p1})=>hqpays_K (F:=A) hK hJ5 hR' (by show R.wk<=_;omega)
     have hTw:=jjr hC p1.debt {(al4 (al3 (al2 (al1 R A1) X1) j) j) with p:=p1} hJ5.i (Nat.le_refl _)
     have hTl:=hJ5.l.s
     have hJT:=hJ5.mvs hC (je3 (C:=C) (wr:=true) p1.debt {(al4 (al3 (al2 (al1 R A1) X1) j) j) with p:=p1} (Nat.le_refl _))
     have hTa:(JY C p1.debt {(al4 (al3 (al2 (al1 R A1) X1) j) j) with p:=p1}).p.act=R.p.act:=(je4 _ _).trans hac
     dsimp only at hPy hTw hTl
     obtain⟨T,hT0⟩: ∃ T,T=JY C p1.debt {(al4 (al3 (al2 (al1 R A1) X1) j) j) with p:=p1}:=⟨_,rfl⟩
     simp only[<-hT0] at hPy hTw hJT hTa|-
     have hJU:=hJT.mvs hC (due_mvs (wr:=true) hC hJT.i (due:=due) (fun e=>hTa.trans (hd.1 e)) (fun e=>hTa.trans (hd.2 e)))
     have hDu:=fun A (D':jb) d' (hR':HqR R0 w0 D' C c vc vt v d' T)=>hqdue_K (F:=A) (n:=0) hK hJT hR' bc due (fun e=>hTa.trans (hd.1 e)) (fun e=>hTa.trans (hd.2 e))
     obtain⟨U,hU⟩: ∃ U,U=jcc C due T:=⟨_,rfl⟩
     simp only[<-hU] at hDu hJU|-
     have hU0:due=0->T=U:=fun e=>by rw[hU,e];rfl
     have hAd:=fun A (D':jb) d' (hR':HqR R0 w0 D' C c vc vt v d' U)=>je9 (F:=A) hR' hz hjl okg
     have g5:=fun(D':jb) d' (hR':HqR R0 w0 D' C c vc vt v d' (al4 (al3 (al2 (al1 R A1) X1) j) j))=>hR'.p (h':={(al4 (al3 (al2 (al1 R A1) X1) j) j) with p:=p1}) rfl
     clear hR4 hJ4 hJR hJ hmv htk hJ5 hJT hJU;unfold HqG id at hrm hPy hDu;unfold HqG at hMi;unfold CyG id at hBl;unfold arL at hTk;unfold boL hdV at hMk;unfold cyL at hBl;unfold paL at hAk;unfold hqL at hrm hfr hMi hPy hDu hAd|-;dsimp only[al1,al2,al3,al4] at hBl hMi hPy;dsimp only at hTk hMk hAk
     obtain⟨q1,q2,q3,q4,q5,q6,q7,q8,q9,r1,r2,r3,r4,r5⟩:=hR.y.c
     have o1:=hR.e1
     have o2:=hR.e2
     refine en2 147 Tryz.func65 ?_
     (iterate 20 first|refine ZS ?_|intro _)
     refine zp ?_;refine xr14 ?_;refine zaN ?_;refine xr37 ?_;refine je (hrm _) ja ?_;rintro _ _ ⟨d1,N1,hR1,rfl,rfl⟩
     obtain⟨_,_,_,_,t5,t6,t7,t8,t9,ta,tb,tc,td,te⟩:=hR1.y.c
     refine xr5 ?_;refine zbJ ?_;refine xr13 ?_;refine zbK ?_;rintro _ _ ⟨rfl,rfl⟩;simp only[List.append_assoc];refine xr13 ?_;refine zbj ?_;refine xr13 ?_;refine je (hTk _ (N1++D) d1 hR1) bg ?_;rintro _ _ ⟨va2,N2,hA2,rfl,rfl⟩
     have hR2:=f1 _ N2 d1 va2 hR1 hA2
     have w1:=hA2.o
     (iterate 33 first|refine ZS ?_|intro _)
     refine(CallV.part (CallV.fn (hMk _ (N2++(N1++D)) _ hR2)) bg).mono ?_;rintro _ _ ⟨vr3,R3',N3,hB3,hX3,rfl,rfl⟩
     have hR3:=f2 _ N3 _ vr3 R3' hR2 hB3 hX3
     have w2:=hB3.m.o
     refine xr15 ?_;refine je (hBl _ (N3++(N2++(N1++D))) _ hR3) bg ?_;rintro _ _ ⟨d4,N4,hy4,rfl,rfl⟩
     have hR4:=f3 _ N4 _ hR3 d4 hy4
     obtain⟨_,_,_,_,u5,u6,u7,u8,u9,ua,ub,uc,ud,ue⟩:=hR4.y.c
     refine xr9 ?_;refine je (hMi _ (N4++(N3++(N2++(N1++D)))) _ hR4) bg ?_;rintro _ _ ⟨d5,N5,hR5,rfl,rfl⟩
     obtain⟨_,_,_,_,x5,x6,x7,x8,x9,xa,xb,xc,xd,xe⟩:=hR5.y.c
     refine xr13 ?_;refine jj (hAk _) ?_
     (iterate 6 first|refine ZS ?_|intro _);refine xq15 fun T hT=>?_
     refine(CallV.part (CallV.fn (hPy _ (N5++(N4++(N3++(N2++(N1++D))))) _ (g5 _ _ hR5))) bg).mono ?_;rintro _ _ ⟨d6,N6,hR6,rfl,rfl⟩
     obtain⟨_,_,_,_,y5,y6,y7,y8,y9,ya,yb,yc,yd,ye⟩:=hR6.y.c
     rcases hdd with e|e|e
     ·subst e
      have hTU:=hU0 rfl
      subst hTU;refine ze ?_;clear hT T;refine xr24 ?_;refine zbM ?_;refine xr5 ?_;refine je (hAd _ (N6++(N5++(N4++(N3++(N2++(N1++D)))))) d6 hR6) bg ?_;rintro _ _ ⟨rfl,rfl⟩;simp only[List.append_assoc];refine xr9 ?_;exact KE.fin (H':=(N6++(N5++(N4++(N3++(N2++N1)))))++(D++F)) jd rfl jc bg ⟨d6,(N6++(N5++(N4++(N3++(N2++N1))))),(by simp only[List.append_assoc] at hR6|-;exact hR6),rfl,rfl⟩
     ·subst e;refine ze ?_;clear hT T;refine xr14 ?_;refine je ((hDu _ (N6++(N5++(N4++(N3++(N2++(N1++D)))))) d6 hR6).1 rfl) bg ?_;rintro _ _ ⟨d7,N7,hR7,rfl,rfl⟩
      obtain⟨_,_,_,_,w5,w6,w7,w8,w9,wa,wb,wc,wd,we⟩:=hR7.y.c
      refine xr14 ?_;refine zbM ?_;refine xr5 ?_;refine zcr ?_;rintro _ _ ⟨rfl,rfl⟩;simp only[List.append_assoc];refine xr9 ?_;exact zcs
     ·subst e;refine ze ?_;clear hT T;refine xr24 ?_;refine je ((hDu _ (N6++(N5++(N4++(N3++(N2++(N1++D)))))) d6 hR6).2 rfl) bg ?_;rintro _ _ ⟨d7,N7,hR7,rfl,rfl⟩
      obtain⟨_,_,_,_,w5,w6,w7,w8,w9,wa,wb,wc,wd,we⟩:=hR7.y.c
      refine xr4 ?_;refine zbM ?_;refine xr5 ?_;refine zcr ?_;rintro _ _ ⟨rfl,rfl⟩;simp only[List.append_assoc];refine xr9 ?_;exact zcs
end
def DoG (R0:List (List Int)) (w0:World) (D F:jb) (C:HpC) (c:Cfg) (vc vt:Value) (v:PlV) (x:SnP × HpP) (r:Value) (H':jb):Prop:=
 ∃ q:SnP,q.e=x.1.e/\(x.1.e=0->q=x.1)/\HqG R0 w0 D F C c vc vt v x.2 (fun a=> .tuple [a,snV q].toArray) r H'
theorem fieldX_cs (x:List Int) (z:jn) (a:Int):((jax x z a).2=110/\fldP x z false a≠0/\fldP x z true a≠0)\/(jax x z a=(false,0)/\fldP x z false a=0)\/(jax x z a=(true,0)/\fldP x z false a≠0/\fldP x z true a=0):=by
 unfold jax fldP
 cases hh:headP x z with
 |none=>
  refine .inl ⟨?_,(by show(5:Int)≠0;decide),(by show(5:Int)≠0;decide)⟩;unfold JJ;rw[if_pos bn];dsimp only[Option.getD_none];rw[if_pos bc]
 |some q=>
  have hm:=(jbm (jb1 hh).2).1
  dsimp only[Option.getD_some];unfold JJ;rw[if_pos hm]
  by_cases c:a<0\/a>=q.r+q.w
  ·rw[if_pos c];refine .inl ⟨rfl,?_,?_⟩
   ·rw[if_neg bc];decide
   ·rw[if_neg bc];decide
  ·rw[if_neg c]
   by_cases e:a<q.r
   ·rw[decide_eq_true e];refine .inr (.inr ⟨rfl,?_,?_⟩)
    ·rw[if_neg (fun z=>by cases z.2.2)];decide
    ·rw[if_pos ⟨by omega,by omega,rfl⟩]
   ·rw[decide_eq_false e];refine .inr (.inl ⟨rfl,?_⟩);rw[if_pos ⟨by omega,by omega,rfl⟩]
section
variable {R0 : List (List Int)} {w0 : World} {D F : jb} {C : HpC} {c : Cfg} {vc vt : Value} {v : PlV} {d : CyV} {h : HpP}
variable {op : OpP} {n : Nat} {z : jn}
theorem DoG.of {D' N:jb} {x:SnP × HpP} {q:SnP} {d':CyV} (he:q.e=x.1.e) (hq:x.1.e=0->q=x.1) (hR:HqR R0 w0 (N++D) C c vc vt v d' x.2):DoG R0 w0 D F C c vc vt v x (.tuple [.agg (hqL C c vc vt v d' x.2).toArray,snV q].toArray) (N++(D++F)):=⟨q,he,hq,d',N,hR,rfl,rfl⟩
theorem hqread_K {k:Int} (hK:HqK C c v) (hJ:HeJ C h) (hR:HqR R0 w0 D C c vc vt v d h) (hw:h.wk<=1000) (hz:C.g.L[n]?=some z) (hn:n<C.g.slots):
  Call Tryz.prog w0 68 [.agg (hqL C c vc vt v d h).toArray,opV op, .int .i64 (n:Nat)] (D++F) (DoG R0 w0 D F C c vc vt v ({(jaK C h (n:Nat) op.a).1 with addr:=(z.addr:Nat)},(jaK C h (n:Nat) op.a).2)):=by
 have hC:=hK.k
 have hgn:=hC.gn
 have okg:=hC.g
 have had:=fun A=>je9 (F:=A) hR hz hn okg
 have hWd:=fun A=>rbWord_K (F:=A) (i:=op.a) hR.y.W.B hR.y.W.f hz
 have hRf:=fun A=>jg4 (F:=A) (i:=op.a) hR.y.W.B hR.y.W.f hz
 have htold:=fun A (D':jb) d' (e:Int) h' (hR':HqR R0 w0 D' C c vc vt v d' h')=>je8 (F:=A) (e:=e) hR'
 have hrf:=jei (i:=op.a) hJ.i.ok.rf hz
 have hlt:=jfw (a:=op.a) hJ.i hn hz
 unfold DoG HqG;unfold jaK;rw[jY hz];unfold wordP at hWd|-
 rcases fieldX_cs h.s.W.x z op.a with⟨e1,e2,e3⟩|⟨e1,e2⟩|⟨e1,e2,e3⟩
 ·have e4:(refP h.s.W.x C.g.slots z op.a).2≠0:=by unfold refP;rw [if_neg e3];exact e3
  rw[e1,if_pos bn];simp only[if_neg e2] at hWd
  obtain⟨x1,hx1⟩: ∃ x1,fldP h.s.W.x z false op.a=x1:=⟨_,rfl⟩
  obtain⟨x2,hx2⟩: ∃ x2,(refP h.s.W.x C.g.slots z op.a).1=x2:=⟨_,rfl⟩
  obtain⟨x3,hx3⟩: ∃ x3,(refP h.s.W.x C.g.slots z op.a).2=x3:=⟨_,rfl⟩
  rw[hx1] at hWd e2;rw[hx2,hx3] at hRf;rw[hx3] at e4
  have ht0:=fun A=>htold A _ d 110 h hR
  unfold boL at hWd hRf;unfold hqL at had ht0|-;unfold opV
  obtain⟨q1,q2,q3,q4,q5,q6,q7,q8,q9,r1,r2,r3,r4,r5⟩:=hR.y.c
  have o1:=hR.e1
  have o2:=hR.e2
  refine en3 78 Tryz.func68 ?_
  (iterate 17 first|refine ZS ?_|intro _)
  refine zw ?_
  (iterate 16 first|refine ZS ?_|intro _)
  refine ji (hWd _) ja ?_;refine xr27 ?_;refine ji (hRf _) ja ?_;refine xr19 ?_;refine zai ?_;refine xr8 ?_;exact KE.fin jd rfl jc ja ⟨told 110,rfl,(fun e=>by cases e),d,[],hR,rfl,rfl⟩
 ·rw[e1,if_neg (fun q=>q rfl),if_pos rfl];simp only[if_pos e2] at hWd|-;unfold boL at hWd;unfold hqL at had|-;unfold opV
  obtain⟨q1,q2,q3,q4,q5,q6,q7,q8,q9,r1,r2,r3,r4,r5⟩:=hR.y.c
  have o1:=hR.e1
  have o2:=hR.e2
  refine en3 78 Tryz.func68 ?_
  (iterate 17 first|refine ZS ?_|intro _)
  refine zw ?_
  (iterate 16 first|refine ZS ?_|intro _)
  refine ji (hWd _) ja ?_;refine xr23 ?_;refine K.dr _ (od 0 [0,1,2,2]) (Part.take jx.head (Part.takeA jE.head (Part.drop (Part.drop Part.all)))) ?_;refine xr10 ?_;exact KE.fin jd rfl jc ja ⟨_,(by rfl),fun _=>rfl,d,[],hR,rfl,rfl⟩
 ·have hlt':=hlt (by rw[e1]) (by rw[e1])
  have e4:=hrf e3
  rw[e1,if_neg (fun q=>q rfl),if_neg bn];simp only[if_neg e2] at hWd
  obtain⟨x1,hx1⟩: ∃ x1,fldP h.s.W.x z false op.a=x1:=⟨_,rfl⟩
  rw[hx1] at hWd e2;rw[e4] at hRf
  by_cases h3:(refP h.s.W.x C.g.slots z op.a).1<0
  ·rw[if_pos h3]
   obtain⟨x2,hx2⟩: ∃ x2,(refP h.s.W.x C.g.slots z op.a).1=x2:=⟨_,rfl⟩
   rw[hx2] at hRf h3;unfold boL at hWd hRf;unfold hqL at had|-;unfold opV
   obtain⟨q1,q2,q3,q4,q5,q6,q7,q8,q9,r1,r2,r3,r4,r5⟩:=hR.y.c
   have o1:=hR.e1
   have o2:=hR.e2
   refine en3 78 Tryz.func68 ?_
   (iterate 17 first|refine ZS ?_|intro _)
   refine zw ?_
   (iterate 16 first|refine ZS ?_|intro _)
   refine ji (hWd _) ja ?_;refine xr27 ?_;refine ji (hRf _) ja ?_;refine xr26 ?_;refine K.dr _ (od 0 [0,1,2,2]) (Part.takeA jE.head (Part.take jx.head (Part.drop (Part.drop Part.all)))) ?_;refine xr10 ?_;exact KE.fin jd rfl jc ja ⟨_,(by rfl),fun _=>rfl,d,[],hR,rfl,rfl⟩
  ·rw[if_neg h3]
   obtain⟨t,ht,htl⟩:=hlt' h3
   rw[ht] at hRf|-
   have h0t: ¬((t:Nat):Int)<0:=by omega
   have hrm:=fun A=>jjH (F:=A) (is:=freeB) (n:=0) hK hJ hR bc bc (fun h' hJ'=>by
    have hu:=hJ'.u
    unfold UsI at hu
    have:fitsB C.g 0 h'.s=true:=by unfold fitsB;exact decide_eq_true bc
    rw[this,Bool.and_true])
   have hJR:=hJ.mvs hC (jd0 (wr:=true) hC hJ.i (is:=freeB))
   obtain⟨R,hRR⟩: ∃ R,hpRoom C freeB h=R:=⟨_,rfl⟩
   simp only[hRR] at hrm hJR|-
   have hfr:=fun A (D':jb) d' (hR':HqR R0 w0 D' C c vc vt v d' R)=>jgG (F:=A) hR'
   have hfb2:freeB R.s=decide (0<cntP 0 R.s.W.T):=rfl
   obtain⟨ct,hct'⟩: ∃ ct,cntP 0 R.s.W.T=ct:=⟨_,rfl⟩
   rw[hct'] at hfr hfb2
   cases hb:freeB R.s with
   |false=>
    rw[if_pos rfl];rw[hb] at hfb2
    have hb2':((ct:Nat):Int)=0:=by have:=of_decide_eq_false hfb2.symm;omega
    have ht0:=fun A (D':jb) d' (hR':HqR R0 w0 D' C c vc vt v d' R)=>htold A _ d' 131 R hR'
    unfold HqG id at hrm;unfold boL at hWd hRf;unfold hqL at had hrm hfr ht0|-;unfold opV
    obtain⟨q1,q2,q3,q4,q5,q6,q7,q8,q9,r1,r2,r3,r4,r5⟩:=hR.y.c
    have o1:=hR.e1
    have o2:=hR.e2
    refine en3 78 Tryz.func68 ?_
    (iterate 17 first|refine ZS ?_|intro _)
    refine zw ?_
    (iterate 16 first|refine ZS ?_|intro _)
    refine ji (hWd _) ja ?_;refine xr27 ?_;refine ji (hRf _) ja ?_;refine xr31 ?_;refine je (hrm _) ja ?_;rintro _ _ ⟨d1,N1,hR1,rfl,rfl⟩
    obtain⟨_,_,_,_,t5,t6,t7,t8,t9,ta,tb,tc,td,te⟩:=hR1.y.c
    refine xr8 ?_;refine zbj ?_;refine xr8 ?_;refine zbL ?_;refine xr8 ?_;exact KE.fin (H':=N1++(D++F)) jd rfl jc bg ⟨told 131,rfl,(fun e=>by cases e),d1,N1,hR1,rfl,rfl⟩
   |true=>
    rw[if_neg bn];rw[hb] at hfb2
    have hb2': ¬((ct:Nat):Int)=0:=by have:=of_decide_eq_true hfb2.symm;omega
    have hT:=jbo (g:=C.g) (long:=C.long) (s:=R.s) ((t:Nat):Int)
    have hok2:=hJR.i.ok.shd okg ((t:Nat):Int)
    have hSh:=fun A (D':jb) d' (hR':HqR R0 w0 D' C c vc vt v d' R)=>jeG (F:=A) hR'.y okg hK.lg hJR.i.ok htl
    have f2:=fun(D' N:jb) (d':CyV) (hR':HqR R0 w0 D' C c vc vt v d' R) (d2:CyV) (hy:CyD R0 C.gn w0 (N++D') v C.g d2 (shdC C.g C.long R.s (t:Nat)))=>(⟨hy,hR'.c.part ja,hR'.e1,hR'.e2⟩:HqR R0 w0 (N++D') C c vc vt v d2 {R with s:=shdC C.g C.long R.s (t:Nat)})
    have hMi:=fun A (D':jb) d' (hR':HqR R0 w0 D' C c vc vt v d' {R with s:=shdC C.g C.long R.s (t:Nat)})=>jjI (F:=A) (t:=t) hK hok2 hR' (by rw[hT];exact fun e he=>⟨(hJR.i.e e he).1,Int.le_trans (hJR.i.e e he).2 hgn.2⟩) htl (by rw[hT];exact jcw hb)
    dsimp only at hMi;rw[<-hT];clear hT;unfold HqG id at hrm;unfold HqG at hMi;unfold CyG id at hSh;unfold boL at hWd hRf;unfold cyL at hSh;unfold hqL at had hrm hfr hMi|-;unfold opV
    obtain⟨q1,q2,q3,q4,q5,q6,q7,q8,q9,r1,r2,r3,r4,r5⟩:=hR.y.c
    have o1:=hR.e1
    have o2:=hR.e2
    refine en3 78 Tryz.func68 ?_
    (iterate 17 first|refine ZS ?_|intro _)
    refine zw ?_
    (iterate 16 first|refine ZS ?_|intro _)
    refine ji (hWd _) ja ?_;refine xr27 ?_;refine ji (hRf _) ja ?_;refine xr31 ?_;refine je (hrm _) ja ?_;rintro _ _ ⟨d1,N1,hR1,rfl,rfl⟩
    obtain⟨_,_,_,_,t5,t6,t7,t8,t9,ta,tb,tc,td,te⟩:=hR1.y.c
    refine xr8 ?_;refine zbj ?_;refine xr12 ?_;refine je (hSh _ _ d1 hR1) bg ?_;rintro _ _ ⟨d2,N2,hy2,rfl,rfl⟩
    have hR2:=f2 _ N2 d1 hR1 d2 hy2
    obtain⟨_,_,_,_,u5,u6,u7,u8,u9,ua,ub,uc,ud,ue⟩:=hy2.c
    refine xr9 ?_;refine je (hMi _ _ d2 hR2) bg ?_;rintro _ _ ⟨d3,N3,hR3,rfl,rfl⟩
    obtain⟨_,_,_,_,x5,x6,x7,x8,x9,xa,xb,xc,xd,xe⟩:=hR3.y.c
    refine xr9 ?_;refine zct ?_;refine xr9 ?_;exact KE.fin (H':=((N3++N2)++N1)++(D++F)) jd rfl jc bg ⟨_,(by rfl),(fun _=>rfl),d3,(N3++N2)++N1,(by simp only[List.append_assoc] at hR3|-;exact hR3),rfl,rfl⟩
structure WrT where
 d:CyV
 N:jb
theorem jjq {g:PlG} {long:Nat} {s:CyP} (ok:jh g) (h:jp g long s) (t:Int):jp g long (shdO g long s t):=by
 unfold shdO;split
 ·exact h.shd ok t
 ·exact h
theorem hqShO_K {to:Int} {s:CyP} {p:PaP} {wk:Nat} (hK:HqK C c v) (hok:jp C.g C.long s) (hR:HqR R0 w0 D C c vc vt v d ⟨s,p,wk⟩) (ht:to<(C.g.slots:Nat)) (h0:to>=0):
  Call Tryz.prog w0 71 [.agg (cyL v C.g C.long d s).toArray, .int .i64 to] (D++F) (CyG R0 C.gn w0 D F v C.g C.long (shdO C.g C.long s to) id):=by
 obtain⟨t,rfl⟩: ∃ t:Nat,to=(t:Nat):=⟨to.toNat,by omega⟩
 unfold shdO;rw[if_pos h0];exact jeG hR.y hK.k.g hK.lg hok bc
theorem hqwrite_K {k:Nat} (hK:HqK C c v) (hJ:HeJ C h) (hR:HqR R0 w0 D C c vc vt v d h) (hz:C.g.L[n]?=some z) (hn:n<C.g.slots) (hs:Ji h.s.W.T (k:Nat)=some ((n:Nat):Int)) (hv:op.v<18446744073709551616):
  Call Tryz.prog w0 69 [.agg (hqL C c vc vt v d h).toArray,opV op, .int .i64 (n:Nat)] (D++F) (DoG R0 w0 D F C c vc vt v ({(jaZ C h (n:Nat) op.a op.v).1 with addr:=(z.addr:Nat)},(jaZ C h (n:Nat) op.a op.v).2)):=by
 have hC:=hK.k
 have okg:=hC.g
 have had:=fun A=>je9 (F:=A) hR hz hn okg
 have hSW:=fun A=>jlb (F:=A) (i:=op.a) (w:=(op.v:Nat)) hR.y.W.B hR.y.W.f hz
 have hRf:=fun A=>jg4 (F:=A) (i:=op.a) hR.y.W.B hR.y.W.f hz
 have hsl:=fun A=>jjK (F:=A) hK hR hv
 have htold:=fun A (e:Int)=>je8 (F:=A) (e:=e) hR
 have hrf:=jei (i:=op.a) hJ.i.ok.rf hz
 have hJ2:=hJ.mvs hC (jia (wr:=true) hC hJ.i (a:=op.a) hs hv rfl)
 have hlt:=jfw (a:=op.a) hJ.i hn hz
 unfold DoG HqG;unfold jaZ at hJ2|-;rw[jY hz] at hJ2|-;unfold J6 at hSW
 rcases fieldX_cs h.s.W.x z op.a with⟨e1,e2,e3⟩|⟨e1,e2⟩|⟨e1,e2,e3⟩
 ·have e4:(refP h.s.W.x C.g.slots z op.a).2≠0:=by unfold refP;rw [if_neg e3];exact e3
  rw[e1,if_pos bn];simp only[if_neg e2] at hSW
  obtain⟨x1,hx1⟩: ∃ x1,fldP h.s.W.x z false op.a=x1:=⟨_,rfl⟩
  obtain⟨x2,hx2⟩: ∃ x2,(refP h.s.W.x C.g.slots z op.a).1=x2:=⟨_,rfl⟩
  obtain⟨x3,hx3⟩: ∃ x3,(refP h.s.W.x C.g.slots z op.a).2=x3:=⟨_,rfl⟩
  rw[hx1] at hSW e2;rw[hx2,hx3] at hRf;rw[hx3] at e4
  have ht0:=fun A=>htold A 110
  unfold boL at hSW hRf;unfold hqL at had ht0|-;unfold opV
  obtain⟨q1,q2,q3,q4,q5,q6,q7,q8,q9,r1,r2,r3,r4,r5⟩:=hR.y.c
  have o1:=hR.e1
  have o2:=hR.e2
  refine en3 104 Tryz.func69 ?_;refine xr3 ?_;intro b3;refine xr1 ?_;intro b4;refine xr1 ?_;intro b6;refine xr1 ?_;intro b7;refine xr7 ?_;refine zw ?_;refine xr2 ?_;intro b8;refine xr15 ?_;refine je (hSW _) ja ?_;rintro _ _ ⟨vr2,R2',N2,hB2,hX2,rfl,rfl⟩
  have w2:=hB2.m.o
  (iterate 29 first|refine ZS ?_|intro _)
  refine zbN ?_;refine xr19 ?_;refine ji (ht0 _) bg ?_;refine xr8 ?_;exact KE.fin (H':=N2++(D++F)) jd rfl jc bg ⟨told 110,rfl,(fun e=>by cases e),d,N2,⟨hR.y.part ja,hR.c.part ja,hR.e1,hR.e2⟩,rfl,rfl⟩
 ·rw[e1,if_neg (fun q=>q rfl),if_pos rfl] at hJ2|-
  have hok2:=hJ2.i.ok
  unfold jcR at hok2|-;rw[jY hz] at hok2|-;unfold J6 at hok2|-;simp only[if_pos e2] at hSW hok2|-
  have f1:=fun(N:jb) (vr':Value) (R':List RwD) (hB:BoD w0 (N++D) v vr' C.g R') (hX:rwX R'=(rwX d.z.R).set v.t (h.s.W.x.set (fAt z op.a) (op.v:Nat)))=>(⟨hR.y.words hB hX hok2.w hok2.rf,hR.c.part ja,hR.e1,hR.e2⟩:HqR R0 w0 (N++D) C c vc vt v ⟨d.va,⟨vr',d.z.vt,d.z.vn,R',d.z.gens⟩,d.q,d.vd⟩ {h with s:={h.s with W:={h.s.W with x:=h.s.W.x.set (fAt z op.a) (op.v:Nat)}}})
  unfold boL at hSW;unfold hqL at had|-;unfold opV
  obtain⟨q1,q2,q3,q4,q5,q6,q7,q8,q9,r1,r2,r3,r4,r5⟩:=hR.y.c
  have o1:=hR.e1
  have o2:=hR.e2
  refine en3 104 Tryz.func69 ?_;refine xr3 ?_;intro b3;refine xr1 ?_;intro b4;refine xr1 ?_;intro b6;refine xr1 ?_;intro b7;refine xr7 ?_;refine zw ?_;refine xr2 ?_;intro b8;refine xr15 ?_;refine je (hSW _) ja ?_;rintro _ _ ⟨vr2,R2',N2,hB2,hX2,rfl,rfl⟩
  have w2:=hB2.m.o
  have hR2:=f1 N2 vr2 R2' hB2 hX2
  (iterate 27 first|refine ZS ?_|intro _)
  refine K.dr _ (od 0 [0,1,2,2]) (Part.take jx.head (Part.take jx.head (Part.takeA jE.head (Part.takeA jE.head (Part.take jx.head (Part.drop (Part.drop Part.all))))))) ?_;refine xr10 ?_;exact KE.fin (H':=N2++(D++F)) jd rfl jc bg ⟨_,(by rfl),fun _=>rfl,_,N2,hR2,rfl,rfl⟩
 ·have e4:=hrf e3
  rw[e1,if_neg (fun q=>q rfl),if_neg bn] at hJ2|-;simp only[if_neg e2] at hSW
  obtain⟨x1,hx1⟩: ∃ x1,fldP h.s.W.x z false op.a=x1:=⟨_,rfl⟩
  rw[hx1] at hSW e2;rw[e4] at hRf
  by_cases h3:op.v≠0/\(hpSlot C.tn h.s.W.T op.v).isNone=true
  ·rw[if_pos h3]
   have h30: ¬((op.v:Nat):Int)=0:=by have:=h3.1;omega
   have h31:=Option.isNone_iff_eq_none.1 h3.2
   simp only[h31,Option.getD_none,Option.isSome_none] at hsl
   obtain⟨x2,hx2⟩: ∃ x2,(refP h.s.W.x C.g.slots z op.a).1=x2:=⟨_,rfl⟩
   rw[hx2] at hRf
   have ht0:=fun A=>htold A 130
   unfold boL at hSW hRf;unfold hqL at had hsl ht0|-;unfold opV
   obtain⟨q1,q2,q3,q4,q5,q6,q7,q8,q9,r1,r2,r3,r4,r5⟩:=hR.y.c
   have o1:=hR.e1
   have o2:=hR.e2
   refine en3 104 Tryz.func69 ?_;refine xr3 ?_;intro b3;refine xr1 ?_;intro b4;refine xr1 ?_;intro b6;refine xr1 ?_;intro b7;refine xr7 ?_;refine zw ?_;refine xr2 ?_;intro b8;refine xr15 ?_;refine je (hSW _) ja ?_;rintro _ _ ⟨vr2,R2',N2,hB2,hX2,rfl,rfl⟩
   have w2:=hB2.m.o
   (iterate 29 first|refine ZS ?_|intro _)
   refine zbN ?_;refine xr23 ?_;refine ji (hsl _) bg ?_;refine xr27 ?_;refine ji (ht0 _) bg ?_;refine xr8 ?_;exact KE.fin (H':=N2++(D++F)) jd rfl jc bg ⟨told 130,rfl,(fun e=>by cases e),d,N2,⟨hR.y.part ja,hR.c.part ja,hR.e1,hR.e2⟩,rfl,rfl⟩
  ·rw[if_neg h3] at hJ2|-
   have hto: -1<=toW C h op.v/\toW C h op.v<(C.g.slots:Nat):=by
    unfold toW
    split
    ·exact⟨by omega,by omega⟩
    ·rename_i q0
     cases hq:hpSlot C.tn h.s.W.T op.v with
     |none=>exact absurd ⟨q0,by rw[hq];rfl⟩ h3
     |some sl=>
      have:=jaT hJ.i.ok.w (jbh hq)
      exact⟨by show-1<=sl;have:=this.1;omega,this.2⟩
   have htv:((op.v:Nat):Int)=0/\toW C h op.v= -1\/ ¬((op.v:Nat):Int)=0/\ ∃ sl,hpSlot C.tn h.s.W.T op.v=some sl/\toW C h op.v=sl:=by
    unfold toW
    by_cases q0:op.v=0
    ·exact .inl ⟨by omega,if_pos q0⟩
    ·refine .inr ⟨by omega,?_⟩;rw[if_neg q0]
     cases hq:hpSlot C.tn h.s.W.T op.v with
     |none=>exact absurd ⟨q0,by rw[hq];rfl⟩ h3
     |some sl=>exact⟨sl,rfl,rfl⟩
   have hold: -1<=(refP h.s.W.x C.g.slots z op.a).1/\(refP h.s.W.x C.g.slots z op.a).1<(C.g.slots:Nat):=by
    by_cases q:(refP h.s.W.x C.g.slots z op.a).1<0
    ·refine⟨?_,by omega⟩
     have:=hJ.i.ok.w.w.at_ (fAt z op.a)
     unfold refP at q|-;rw[if_pos e3] at q|-
     split
     ·decide
     ·dsimp only;omega
    ·obtain⟨t,ht,htl⟩:=hlt (by rw[e1]) (by rw[e1]) q
     omega
   obtain⟨to,hto'⟩: ∃ to,toW C h op.v=to:=⟨_,rfl⟩
   rw[hto'] at hto htv hJ2|-
   obtain⟨old,hold'⟩: ∃ old,(refP h.s.W.x C.g.slots z op.a).1=old:=⟨_,rfl⟩
   rw[hold'] at hold hRf hJ2|-
   have hok:=hJ.i.ok
   have hS1:=fun A (h0:old>=0)=>hqShO_K (F:=A) (p:=h.p) (wk:=h.wk) hK hok hR hold.2 h0
   have hok1:=jjq okg hok old
   have hS2:=fun A (D':jb) d' (hR':HqR R0 w0 D' C c vc vt v d' ⟨shdO C.g C.long h.s old,h.p,h.wk⟩) (h0:to>=0)=>hqShO_K (F:=A) hK hok1 hR' hto.2 h0
   have hok2:=jjq okg hok1 to
   have hok3:=hJ2.i.ok
   unfold putC at hok3|-;rw[jY hz] at hok3|-
   have hn1: ¬old>=0->shdO C.g C.long h.s old=h.s:=fun q=>by unfold shdO;rw [if_neg q]
   have hn2: ¬to>=0->shdO C.g C.long (shdO C.g C.long h.s old) to=shdO C.g C.long h.s old:=fun q=>by unfold shdO;rw [if_neg q]
   obtain⟨s1,hs1⟩: ∃ s1,shdO C.g C.long h.s old=s1:=⟨_,rfl⟩
   simp only[hs1] at hS1 hS2 hok1 hok2 hok3 hn1 hn2|-
   obtain⟨s2,hs2⟩: ∃ s2,shdO C.g C.long s1 to=s2:=⟨_,rfl⟩
   simp only[hs2] at hS2 hok2 hok3 hn2|-
   have hSR:=fun A (D':jb) d' (hR':HqR R0 w0 D' C c vc vt v d' ⟨s2,h.p,h.wk⟩)=>jlB (F:=A) (i:=op.a) (to:=to) hR'.y.W.B hR'.y.W.f hz
   have f3:=fun(D' N:jb) (d':CyV) (vr':Value) (R':List RwD) (hR':HqR R0 w0 D' C c vc vt v d' ⟨s2,h.p,h.wk⟩) (hB:BoD w0 (N++D') v vr' C.g R') (hX:rwX R'=(rwX d'.z.R).set v.t (Jp s2.W.x C.g.slots z op.a to).2)=>(⟨hR'.y.words hB hX hok3.w hok3.rf,hR'.c.part ja,hR'.e1,hR'.e2⟩:HqR R0 w0 (N++D') C c vc vt v ⟨d'.va,⟨vr',d'.z.vt,d'.z.vn,R',d'.z.gens⟩,d'.q,d'.vd⟩ {h with s:={s2 with W:={s2.W with x:=(Jp s2.W.x C.g.slots z op.a to).2}}})
   have hnil:[]++D=D:=rfl
   clear hJ2 hlt hs2 hto'
   have hoo:=hR.y.c
   unfold CyG id at hS1 hS2;unfold boL at hSW hRf hSR;unfold cyL at hS1 hS2;unfold hqL at had hsl;unfold opV;refine en3 104 Tryz.func69 ?_;unfold hqL
   obtain⟨q1,q2,q3,q4,q5,q6,q7,q8,q9,r1,r2,r3,r4,r5⟩:=hR.y.c
   have o1:=hR.e1
   have o2:=hR.e2
   refine xr3 ?_;intro b3;refine xr1 ?_;intro b4;refine xr1 ?_;intro b6;refine xr1 ?_;intro b7;refine xr7 ?_;refine zw ?_;refine xr2 ?_;intro b8;refine xr15 ?_;refine je (hSW _) ja ?_;rintro _ _ ⟨vr2,R2',N2,hB2,hX2,rfl,rfl⟩
   have w2:=hB2.m.o
   (iterate 29 first|refine ZS ?_|intro _)
   refine zbN ?_;refine xr23 ?_;refine ji (hsl _) bg ?_;refine xr7 ?_;refine K.cutT (σ:=WrT) [(3,_),(4,_),(6,_),(7,_),(8,_)] jg (fun s kp_=>(2, .int .i64 (n:Nat))::(11, .int .i64 old)::(13, .int .i64 to)::kp_) (fun s=>(b3,cells (hqL C c vc vt v d ⟨h.s,h.p,h.wk⟩) 63)::(b4,cells [.int .u8 (op.c:Nat), .int .u64 (op.h:Nat), .int .i64 op.a, .int .i64 op.b, .int .u64 (op.v:Nat)] 69)::(b8,cells [.int .i64 0, .int .u64 0, .int .u64 0, .int .i64 (z.addr:Nat), .int .i64 0, .int .i64 0, .int .i64 0, .bool false] 78)::(b6,cells hq0 63)::(b7,cells [.int .i64 0, .int .u64 0, .int .u64 0, .int .i64 0, .int .i64 0, .int .i64 0, .int .i64 0, .bool false] 78)::(N2++(D++F))) (fun s=>True) ?_ ?_
   ·rcases htv with⟨v1,v2⟩|⟨v1,sl,v2,v3⟩
    ·subst v2;refine xr11 ?_;exact zcu
    ·subst v3;simp only[v2,Option.getD_some,Option.isSome_some];refine xr16 ?_;exact zcu
   ·rintro⟨_,_⟩-
    skip
    refine K.cutT (σ:=WrT) [(3,_),(4,_),(6,_),(7,_),(8,_)] jg (fun s kp_=>(2, .int .i64 (n:Nat))::(13, .int .i64 to)::kp_) (fun s=>(b3,cells (hqL C c vc vt v s.d ⟨s1,h.p,h.wk⟩) 63)::(b4,cells [.int .u8 (op.c:Nat), .int .u64 (op.h:Nat), .int .i64 op.a, .int .i64 op.b, .int .u64 (op.v:Nat)] 69)::(b8,cells [.int .i64 0, .int .u64 0, .int .u64 0, .int .i64 (z.addr:Nat), .int .i64 0, .int .i64 0, .int .i64 0, .bool false] 78)::(b6,cells hq0 63)::(b7,cells [.int .i64 0, .int .u64 0, .int .u64 0, .int .i64 0, .int .i64 0, .int .i64 0, .int .i64 0, .bool false] 78)::(s.N++(D++F))) (fun s=>HqR R0 w0 (s.N++D) C c vc vt v s.d ⟨s1,h.p,h.wk⟩) ?_ ?_
    ·by_cases g0:old>=0
     ·have hS0:=fun A=>hS1 A g0
      unfold hqL;refine xr12 ?_;refine je (hS0 _) bg ?_;rintro _ _ ⟨d3,N3,hy3,rfl,rfl⟩
      have hR3:HqR R0 w0 ((N3++N2)++D) C c vc vt v d3 ⟨s1,h.p,h.wk⟩:=⟨hy3.part bg,hR.c.part ja,hR.e1,hR.e2⟩
      obtain⟨_,_,_,_,t5,t6,t7,t8,t9,ta,tb,tc,td,te⟩:=hy3.c
      refine xr3 ?_;exact KE.meet ⟨d3,N3++N2⟩ jg (by(try unfold hqL);(try simp only[List.append_assoc]);exact ja) hR3
     ·have g1:=hn1 g0
      unfold hqL;refine xr8 ?_;exact KE.meet ⟨d,N2⟩ jg (by(try unfold hqL);(try rw[g1]);(try simp only[List.append_assoc]);exact ja) (by dsimp only;rw [g1];exact⟨hR.y.part ja,hR.c.part ja,hR.e1,hR.e2⟩)
    ·rintro⟨d3,N3⟩ hR3;dsimp only at hR3|-
     obtain⟨_,_,_,_,t5,t6,t7,t8,t9,ta,tb,tc,td,te⟩:=hR3.y.c
     skip
     refine K.cutT (σ:=WrT) [(3,_),(4,_),(6,_),(7,_),(8,_)] jg (fun s kp_=>(2, .int .i64 (n:Nat))::(13, .int .i64 to)::kp_) (fun s=>(b3,cells (hqL C c vc vt v s.d ⟨s2,h.p,h.wk⟩) 63)::(b4,cells [.int .u8 (op.c:Nat), .int .u64 (op.h:Nat), .int .i64 op.a, .int .i64 op.b, .int .u64 (op.v:Nat)] 69)::(b8,cells [.int .i64 0, .int .u64 0, .int .u64 0, .int .i64 (z.addr:Nat), .int .i64 0, .int .i64 0, .int .i64 0, .bool false] 78)::(b6,cells hq0 63)::(b7,cells [.int .i64 0, .int .u64 0, .int .u64 0, .int .i64 0, .int .i64 0, .int .i64 0, .int .i64 0, .bool false] 78)::(s.N++(D++F))) (fun s=>HqR R0 w0 (s.N++D) C c vc vt v s.d ⟨s2,h.p,h.wk⟩) ?_ ?_
     ·by_cases g0:to>=0
      ·have hS0:=fun A=>hS2 A _ d3 hR3 g0
       unfold hqL;refine xr12 ?_;refine je (hS0 _) bf ?_;rintro _ _ ⟨d4,N4,hy4,rfl,rfl⟩
       have hR4:HqR R0 w0 ((N4++N3)++D) C c vc vt v d4 ⟨s2,h.p,h.wk⟩:=⟨hy4.part bf,hR.c.part ja,hR.e1,hR.e2⟩
       obtain⟨_,_,_,_,u5,u6,u7,u8,u9,ua,ub,uc,ud,ue⟩:=hy4.c
       refine xr3 ?_;exact KE.meet ⟨d4,N4++N3⟩ jg (by(try unfold hqL);simp only[List.append_assoc];exact ja) hR4
      ·have g1:=hn2 g0
       unfold hqL;refine xr8 ?_;exact KE.meet ⟨d3,N3⟩ jg (by(try unfold hqL);(try rw[g1]);simp only[List.append_assoc];exact ja) (by dsimp only;rw [g1];exact hR3)
     ·rintro⟨d4,N4⟩ hR4;dsimp only at hR4|-
      obtain⟨_,_,_,_,u5,u6,u7,u8,u9,ua,ub,uc,ud,ue⟩:=hR4.y.c
      have hSR4:=fun A=>hSR A _ d4 hR4
      unfold hqL;refine xr11 ?_;refine je (hSR4 _) bf ?_;rintro _ _ ⟨vr5,R5,N5,hB5,hX5,rfl,rfl⟩
      have w5:=hB5.m.o
      have hR5:=f3 _ N5 d4 vr5 R5 hR4 hB5 hX5
      refine xr10 ?_;refine zcv ?_;refine xr9 ?_;exact KE.fin (H':=(N5++N4)++(D++F)) jd rfl jc bf ⟨_,(by rfl),fun _=>rfl,_,N5++N4,by rw[List.append_assoc];exact hR5,rfl,rfl⟩
