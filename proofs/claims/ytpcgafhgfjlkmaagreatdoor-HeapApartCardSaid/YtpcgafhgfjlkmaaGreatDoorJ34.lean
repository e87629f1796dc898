/-The walker and the contracts that the law needs,part 34. -/
import Derived.Test.YtpcgafhgfjlkmaaGreatDoorD1
import Derived.ArgAppend
import Derived.ChangeMaps5
import Derived.Deep.Fields
import Derived.Deep.LoopGhost
import Derived.Deep.OwnRows
import Derived.Deep.Quiet
import Derived.Deep.Slices
import Derived.IntWalk
import Derived.Laws.Cells
import Derived.Laws.CopyOwn
import Derived.Laws.Externs
import Derived.Laws.FloatArith
import Derived.Laws.IdiomStrings
import Derived.Laws.NewFold
import Derived.Laws.StructEq
import Derived.Lib.BitFns
import Derived.Lib.Hide
import Derived.Lib.SmallJoins
import Derived.Lib.TrailingZeros
import Derived.Maps.RangeRun
import Derived.OrdersIn
import Derived.ProofKit
import Derived.RangeFuncBound
import Derived.RangeFuncCalls
import Derived.RangeFuncLeaves
import Derived.RangeFuncNested
import Derived.RecoverIn
import Derived.Shelf.Bits.Mul64
import Derived.Shelf.Slices.Turned
import Derived.Shelf.Spec.TrailingZeros
import Derived.Shelf.Strconv.Itoa0
import Derived.SizedLaws
import Derived.Sort.BigQuietIn
import Derived.StillTailTactics
import Derived.Test.YtpcgafhgfjlkmaaGreatDoorProg
import Derived.WalkKit
import Derived.Test.YtpcgafhgfjlkmaaGreatDoorJ33
set_option linter.unusedVariables false set_option linter.unusedSimpArgs false set_option linter.unusedVariables false
set_option linter.unusedSimpArgs false
namespace Go.Proofs.YtpcgafhgfjlkmaaGreatDoor.Sw
set_option maxHeartbeats 8000000
open Go.Proofs.YtpcgafhgfjlkmaaGreatDoor renaming lo → qL, hi → qH
open Go.RowKit
set_option maxRecDepth 10000
theorem jlB {c r w:Nat} (hc:c<256) (hr:r<65536) (hw:w<65536):putN c r w%2^16=0∧putN c r w/2^16%2^16=w∧putN c r w/2^32%2^16=r∧putN c r w/2^48%2^8=c∧putN c r w/2^56%2^8=199:=by
 have e1:(2:Nat)^16=65536:=by decide
 have e2:(2:Nat)^32=65536*65536:=by decide
 have e3:(2:Nat)^48=65536*65536*65536:=by decide
 have e4:(2:Nat)^56=65536*65536*65536*256:=by decide
 have e5:(2:Nat)^8=256:=by decide
 have hp:putN c r w=65536*(w+65536*(r+65536*(c+256*199))):=by
  unfold putN;rw [e1,e2,e3,e4];omega
 rw[e4,e3,e2,e1,e5,hp];simp only[←Nat.div_div_eq_div_mul];refine⟨Nat.mul_mod_right ..,?_,?_,?_,?_⟩
 ·rw[Nat.mul_div_cancel_left _ (by decide)];omega
 ·rw[Nat.mul_div_cancel_left _ (by decide),show(w+65536*(r+65536*(c+256*199)))/65536=r+65536*(c+256*199) by omega];omega
 ·rw[Nat.mul_div_cancel_left _ (by decide),show(w+65536*(r+65536*(c+256*199)))/65536=r+65536*(c+256*199) by omega,show(r+65536*(c+256*199))/65536=c+256*199 by omega];omega
 ·rw[Nat.mul_div_cancel_left _ (by decide),show(w+65536*(r+65536*(c+256*199)))/65536=r+65536*(c+256*199) by omega,show(r+65536*(c+256*199))/65536=c+256*199 by omega];omega
theorem get_putW {hd:HdP} (hm:Jd hd=true):getH (putW hd).toNat=some hd:=by
 obtain⟨a1,a2,a3,a4,a5,a6⟩:=jbm hm
 obtain⟨c,r,w⟩:=hd
 dsimp only at a1 a2 a3 a4 a5 a6
 obtain⟨c,rfl⟩: ∃ n:Nat,c=n:=⟨c.toNat,by omega⟩
 obtain⟨r,rfl⟩: ∃ n:Nat,r=n:=⟨r.toNat,by omega⟩
 obtain⟨w,rfl⟩: ∃ n:Nat,w=n:=⟨w.toNat,by omega⟩
 obtain⟨d1,d2,d3,d4,d5⟩:=jlB (c:=c) (r:=r) (w:=w) (by omega) (by omega) (by omega)
 unfold putW getH;dsimp only;simp only[Int.toNat_natCast];rw[d1,d2,d3,d4,d5];rw[if_pos ⟨rfl,rfl,hm⟩]
theorem getH_0:getH 0=none:=by
 rfl
section
variable {g : PlG} {x : List Int} {n : Nat} {y : jg}
theorem jjF (ok:jc g) (hy:g.L[n]?=some y) (hz:jbt g x n):headP x y=none:=by
 have f1:=ok.fits hy
 have h0:=hz y hy 0 (by omega)
 grind[headP,getH_0]
theorem jeN (ok:jc g) (hx:x.length=g.words) (hy:g.L[n]?=some y) (hz:jbt g x n) {hd:HdP} (hl:jad y hd=true):
  (makeP x y hd).1=0∧headP (makeP x y hd).2 y=some hd∧ ∀ j,1≤j→j<y.size→wAt (makeP x y hd).2 (y.addr+j)=0:=by
 have f1:=ok.fits hy
 grind[JU,makeP,headP,jjF,jcR,h1,h2,jd4,get_putW,jaD,jaj,ja8]
end
section
variable {C : HpC} {wr : Bool} {h h' : HpP} {s s' : CyP} {n : Nat}
theorem help_RW (hC:jk C) (hI:HeI C h) (hs:jZ C.g C.long h.s=some s'):jaA C.g h.s s':=by
 have h0:h.s.ph≠0:=fun e=>by grind[jdA]
 obtain⟨S0,A0,hi⟩:=hI.i1 h0
 have hw:=je9 hC.g hI.ok hi hs
 have hx: ∀ t,RchM C.g h.s.W t→jJ C.g h.s.W.x s'.W.x t:=fun t ht=>hw.w t (hi.cl.rch ht)
 refine⟨fun t ht=>?_,hx,fun k=>by rw[hw.T],fun i n=>by rw[hw.T],hw.N⟩
 induction ht with
 |root a b=>exact .root (by rw[hw.T];exact a) (by rw[jh7 hw.T hw.N];omega)
 |edge a b ih=>exact .edge ih (by rw[jbA hC.g (hx _ a)];exact b)
theorem pays_RW (hC:jk C): ∀ (d:Nat) (h:HpP),HeI C h→d≤h.p.debt→jaA C.g h.s (jaa C d h).s
 |0,h,_,_=> .refl
 |d+1,h,hI,hd=>by
  unfold jaa
  cases hh:jZ C.g C.long h.s with
  |none=>exact .refl
  |some s'=>
   have m1:j8 C true h ⟨s',{h.p with debt:=d},h.wk+1⟩:=(HpMv.one (.help hh)).tail (.free (h:={h with s:=s'}) rfl fun hb=>⟨hb.s,hb.t,by have:=hb.d;grind,hb.c⟩)
   exact(help_RW hC hI hh).trans (pays_RW hC d _ (hI.mvs hC m1) (Nat.le_refl _))
theorem due_RW (hC:jk C) (hI:HeI C h) {due:Nat} (h2:due=2→h.p.act=true):jaA C.g h.s (jcE C due h).s:=by
 unfold jcE
 split
 ·exact jir
 ·split
  ·rename_i e
   have hp:=hI.pa
   rw[h2 e] at hp;exact end_W hC hI (of_decide_eq_true hp.symm)
  ·exact .refl
theorem jcU (hC:jk C) (hI:HeI C h):jaA C.g h.s (jaS C n h).s:=by
 have m1:j8 C true h {h with p:=(Ja C.tr C.ast n h.p).2}:=HpMv.one (.free rfl fun hb=>hb.ask _ _ _)
 have m2:=m1.trans (jeL (Ja C.tr C.ast n h.p).2.debt {h with p:=(Ja C.tr C.ast n h.p).2} (Nat.le_refl _))
 have ha:(jaa C (Ja C.tr C.ast n h.p).2.debt {h with p:=(Ja C.tr C.ast n h.p).2}).p.act=h.p.act:=(jd7 _ _).trans rfl
 have r1:=pays_RW hC (Ja C.tr C.ast n h.p).2.debt {h with p:=(Ja C.tr C.ast n h.p).2} (hI.mvs hC m1) (Nat.le_refl _)
 exact jaA.trans (s:=h.s) r1 (due_RW hC (hI.mvs hC m2) fun e=>ha.trans (jdE.2 e))
def jco (C:HpC):Nat:=18*C.g.words+C.caps+C.g.slots+1
structure WkI (C:HpC) (h:HpP):Prop where
 c:h.s.ph≠0→h.s.st+Jj C.g h.s≤jco C
theorem jfG {g:PlG} {long:Nat} (ok:jc g) (hi:jr g long s) (t:Int):(shdC g long s t).st+Jj g (shdC g long s t)≤s.st+Jj g s:=by
 unfold shdC
 split
 ·have h3:=jgX ok hi.m t
  grind[mes_m,h3]
 omega
theorem jjh {g:PlG} {long:Nat} (ok:jc g) (hi:jr g long s) (t:Int):(jM g long s t).st+Jj g (jM g long s t)≤s.st+Jj g s:=by
 unfold jM
 split
 ·exact jfG ok hi t
 omega
theorem jew {g:PlG} {W':MwP} (h:W'.T.length=s.W.T.length):({s with W:=W'}:CyP).st+Jj g {s with W:=W'}=s.st+Jj g s:=by rw[mes_W h]
theorem acts_sum' {g:PlG} {long:Nat} (ok:jc g) (h:jr g long s) {a:jaB} (ha:2≤a.w%6):(doesC g long s a).st+Jj g (doesC g long s a)≤s.st+Jj g s:=by
 unfold doesC;rw[if_neg (by omega)]
 split
 ·unfold jaU
  split
  ·omega
  ·split
   ·omega
   ·split
    ·omega
    ·exact Nat.le_trans (jjh ok (jld ok h _) _) (jjh ok h _)
 ·split
  ·omega
  ·split
   ·exact Nat.le_trans (Nat.le_of_eq (jew jd1)) (jfG ok h _)
   ·split
    ·grind[jew]
    ·exact Nat.le_trans (Nat.le_of_eq (jew rfl)) (jfG ok h _)
theorem WkI.mv (hC:jk C) (hI:HeI C h) (m:HpMv C wr h h') (hw:WkI C h):WkI C h':=by
 have ok:=hC.g
 cases m with
 |free h1 h2=>exact⟨hw.c⟩
 |help h1=>
  have h0:h.s.ph≠0:=fun e=>by grind[jdA,h1]
  exact⟨fun _=>Nat.le_trans (jkA ok hI.ok h1) (hw.c h0)⟩
 |step h1=>
  have h0:h.s.ph≠0:=fun e=>by grind[jed,h1]
  exact⟨fun _=>Nat.le_trans (jj4 ok hI.ok h1) (hw.c h0)⟩
 |begin h0=>
  refine⟨fun _=>?_⟩
  have h1:=jjO ok (s:=h.s)
  rw[hI.n] at h1;exact h1
 |publish h3=>exact⟨fun e=>absurd rfl e⟩
 | @acts a h2 _=>exact⟨fun e=>Nat.le_trans (acts_sum' ok hI.ok h2) (hw.c (by grind[jhN]))⟩
 |word _ _ _=>exact⟨fun e=>Nat.le_trans (Nat.le_of_eq (jew rfl)) (hw.c e)⟩
 | @read n t k i h1 h2 _=>
  refine⟨fun e=>Nat.le_trans (Nat.le_of_eq (jew (s:=shdC C.g C.long h.s (t:Nat)) jbB)) (Nat.le_trans (jfG ok hI.ok _) (hw.c fun e0=>e ?_))⟩
  show(shdC _ _ _ _).ph=0
  grind[shdC]
 | @make k hd h1 _ _ _=>
  refine⟨fun e=>?_⟩
  have h3:=jgR hI.ok.m (takeP C.g h.s.A k).1.toNat
  have h5:=mes_m (s:=h.s) h3
  refine Nat.le_trans (Nat.add_le_add_left (Nat.le_trans (Nat.le_of_eq ?_) h5) h.s.st) (hw.c e);exact mes_W (g:=C.g) (s:={h.s with m:=Jt h.s.m (takeP C.g h.s.A k).1.toNat}) (W':={h.s.W with T:=jK h.s.W.T (takeP C.g h.s.A k).1,x:=(makeP h.s.W.x (ju C.g (takeP C.g h.s.A k).1) hd).2}) jbB
theorem WkI.mvs (hC:jk C) (hI:HeI C h) (m:j8 C wr h h') (hw:WkI C h):WkI C h':=
 (m.ind (I:=fun q=>HeI C q∧WkI C q) (fun _ _ m i=>⟨i.1.mv hC m,i.2.mv hC i.1 m⟩) ⟨hI,hw⟩).2
def WkB (C:HpC) (h:HpP):Prop:=h.wk+Jj C.g h.s≤jco C∨(h.s.ph=0∧h.wk≤2*jco C)
theorem WkB.le (h1:WkB C h):h.wk≤2*jco C:=by
 rcases h1 with h1|h1
 ·omega
 omega
theorem WkB.zero (hw:WkI C h) (h0:h.wk=0):WkB C h:=by
 by_cases e:h.s.ph=0
 ·right;omega
 ·left;have:=hw.c e;omega
structure NewO (C:HpC) (h:HpP) (w:Nat) (a b:Int):Prop where
 ex: ∃ (j:Nat) (y:jg) (k:Nat),hpSlot C.tn h.s.W.T w=some ((j:Nat):Int)∧C.g.L[j]?=some y∧headP h.s.W.x y=some ⟨(k:Nat),a,b⟩∧Jd ⟨(k:Nat),a,b⟩=true∧ ∀ i,1≤i→i<y.size→wAt h.s.W.x (y.addr+i)=0
end
open Go.RowKit
set_option maxRecDepth 10000
section
variable {w0 : World} {D : HpD} {nf nk n : Nat} {y y' : CyM} {h : HpP} {s' : CyP} {F : jb}
theorem cFree_K {g:PlG} {long:Nat} {s:CyP} (h:CpR g long y s):Call Tryz.prog w0 38 [.pointer (some ⟨y.T.b,0,none⟩)] (cycH y++F) (fun r H'=>r= .int .i64 (cntP 0 s.W.T:Nat)∧H'=cycH y++F):=by
 have hc:=Call.ro (w0:=w0) (A:=jy y.T) (H:=cycH y++F) (fun F=>tbFree_K (F:=F) h.p.tb) (by rw[cycH_app];exact ja)
 rw[h.p.eT] at hc;exact hc
theorem jkw (h1:HpR D nf nk y h):Call Tryz.prog w0 38 [.pointer (some ⟨D.Tb,0,none⟩)] (hpH D y h++F) (fun r H'=>r= .int .i64 (cntP 0 h.s.W.T:Nat)∧H'=hpH D y h++F):=
 h1.lift0 fun A=>by have:=cFree_K (w0:=w0) (F:=A) h1.p;rw [h1.T] at this;exact this
theorem jb5:Call Tryz.prog w0 47 [.pointer (some ⟨D.b,0,none⟩)] (hpH D y h++F) (fun r H'=>r= .bool false∧H'=hpH D y h++F):=by
 refine zkD ?_;simp only[hpH_app];refine zcp ?_;refine zfw ?_;refine zef ?_;refine zf ?_;exact zey
theorem jfO (h1:HpR D nf nk y h):Call Tryz.prog w0 182 [.pointer (some ⟨D.b,0,none⟩)] (hpH D y h++F) (fun r H'=>r= .bool (j5 h.s)∧H'=hpH D y h++F):=by
 have hTb:=fun A=>jd0 (w0:=w0) (F:=A) h1
 have hF:=fun A=>jkw (w0:=w0) (F:=A) h1
 have hfb:j5 h.s=decide (((cntP 0 h.s.W.T:Nat):Int)>0):=by
  unfold j5
  by_cases c:0<cntP 0 h.s.W.T
  ·rw[decide_eq_true c,decide_eq_true (by omega)]
  ·rw[decide_eq_false c,decide_eq_false (by omega)]
 rw[hfb];refine Call.enter1 (n:=10) (by kernel_rfl) Tryz.func182 rfl rfl rfl ?_;simp only[hpH_app];refine z7 ?_;refine zbC fun T hT=>?_;refine zjB ?_;rintro _ _ ⟨rfl,rfl⟩;refine zd ?_;clear hT T;refine zq fun T hT=>?_;refine(CallV.part (CallV.fn (hF _)) (by first|exact ja|(simp only[hpH_app];exact ja))).mono ?_;rintro _ _ ⟨rfl,rfl⟩;refine zd ?_;clear hT T;refine KL.v rfl (Val.gtr rfl rfl) ?_;refine zf ?_;exact zey
theorem jjC (hD:HpDok D) (h1:HpR D nf nk y h) (h0:h.s.ph=0) (ha:h.p.act=false) (hf:nf≤1000000):Call Tryz.prog w0 233 [.pointer (some ⟨D.b,0,none⟩)] (hpH D y h++F) (fun r H'=>r= .tuple #[]∧HpQ D (nf+1) nk (jaE D.C h) F H'):=by
 have hB:=fun A=>h1.lift (F:=A) (fun A=>by have:=cyBegin_K (w0:=w0) (F:=A) h1.p h0 (Nat.le_trans h1.f hf);rw [h1.b] at this;exact this)
 have hP:=fun A (y1:CyM) (h2:HpR D (nf+1) nk y1 {h with s:=beginC D.C.g h.s})=>h2.pace (F:=A) (h1.pb.turn true) (fun A=>pcBegin_K (w0:=w0) (F:=A) (h2.pc hD) ha)
 unfold HpQ at hB hP⊢;refine Call.enter1 (n:=12) (by kernel_rfl) Tryz.func233 rfl rfl rfl ?_;simp only[hpH_app];refine zy ?_;refine zbC fun T hT=>?_;refine zfb ?_;rintro _ _ ⟨rfl,y1,h2,rfl⟩;refine zd ?_;clear hT T;simp only[hpH_app];refine za0 ?_;refine zbj ?_;refine za5 fun T hT=>?_;refine zl3 ?_;rintro _ _ ⟨rfl,y2,h3,rfl⟩;refine zd ?_;clear hT T;refine zN ?_;exact KE.finN je rfl jd (by first|exact ja|(simp only[hpH_app];exact ja)) ⟨rfl,y2,h3,rfl⟩
theorem jlJ {g:PlG} {long:Nat} {z:CyP} (hG:js w0) (h:CpR g long y z) (h0:z.ph≠0):Call Tryz.prog w0 269 [.pointer (some ⟨y.b,0,none⟩)] (cycH y++F) (fun r H'=>r= .tuple [.int .i64 ((finC g long z).1:Nat), .int .i64 0].toArray∧CyQ g long y 0 F (finC g long z).2 H'):=by
 refine(jmr hG h h0).mono ?_;rintro _ _ ⟨n,s',rfl,h1,h2,h3,hq⟩;rw[fin_is h.okg h.i h1 h2];exact⟨rfl,hq⟩
theorem fin_lim {g:PlG} {long:Nat} {z:CyP} (h:CpR g long y z):(finC g long z).1≤100000000:=by
 have:=(jds.ok h.okg h.i).mes
 have:=h.le.s
 omega
theorem jij (hG:js w0) (hD:HpDok D) (h1:HpR D nf nk y h) (h0:h.s.ph≠0) (ha:h.p.act=true) (hk:nk≤1000000000):Call Tryz.prog w0 232 [.pointer (some ⟨D.b,0,none⟩)] (hpH D y h++F) (fun r H'=>r= .tuple #[]∧HpQ D nf (nk+100000000) (jas D.C h) F H'):=by
 have hw:=h1.w
 have hfl:=fin_lim h1.p
 have hF:=fun A=>h1.lift (F:=A) (fun A=>by have:=jlJ (F:=A) hG h1.p h0;rw [h1.b] at this;exact this)
 have h3:=jeY h1.p.okg h1.p.i h0
 unfold jas
 obtain⟨n,hn⟩: ∃ n,(finC D.C.g D.C.long h.s).1=n:=⟨_,rfl⟩
 obtain⟨s1,hs1⟩: ∃ s1,(finC D.C.g D.C.long h.s).2=s1:=⟨_,rfl⟩
 rw[hn] at hfl;simp only[hn,hs1] at hF h3⊢
 have hwk:=fun(y1:CyM) (h2:HpR D (nf+0) nk y1 {h with s:=s1})=>h2.wk (n:=h.wk+n) (nk':=nk+100000000) (by omega)
 have hP:=fun A (y1:CyM) (h2:HpR D (nf+0) nk y1 {h with s:=s1})=>(hwk y1 h2).lift (F:=A) (fun A=>by have:=jlI (F:=A) hG h2.p h3;rw [h2.b,h2.g] at this;exact this.mono fun r _ hh=>⟨(⟨_,_,hh.1⟩: ∃ a b:Int,r= .tuple [.int .i64 a, .int .i64 b, .int .i64 0].toArray),hh.2⟩)
 have hE:=fun A (y2:CyM) (h2:HpR D (nf+0+0) (nk+100000000) y2 ⟨publishC D.C.g D.C.gn s1,h.p,h.wk+n⟩)=>h2.pace (F:=A) (h1.pb.turn false) (fun A=>pcEnd_K (w0:=w0) (F:=A) (h2.pc hD) ha)
 have e5:((h.wk:Nat):Int)+((n:Nat):Int)=((h.wk+n:Nat):Int):=by omega
 unfold HpQ at hF hP hE⊢;refine Call.enter1 (n:=30) (by kernel_rfl) Tryz.func232 rfl rfl rfl ?_;simp only[hpH_app];refine zy ?_;refine zbC fun T hT=>?_;refine(CallV.part (CallV.fn (hF _)) (by first|exact ja|(simp only[hpH_app];exact ja))).mono ?_;rintro _ _ ⟨rfl,y1,h2,rfl⟩;refine zd ?_;clear hT T;simp only[hpH_app];refine zQ ?_;refine zK ?_;refine zaL ?_;refine zp ?_;refine zbZ ?_;refine zaQ ?_;refine zaL ?_;refine zO ?_;refine zaY ?_;rw[e5];refine zy ?_;refine zbC fun T hT=>?_;refine zl3 ?_;rintro _ _ ⟨⟨a,b,rfl⟩,y2,h4,rfl⟩;refine zd ?_;clear hT T;simp only[hpH_app];refine za0 ?_;refine zbj ?_;refine za5 fun T hT=>?_;refine(CallV.part (CallV.fn (hE _ y2 h4)) (by first|exact ja|(simp only[hpH_app];exact ja))).mono ?_;rintro _ _ ⟨rfl,y3,h5,rfl⟩;refine zd ?_;clear hT T;refine zN ?_;exact KE.finN je rfl jd (by first|exact ja|(simp only[hpH_app];exact ja)) ⟨rfl,y3,h5,rfl⟩
set_option maxHeartbeats 1000000 in
theorem jkx {is:CyP→Bool} {fv:Value} {G:jb} (hG:js w0) (hD:HpDok D) (hI:HeI D.C h) (h1:HpR D nf nk y h) (hf:nf≤1000000) (hk:nk≤100000000)
  (his: ∀ (nf nk:Nat) (y:CyM) (h:HpP),HpR D nf nk y h→CallV Tryz.prog w0 fv [] (hpH D y h++G) (fun r H'=>r= .bool (is h.s)∧H'=hpH D y h++G)):
  Call Tryz.prog w0 180 [.pointer (some ⟨D.b,0,none⟩),fv] (hpH D y h++G) (fun r H'=>r= .tuple #[]∧HpQ D (nf+1) (nk+200000000) (Jz D.C is h) G H'):=by
 have hC:=hD.C
 have hph:=fun A (nf nk:Nat) (y:CyM) (h:HpP) (h1:HpR D nf nk y h)=>jfv (w0:=w0) (F:=A) h1
 have hI1:=hI.mvs hC (jeC (wr:=true) hC hI (is:=is))
 have hend:=fun(ha:h.s.ph≠0)=>jij (F:=G) hG hD h1 ha (by rw[hI.pa];exact decide_eq_true ha) (by omega)
 unfold HpQ at hend⊢;refine Call.enter2 (n:=24) (by kernel_rfl) Tryz.func180 rfl rfl rfl ?_;refine K.cutT (σ:=CyM) [] jj (fun s kp_=>(0, .pointer (some ⟨D.b,0,none⟩))::(1,fv)::kp_) (fun s=>hpH D s (JC D.C is h)++G) (fun s=>HpR D nf (nk+100000000) s (JC D.C is h)) ?_ ?_
 ·unfold JC
  cases hc:is h.s with
  |true=>
   have hi:=his nf nk y h h1
   rw[hc] at hi;rw[if_neg (fun q=>by cases q.1)];refine zy ?_;refine zx fun T hT=>?_;refine zif ?_;rintro _ _ ⟨rfl,rfl⟩;refine zd ?_;clear hT T;refine zE ?_;refine zfh ?_;refine zbq ?_;exact KE.meet y jj ja (h1.mono (Nat.le_refl _) (by omega))
  |false=>
   have hi:=his nf nk y h h1
   rw[hc] at hi
   by_cases hp:h.s.ph=0
   ·have hp':((h.s.ph:Nat):Int)=0:=by omega
    rw[if_neg (fun q=>q.2 hp)];refine zy ?_;refine zx fun T hT=>?_;refine zif ?_;rintro _ _ ⟨rfl,rfl⟩;refine zd ?_;clear hT T;simp only[hpH_app];refine zU ?_;refine zan ?_;refine zfw ?_;refine zq fun T hT=>?_;refine zl4 ?_;rintro _ _ ⟨rfl,rfl⟩;refine zd ?_;clear hT T;refine zi ?_;refine zaE ?_;refine zw ?_;refine zbq ?_;exact KE.meet y jj (by first|exact ja|(simp only[hpH_app];exact ja)) (h1.mono (Nat.le_refl _) (by omega))
   ·have hp': ¬((h.s.ph:Nat):Int)=0:=by omega
    rw[if_pos ⟨rfl,hp⟩];refine zy ?_;refine zx fun T hT=>?_;refine zif ?_;rintro _ _ ⟨rfl,rfl⟩;refine zd ?_;clear hT T;simp only[hpH_app];refine zU ?_;refine zan ?_;refine zfw ?_;refine zq fun T hT=>?_;refine zl4 ?_;rintro _ _ ⟨rfl,rfl⟩;refine zd ?_;clear hT T;refine zi ?_;refine zag ?_;refine zw ?_;refine zaS ?_;refine zx fun T hT=>?_;refine(CallV.part (CallV.fn (hend hp)) (by first|exact ja|(simp only[hpH_app];exact ja))).mono ?_;rintro _ _ ⟨rfl,y1,h2,rfl⟩;refine zd ?_;clear hT T;refine zN ?_;exact KE.meet y1 jj (by first|exact ja|(simp only[hpH_app];exact ja)) h2
 ·rintro y1 h2;unfold Jz
  have hi:=his _ _ y1 _ h2
  cases hc:is (JC D.C is h).s with
  |true=>
   rw[hc] at hi;rw[if_pos rfl];refine zy ?_;refine zx fun T hT=>?_;refine zif ?_;rintro _ _ ⟨rfl,rfl⟩;refine zd ?_;clear hT T;refine zE ?_;refine zbq ?_;exact KE.finN je rfl jd ja ⟨rfl,y1,h2.mono (by omega) (by omega),rfl⟩
  |false=>
   have h0:=jd5 (C:=D.C) (h:=h) (is:=is) (by rw[hc];decide)
   have hB:=jjC (w0:=w0) (F:=G) hD h2 h0 (by rw[hI1.pa,h0];rfl) hf
   have hE:=fun(y3:CyM) (h3:HpR D (nf+1) (nk+100000000) y3 (jaE D.C (JC D.C is h)))=>jij (F:=G) hG hD h3 (show(1:Nat)≠0 by decide) (by
    show(jaH true (JC D.C is h).p).act=true
    unfold jaH
    split
    ·assumption
    ·rfl) (by omega)
   unfold HpQ at hB hE;rw[hc] at hi;rw[if_neg (by decide)];refine zy ?_;refine zx fun T hT=>?_;refine zif ?_;rintro _ _ ⟨rfl,rfl⟩;refine zd ?_;clear hT T;refine zeQ ?_;refine zo ?_;refine j4 hB ja ?_;rintro _ _ ⟨rfl,y3,h3,rfl⟩;refine za0 ?_;refine zo ?_;refine j4 (hE y3 h3) ja ?_;rintro _ _ ⟨rfl,y4,h4,rfl⟩;refine zN ?_;exact KE.finN je rfl jd ja ⟨rfl,y4,h4.mono (by omega) (by omega),rfl⟩
end
open Go.RowKit
set_option maxRecDepth 10000
section
variable {w0 : World} {D : HpD} {nf nk n : Nat} {y y' : CyM} {h : HpP} {s' : CyP} {F : jb}
theorem cLook_K {g:PlG} {long:Nat} {s:CyP} {i n:Nat} (h:CpR g long y s):Call Tryz.prog w0 140 [.pointer (some ⟨y.T.b,0,none⟩), .int .i64 (i:Nat), .int .u32 (n:Nat)] (cycH y++F) (fun r H'=>r= .tuple [.int .i64 (((namedT s.W.T (i:Nat) (n:Nat)).map (·.slot)).getD 0), .int .i64 (if (namedT s.W.T (i:Nat) (n:Nat)).isSome=true then 0 else 130)].toArray∧H'=cycH y++F):=by
 have hc:=Call.ro (w0:=w0) (A:=jy y.T) (H:=cycH y++F) (fun F=>jmI (F:=F) (i:=i) (n:=n) h.p.tb) (by rw[cycH_app];exact ja)
 rw[h.p.eT] at hc;exact hc
theorem hyLook_K {i n:Nat} (h1:HpR D nf nk y h):Call Tryz.prog w0 140 [.pointer (some ⟨D.Tb,0,none⟩), .int .i64 (i:Nat), .int .u32 (n:Nat)] (hpH D y h++F) (fun r H'=>r= .tuple [.int .i64 (((namedT h.s.W.T (i:Nat) (n:Nat)).map (·.slot)).getD 0), .int .i64 (if (namedT h.s.W.T (i:Nat) (n:Nat)).isSome=true then 0 else 130)].toArray∧H'=hpH D y h++F):=
 h1.lift0 fun A=>by have:=cLook_K (w0:=w0) (F:=A) (i:=i) (n:=n) h1.p;rw [h1.T] at this;exact this
theorem jcW {w:Nat} (hw:w<18446744073709551616) (h1:HpR D nf nk y h):Call Tryz.prog w0 89 [.pointer (some ⟨D.b,0,none⟩), .int .u64 (w:Nat)] (hpH D y h++F) (fun r H'=>r= .tuple [.int .i64 ((hpSlot D.C.tn h.s.W.T w).getD 0), .bool (hpSlot D.C.tn h.s.W.T w).isSome].toArray∧H'=hpH D y h++F):=by
 have hget:=fun A=>jkL (w0:=w0) (H:=A) hw
 have hTb:=fun A=>jd0 (w0:=w0) (F:=A) h1
 have hL:=fun A=>hyLook_K (w0:=w0) (F:=A) (i:=capI w) (n:=capG w) h1
 unfold capV at hget;unfold hpSlot
 by_cases hg:capG w=0
 ·rw[if_neg (fun q=>q.1 hg)];simp only[if_pos hg] at hget;refine zjC ?_;refine za6 ?_;refine zo ?_;refine ji (hget _) ja ?_;refine zaX ?_;intro b6;refine zk ?_;refine ze9 ?_;refine zgC ?_;refine zj ?_;refine zjl ?_;refine zcT ?_;refine zft ?_;refine zcB ?_;refine zcs ?_;refine zk ?_;refine zas ?_;exact zey
 ·simp only[if_neg hg] at hget
  by_cases ht:capT w=D.C.tn
  ·have ht': ¬((capT w:Nat):Int)≠(D.C.tn:Nat):=by omega
   rw[if_pos ⟨hg,ht⟩]
   cases hn:namedT h.s.W.T (capI w:Nat) (capG w:Nat) with
   |none=>
    simp only[hn,Option.map_none,Option.getD_none,Option.isSome_none,Bool.false_eq_true,if_false] at hL⊢;refine zjC ?_;refine za6 ?_;refine zo ?_;refine ji (hget _) ja ?_;simp only[hpH_app];refine zaX ?_;intro b6;refine zk ?_;refine ze9 ?_;refine zgC ?_;refine zj ?_;refine zfS ?_;refine zfs ?_;refine zhZ ?_;refine zao ?_;refine zh5 ?_;refine zaB ?_;refine KE.next (K.condF rfl (K.skip (KE.next (K.seq ?_))));refine zl5 ?_;refine zeI ?_;refine zhI ?_;refine zba ?_;refine zeL ?_;refine zl fun T hT=>?_;refine zjB ?_;rintro _ _ ⟨rfl,rfl⟩;refine zak ?_;clear hT T;refine zl fun T hT=>?_;refine(CallV.part (CallV.fn (hL _)) (by first|exact ja|(simp only[hpH_app];exact ja))).mono ?_;rintro _ _ ⟨rfl,rfl⟩;refine zak ?_;clear hT T;refine zdp ?_;refine zaf ?_;refine zm ?_;refine zG ?_;refine zaI ?_;exact zey
   |some e=>
    simp only[hn,Option.map_some,Option.getD_some,Option.isSome_some,if_true] at hL⊢;refine zjC ?_;refine za6 ?_;refine zo ?_;refine ji (hget _) ja ?_;simp only[hpH_app];refine zaX ?_;intro b6;refine zk ?_;refine ze9 ?_;refine zgC ?_;refine zj ?_;refine zfS ?_;refine zfs ?_;refine zhZ ?_;refine zao ?_;refine zh5 ?_;refine zaB ?_;refine KE.next (K.condF rfl (K.skip (KE.next (K.seq ?_))));refine zl5 ?_;refine zeI ?_;refine zhI ?_;refine zba ?_;refine zeL ?_;refine zl fun T hT=>?_;refine zjB ?_;rintro _ _ ⟨rfl,rfl⟩;refine zak ?_;clear hT T;refine zl fun T hT=>?_;refine(CallV.part (CallV.fn (hL _)) (by first|exact ja|(simp only[hpH_app];exact ja))).mono ?_;rintro _ _ ⟨rfl,rfl⟩;refine zak ?_;clear hT T;refine zdp ?_;refine zaf ?_;refine zm ?_;refine zJ ?_;refine zaI ?_;exact zey
  ·have ht':((capT w:Nat):Int)≠(D.C.tn:Nat):=by omega
   rw[if_neg (fun q=>ht q.2)];refine zjC ?_;refine za6 ?_;refine zo ?_;refine ji (hget _) ja ?_;simp only[hpH_app];refine zaX ?_;intro b6;refine zk ?_;refine ze9 ?_;refine zgC ?_;refine zj ?_;refine zfS ?_;refine zfs ?_;refine zhZ ?_;refine zao ?_;refine KD.y0 rfl rfl rfl rfl (Val.isT (Val.neq rfl rfl) jL) ?_;refine zaB ?_;refine zcs ?_;refine zk ?_;refine zas ?_;exact zey
theorem jky {t:Nat} (hD:HpDok D) (h1:HpR D nf nk y h) (hI: ∀ e∈h.s.W.T,1≤e.gen∧e.gen≤2147483648) (ht:t<D.C.g.slots) (hf:(Ju h.s.W.T).isSome=true):Call Tryz.prog w0 186 [.pointer (some ⟨D.b,0,none⟩), .int .i64 (t:Nat)] (hpH D y h++F)
  (fun r H'=>r= .int .u64 (JG D.C.tn h.s.W.T:Nat)∧HpQ D nf nk {h with s:={h.s with W:={h.s.W with T:=jK h.s.W.T (t:Nat)}}} F H'):=by
 have hTb:=fun A=>jd0 (w0:=w0) (F:=A) h1
 have hM:=fun A=>h1.lift (F:=A) (fun A=>by have:=cMint_K (w0:=w0) (F:=A) h1.p ht;rw [h1.T] at this;exact this)
 have hl:=h1.p.T1024
 have htn:=hD.C.tn
 obtain⟨i,hi⟩:=Option.isSome_iff_exists.1 hf
 obtain⟨⟨e,g1,g2⟩,_⟩:=ja7 hi
 have hil:=jx g1
 have hge:=hI e (List.mem_of_getElem? g1)
 obtain⟨gn,hgn⟩: ∃ gn:Nat,e.gen=gn:=⟨e.gen.toNat,by omega⟩
 have hmv:jar h.s.W.T=(((i:Nat):Int),((gn:Nat):Int),0):=by unfold jar;rw [hi];dsimp only;rw [jcd g1,hgn]
 have hmw:JG D.C.tn h.s.W.T=capW D.C.tn i gn:=by unfold JG;rw [hmv];rfl
 simp only[hmv] at hM;rw[hmw]
 have hput:=fun A=>capPut_K (w0:=w0) (H:=A) (t:=D.C.tn) (i:=i) (n:=gn) (by omega) (by omega) ⟨by omega,by omega⟩
 unfold HpQ at hM⊢;refine Call.enter2 (n:=33) (by kernel_rfl) Tryz.func186 rfl rfl rfl ?_;simp only[hpH_app];refine z7 ?_;refine zbC fun T hT=>?_;refine zjB ?_;rintro _ _ ⟨rfl,rfl⟩;refine zd ?_;clear hT T;refine zx fun T hT=>?_;refine(CallV.part (CallV.fn (hM _)) (by first|exact ja|(simp only[hpH_app];exact ja))).mono ?_;rintro _ _ ⟨rfl,y1,h2,rfl⟩;refine zd ?_;clear hT T;simp only[hpH_app];refine za9 ?_;refine zu ?_;refine zcD ?_;refine zp ?_;refine zm ?_;refine zM ?_;refine zq fun T hT=>?_;refine(CallV.part (CallV.fn (hput _)) (by first|exact ja|(simp only[hpH_app];exact ja))).mono ?_;rintro _ _ ⟨rfl,rfl⟩;refine zd ?_;clear hT T;refine zQ ?_;refine za8 ?_;exact zhj
theorem cHead_K {g:PlG} {long:Nat} {s:CyP} {n:Nat} {z:jg} (hG:js w0) (h:CpR g long y s) (hz:g.L[n]?=some z):Call Tryz.prog w0 40 [.pointer (some ⟨y.B.b,0,none⟩), .int .i64 (n:Nat)] (cycH y++F) (fun r H'=>r=headV (headP s.W.x z)∧H'=cycH y++F):=
 Call.ro (w0:=w0) (A:=jR y.B++(jv y.B.m++planH y.B.p)) (H:=cycH y++F) (fun F=>by
  have:=jdO (w0:=w0) (F:=F) (s:=n) hG h.p.bo (by rw[h.eg];exact hz)
  simpa only [List.append_assoc] using this) (by rw[cycH_app];exact ja)
theorem hyHead_K {n:Nat} {z:jg} (hG:js w0) (h1:HpR D nf nk y h) (hz:D.C.g.L[n]?=some z):Call Tryz.prog w0 40 [.pointer (some ⟨D.Bb,0,none⟩), .int .i64 (n:Nat)] (hpH D y h++F) (fun r H'=>r=headV (headP h.s.W.x z)∧H'=hpH D y h++F):=
 h1.lift0 fun A=>by have:=cHead_K (w0:=w0) (F:=A) hG h1.p hz;rw [h1.B] at this;exact this
theorem jjB {n:Nat} {z:jg} {i:Int} (hG:js w0) (h1:HpR D nf nk y h) (hz:D.C.g.L[n]?=some z):Call Tryz.prog w0 188 [.pointer (some ⟨D.b,0,none⟩), .int .i64 (n:Nat), .int .i64 i] (hpH D y h++F) (fun r H'=>r= .tuple [.bool (JR h.s.W.x z i).1, .int .i64 (JR h.s.W.x z i).2].toArray∧H'=hpH D y h++F):=by
 have hB:=fun A=>jd8 (w0:=w0) (F:=A) h1
 have hH:=fun A=>hyHead_K (w0:=w0) (F:=A) hG h1 hz
 have hfd:=fun A (q:HdP)=>jkB (w0:=w0) (H:=A) (h:=q) (i:=i)
 unfold JR
 obtain⟨q,e,hq⟩: ∃ (q:HdP) (e:Int),headV (headP h.s.W.x z)= .tuple [hdV q, .int .i64 e].toArray∧(headP h.s.W.x z).getD ⟨0,0,0⟩=q:=by
  unfold headV
  cases headP h.s.W.x z with
  |none=>exact⟨⟨0,0,0⟩,_,rfl,rfl⟩
  |some q=>exact⟨q,_,rfl,rfl⟩
 rw[hq.2];rw[hq.1] at hH;unfold hdV at*
 obtain⟨c,r,w⟩:=q
 dsimp only at*;refine Call.enter3 (n:=25) (by kernel_rfl) Tryz.func188 rfl rfl rfl ?_;simp only[hpH_app];refine za6 ?_;refine zbC fun T hT=>?_;refine zfb ?_;rintro _ _ ⟨rfl,rfl⟩;refine zd ?_;clear hT T;refine zx fun T hT=>?_;refine(CallV.part (CallV.fn (hH _)) (by first|exact ja|(simp only[hpH_app];exact ja))).mono ?_;rintro _ _ ⟨rfl,rfl⟩;refine zd ?_;clear hT T;refine zaX ?_;intro b8;refine zu ?_;refine zb3 ?_;refine jq (hfd _ ⟨c,r,w⟩) ?_;refine zfY ?_;refine zaI ?_;exact zey
end
set_option maxRecDepth 10000
theorem jgT: ∀ {l:List jg} {A A':List Bool},(∀ t:Nat,A'[t]?=some true→A[t]?=some true)→usedL l A'≤usedL l A
 | [],A,A',_=>by simp[usedL]
 |p::l,A,[],_=>by simp[usedL]
 |p::l,[],b::A',h=>by
  have h0:=h 0
  have ih:=jgT (l:=l) (A:=[]) (A':=A') fun t ht=>by have:=h (t+1) (by grind);grind
  have e:usedL l []=0:=by cases l<;>rfl
  grind[usedL]
 |p::l,a::A,b::A',h=>by
  have h0:=h 0
  have ih:=jgT (l:=l) (A:=A) (A':=A') fun t ht=>by have:=h (t+1) (by grind);grind
  grind[usedL]
section
variable {C : HpC} {wr : Bool} {h h' : HpP} {s s' : CyP} {n : Nat}
def UsI (C:HpC) (h:HpP):Prop:=usedL C.g.L h.s.A≤C.g.q
theorem UsI.mv (hC:jk C) (hI:HeI C h) (m:HpMv C wr h h') (hu:UsI C h):UsI C h':=by
 have ok:=hC.g
 unfold UsI at hu⊢
 cases m with
 |free _ _=>omega
 |help h1=>rw [show _=h.s.A from(jfw hI.ok ok h1).1];omega
 |step h1=>rw [show _=h.s.A from step_A ok hI.ok h1];omega
 |begin _=>exact hu
 |publish h3=>
  obtain⟨S0,A0,hi⟩:=hI.i1 (by omega)
  exact Nat.le_trans (jgT fun t ht=>hi.pA (((hi.publish hI.ok h3 C.gn).1 t).1 ht)) hu
 |acts h2 _=>grind[does_A,h2]
 |word _ _ _=>exact hu
 | @read _ t _ _ _ _ _=>
  show usedL C.g.L (shdC C.g C.long h.s (t:Nat)).A≤C.g.q
  grind[shdC]
 |make _ _ hu' _=>exact hu'
theorem UsI.mvs (hC:jk C) (hI:HeI C h) (m:j8 C wr h h') (hw:UsI C h):UsI C h':=
 (m.ind (I:=fun q=>HeI C q∧UsI C q) (fun _ _ m i=>⟨i.1.mv hC m,i.2.mv hC i.1 m⟩) ⟨hI,hw⟩).2
theorem jlx {g:PlG} {x:List Int} (ok:jc g) {y z:jg} {t:Nat} {i v:Int} (hy:g.L[n]?=some y) (hz:g.L[t]?=some z):wAt (Jl x g.slots y i v).2 z.addr=wAt x z.addr:=by
 have f1:=ok.fits hy
 have f2:=ok.fits hz
 unfold Jl
 split
 ·rfl
 ·split
  ·rename_i hf
   have hin:=JQ hf
   dsimp only;refine jaj ?_
   by_cases e:n=t
   ·grind
   ·have:=ok.apart hy hz e;omega
  ·rfl
theorem acts_head {g:PlG} {long:Nat} (ok:jc g) (hc:jr g long s) {a:jaB} (h2:2≤a.w%6) {t:Nat} {y:jg} (hy:g.L[t]?=some y):headP (doesC g long s a).W.x y=headP s.W.x y:=by
 unfold doesC;rw[if_neg (by omega)]
 split
 ·unfold jaU
  cases hs:slotT s.W.T a.n with
  |none=>rfl
  |some sl=>
   obtain⟨n,rfl,hn⟩:=jaT (J8 hc.w hs)
   obtain⟨z,hz⟩:=jY hn
   dsimp only
   split
   ·rfl
   ·split
    ·rfl
    ·show headP (Jl (jM g long (jM g long s _) _).W.x g.slots (ju g (n:Nat)) _ _).2 y=_
     rw[jC hz,jdg (jlx ok hz hy),jb6,jb6]
 ·split
  ·rfl
  ·split
   ·show headP (shdC g long s _).W.x y=_
    rw[Jh]
   ·split
    ·rfl
    ·show headP (shdC g long s _).W.x y=_
     rw[Jh]
def HdI (C:HpC) (h:HpP):Prop:= ∀ t,RchM C.g h.s.W t→ ∃ y,C.g.L[t]?=some y∧headP h.s.W.x y≠none
theorem HdI.same (hC:jk C) (hd:HdI C h) (hr: ∀ t,RchM C.g s'.W t→RchM C.g h.s.W t) (hx: ∀ t,RchM C.g h.s.W t→jJ C.g h.s.W.x s'.W.x t):HdI C {h with s:=s'}:=fun t ht=>by
 obtain⟨y,hy,hh⟩:=hd t (hr t ht)
 exact⟨y,hy,by rw[jcN hC.g (hx t (hr t ht)) hy];omega⟩
theorem jkd (hC:jk C) (hT:s'.W.T=s.W.T) (hN:s'.W.N=s.W.N) (hx: ∀ t,RchM C.g s.W t→jJ C.g s.W.x s'.W.x t) {t:Nat} (h:RchM C.g s'.W t):RchM C.g s.W t:=by
 induction h with
 |root a b=>exact .root (by rw[←hT];exact a) (by grind[jh7])
 |edge a b ih=>exact .edge ih (by rw[←jbA hC.g (hx _ ih)];exact b)
theorem HdI.mv (hC:jk C) (hI:HeI C h) (m:HpMv C wr h h') (hd:HdI C h):HdI C h':=by
 have ok:=hC.g
 cases m with
 |free _ _=>exact hd
 | @help s' h1=>
  have h0:h.s.ph≠0:=fun e=>by grind[jdA,h1]
  obtain⟨S0,A0,hi⟩:=hI.i1 h0
  have hw:=je9 ok hI.ok hi h1
  have hx: ∀ t,RchM C.g h.s.W t→jJ C.g h.s.W.x s'.W.x t:=fun t ht=>hw.w t (hi.cl.rch ht)
  exact hd.same hC (fun t ht=>jkd hC hw.T hw.N hx ht) hx
 | @step s' k u h1=>
  have h0:h.s.ph≠0:=fun e=>by grind[jed,h1]
  obtain⟨S0,A0,hi⟩:=hI.i1 h0
  have hw:=jgh ok hI.ok hi h1
  have hx: ∀ t,RchM C.g h.s.W t→jJ C.g h.s.W.x s'.W.x t:=fun t ht=>hw.w t (hi.cl.rch ht)
  exact hd.same hC (fun t ht=>jkd hC hw.T hw.N hx ht) hx
 |begin _=>exact hd
 |publish h3=>
  intro t ht
  have hcl:Cls C.g {h.s.W with T:=Ji C.gn h.s.W.T} (RchM C.g h.s.W):=jax.recy C.gn
  exact hd t (hcl.rch ht)
 | @acts a h2 _=>
  have hN:=jgt ok hI.ok (jax (W:=h.s.W)) (a:=a) (by omega)
  intro t ht
  have ht':RchM C.g h.s.W t:=hN.cl.rch ht
  obtain⟨y,hy,hh⟩:=hd t ht'
  exact⟨y,hy,fun e=>hh (by rw[←acts_head ok hI.ok h2 hy];omega)⟩
 | @word n k i w _ h1 h2=>
  have hN:=jgf ok hI.ok (jax (W:=h.s.W)) h1 (i:=i) (w:=w)
  have hin:=J8 hI.ok.w h1
  obtain⟨z,hz⟩:=jY (g:=C.g) (i:=n) (by have:=hin.2;omega)
  intro t ht
  obtain⟨y,hy,hh⟩:=hd t (hN.cl.rch ht)
  refine⟨y,hy,fun e=>hh ?_⟩
  have e2:headP (Jk h.s.W.x (ju C.g (n:Nat)) i w).2 y=none:=e
  grind[jC,jdg,jev]
 | @read n t k i h1 h2 _=>
  have hN:=jgk ok hI.ok (jax (W:=h.s.W)) (jf0 h2) (.edge (jax.slot h1) h2)
  intro q hq
  obtain⟨y,hy,hh⟩:=hd q (hN.cl.rch hq)
  refine⟨y,hy,?_⟩
  show headP (shdC C.g C.long h.s (t:Nat)).W.x y≠none
  grind[Jh]
 | @make k hd' h1 _ _ hl=>
  obtain⟨j,ej,hm⟩:=mk_N ok hI.ok (hd:=hd') h1
  have hz:=hI.zr hm.jf
  have hj:=jx hm.jf
  rw[hI.ok.A] at hj
  obtain⟨z,hzL⟩:=jY hj
  intro q hq
  rcases(hm.cl _ jax hz).rch hq with e|e
  ·obtain⟨y,hy,hh⟩:=hd q e
   refine⟨y,hy,?_⟩
   have hqj:q≠j:=fun e2=>by
    grind[jjF]
   rw[jcN ok (hm.w q hqj) hy];omega
  ·subst e;refine⟨z,hzL,?_⟩
   show headP (makeP h.s.W.x (ju C.g (takeP C.g h.s.A k).1) hd').2 z≠none
   rw[ej,jC hzL] at hl⊢;rw[(jeN ok hI.ok.w.x hzL hz hl).2.1]
   grind
theorem HdI.mvs (hC:jk C) (hI:HeI C h) (m:j8 C wr h h') (hw:HdI C h):HdI C h':=
 (m.ind (I:=fun q=>HeI C q∧HdI C q) (fun _ _ m i=>⟨i.1.mv hC m,i.2.mv hC i.1 m⟩) ⟨hI,hw⟩).2
structure PnI (C:HpC) (t:Nat) (y:jg) (w:Int) (h:HpP):Prop where
 yL:C.g.L[t]?=some y
 n:0<(h.s.W.N[t]?).getD 0
 w:wAt h.s.W.x (y.addr+1)=w
theorem PnI.rch {t:Nat} {y:jg} {w:Int} (hI:HeI C h) (hp:PnI C t y w h):RchM C.g h.s.W t:=by
 have ht:=jx hp.yL
 rw[jbX] at ht;refine .root (r:=h.s.W.T.length+t) (by omega) ?_;unfold jP;rw[List.getElem?_eq_none (by omega)];rw[show h.s.W.T.length+t-h.s.W.T.length=t by omega,if_pos hp.n]
 rfl
theorem PnI.same {t:Nat} {y:jg} {w:Int} (hC:jk C) (hp:PnI C t y w h) (hN:0<(s'.W.N[t]?).getD 0) (hx:jJ C.g h.s.W.x s'.W.x t):PnI C t y w {h with s:=s'}:=by
 have hf:=hC.g.fits hp.yL
 exact⟨hp.yL,hN,by rw[hx y hp.yL 1 (by omega)];exact hp.w⟩
theorem PnI.mv {t:Nat} {y:jg} {w:Int} (hC:jk C) (hI:HeI C h) (m:HpMv C false h h') (hp:PnI C t y w h):PnI C t y w h':=by
 have ok:=hC.g
 have hr:=hp.rch hI
 cases m with
 |free _ _=>exact⟨hp.yL,hp.n,hp.w⟩
 | @help s' h1=>
  have h0:h.s.ph≠0:=fun e=>by grind[jdA,h1]
  obtain⟨S0,A0,hi⟩:=hI.i1 h0
  have hw:=je9 ok hI.ok hi h1
  exact hp.same hC (by rw[hw.N];exact hp.n) (hw.w t (hi.cl.rch hr))
 | @step s' k u h1=>
  have h0:h.s.ph≠0:=fun e=>by grind[jed,h1]
  obtain⟨S0,A0,hi⟩:=hI.i1 h0
  have hw:=jgh ok hI.ok hi h1
  exact hp.same hC (by rw[hw.N];exact hp.n) (hw.w t (hi.cl.rch hr))
 |begin _=>exact⟨hp.yL,hp.n,hp.w⟩
 |publish h3=>exact⟨hp.yL,hp.n,hp.w⟩
 | @acts a h2 h3=>
  have hc:=h3 rfl
  have hNx:(0<((doesC C.g C.long h.s a).W.N[t]?).getD 0)∧(doesC C.g C.long h.s a).W.x=h.s.W.x:=by
   unfold doesC;rw[if_neg (by omega),if_neg (by omega)]
   split
   ·exact⟨hp.n,rfl⟩
   ·split
    ·refine⟨?_,?_⟩
     ·show 0<((shdC C.g C.long h.s _).W.N[t]?).getD 0
      rw[Jh];exact hp.n
     grind[shdC]
    ·rw[if_pos (by omega)];exact⟨jhz hp.n,rfl⟩
  exact hp.same hC hNx.1 (by grind[jJ.refl])
 |word hw _ _=>grind
 | @read n q k i h1 h2 _=>
  refine hp.same hC ?_ ?_
  ·show 0<((shdC C.g C.long h.s _).W.N[t]?).getD 0
   rw[Jh];exact hp.n
  ·show jJ _ _ (shdC C.g C.long h.s _).W.x t
   grind[Jh,jJ.refl]
 | @make k hd' h1 _ _ hl=>
  obtain⟨j,ej,hm⟩:=mk_N ok hI.ok (hd:=hd') h1
  exact hp.same hC hp.n (hm.w t fun e=>by
   have:=hI.rch hr
   rw[e,hm.jf] at this;grind)
theorem PnI.mvs {t:Nat} {y:jg} {w:Int} (hC:jk C) (hI:HeI C h) (m:j8 C false h h') (hp:PnI C t y w h):PnI C t y w h':=
 (m.ind (I:=fun q=>HeI C q∧PnI C t y w q) (fun _ _ m i=>⟨i.1.mv hC m,i.2.mv hC i.1 m⟩) ⟨hI,hp⟩).2
end
end Go.Proofs.YtpcgafhgfjlkmaaGreatDoor.Sw
