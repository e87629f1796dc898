/-The walker and the contracts that the law needs,part 30. -/
import Derived.Test.YtebiafomiemgbaaGreatDoorJ28
set_option linter.unusedVariables false set_option linter.unusedSimpArgs false set_option linter.unusedVariables false
set_option linter.unusedSimpArgs false
namespace Go.Proofs.YtebiafomiemgbaaGreatDoor.Sw
set_option maxHeartbeats 8000000
open Go.Proofs.YtebiafomiemgbaaGreatDoor renaming lo → qL, hi → qH
open Go.RowKit
set_option maxRecDepth 10000
structure PcM where
 b:Nat
 tr:Nat
 ast:Nat
 p:PaP
def paceH (q:PcM):jb:=[(q.b,cells [.int .i64 (q.tr:Nat), .int .i64 (q.ast:Nat), .int .i64 (q.p.since:Nat), .int .i64 (q.p.total:Nat), .int .i64 (q.p.debt:Nat), .int .i64 (q.p.cyc:Nat), .bool q.p.act] 193)]
theorem paceH_app {q:PcM} {F:jb}:paceH q++F=(q.b,cells [.int .i64 (q.tr:Nat), .int .i64 (q.ast:Nat), .int .i64 (q.p.since:Nat), .int .i64 (q.p.total:Nat), .int .i64 (q.p.debt:Nat), .int .i64 (q.p.cyc:Nat), .bool q.p.act] 193)::F:=rfl
structure PcOk (q:PcM):Prop where
 tr:1≤q.tr∧q.tr≤1048576
 ast:q.ast≤1024
 p:PaB q.p
section
variable {w0 : World} {F : jb} {q : PcM}
theorem pcnone_K (ok:PcOk q):Call Tryz.prog w0 122 [.pointer (some ⟨q.b,0,none⟩)] (paceH q++F) (fun r H'=>r= .bool false∧H'=paceH q++F):=by
 have h1: ¬((q.tr:Nat):Int)=0:=by have:=ok.tr;omega
 refine Call.enter1 (n:=12) (by rfl) Tryz.func122 rfl rfl rfl ?_;simp only[paceH_app];refine zfx ?_;refine zC ?_;refine zcA ?_;exact zej
theorem pcSince_K (ok:PcOk q):Call Tryz.prog w0 87 [.pointer (some ⟨q.b,0,none⟩)] (paceH q++F) (fun r H'=>r= .int .i64 (q.p.since:Nat)∧H'=paceH q++F):=by
 refine Call.enter1 (n:=9) (by rfl) Tryz.func87 rfl rfl rfl ?_;refine zaf ?_;refine zkR ?_;simp only[paceH_app];refine zas ?_;refine zaa ?_;refine zm ?_;exact zej
theorem jmI (ok:PcOk q):Call Tryz.prog w0 88 [.pointer (some ⟨q.b,0,none⟩)] (paceH q++F) (fun r H'=>r= .int .i64 (q.p.cyc:Nat)∧H'=paceH q++F):=by
 refine Call.enter1 (n:=9) (by rfl) Tryz.func88 rfl rfl rfl ?_;refine zaf ?_;refine zkR ?_;simp only[paceH_app];refine zas ?_;refine zdi ?_;refine zm ?_;exact zej
theorem pcDebt_K (ok:PcOk q):Call Tryz.prog w0 261 [.pointer (some ⟨q.b,0,none⟩)] (paceH q++F) (fun r H'=>r= .int .i64 (q.p.debt:Nat)∧H'=paceH q++F):=by
 refine Call.enter1 (n:=9) (by rfl) Tryz.func261 rfl rfl rfl ?_;refine zaf ?_;refine zkR ?_;simp only[paceH_app];refine zas ?_;refine zdg ?_;refine zm ?_;exact zej
theorem jmJ (ok:PcOk q):Call Tryz.prog w0 89 [.pointer (some ⟨q.b,0,none⟩)] (paceH q++F) (fun r H'=>r= .bool q.p.act∧H'=paceH q++F):=by
 refine Call.enter1 (n:=12) (by rfl) Tryz.func89 rfl rfl rfl ?_;refine zbL ?_;refine zkR ?_;simp only[paceH_app];refine zag ?_;refine zaY ?_;refine zhT ?_;refine zl ?_;refine zw ?_;refine zdh ?_;exact zej
theorem pcPay_K (ok:PcOk q):Call Tryz.prog w0 263 [.pointer (some ⟨q.b,0,none⟩), .int .i64 1] (paceH q++F) (fun r H'=>(∃ z,r= .int .i64 z)∧H'=paceH {q with p:={q.p with debt:=q.p.debt-1}}++F):=by
 have hs:=fun A=>satSub_K (w0:=w0) (H:=A) ok.p.d
 refine Call.enter2 (n:=22) (by rfl) Tryz.func263 rfl rfl rfl ?_;refine zaf ?_;refine zkR ?_;simp only[paceH_app];refine zK ?_;refine zb6 ?_;refine zdg ?_;refine zj ?_;refine KL.v rfl (Val.max rfl rfl) ?_;refine zu fun T hT=>?_;rw[show(if (1:Int)<0 then(0:Int) else 1)=1 from rfl] at*;refine(CallV.fn (hs _)).mono ?_;rintro _ _ ⟨rfl,rfl⟩;refine ze ?_;clear hT T;refine zS ?_;refine zds ?_;refine zcO ?_;refine zF ?_;refine zdg ?_;refine KL.v rfl (Val.min rfl rfl) ?_;refine zm ?_;exact KE.fin je rfl jd (by first|exact ja|(simp only[paceH_app];exact ja)) ⟨⟨_,rfl⟩,rfl⟩
def jgd (a:Bool) (p:PaP):PaP:=⟨0,p.total,0,p.cyc,a⟩
theorem jlh {a:Bool} {f:FuncId} {cap:Array Value} {p':PaP} (ok:PcOk q) (ha:q.p.act≠a) (hf:CallV Tryz.prog w0 (.func (.func f) #[] cap) [] (paceH {q with p:=jgd a q.p}++F) (fun r H'=>r= .tuple #[]∧H'=paceH {q with p:=p'}++F)):
  Call Tryz.prog w0 323 [.pointer (some ⟨q.b,0,none⟩), .bool a, .func (.func f) #[] cap] (paceH q++F) (fun r H'=>r= .int .i64 0∧H'=paceH {q with p:=p'}++F):=by
 have hab:(q.p.act==a)=false:=by grind
 unfold jgd at hf;refine Call.enter3 (n:=29) (by rfl) Tryz.func323 rfl rfl rfl ?_;refine zL ?_;refine zdl ?_;refine zn ?_;refine zkR ?_;simp only[paceH_app];refine zcw ?_;refine zF ?_;refine zbn ?_;refine zj ?_;refine KL.v rfl (Val.eqlB rfl rfl rfl) ?_;refine zU ?_;refine K.condN rfl jO ?_;refine K.skip ?_;refine zaw ?_;refine zV ?_;refine zB ?_;refine zb6 ?_;refine zhT ?_;refine zaq ?_;refine zS ?_;refine zaz ?_;refine zaq ?_;refine zS ?_;refine zds ?_;refine zcO ?_;refine zz fun T hT=>?_;refine(CallV.part hf (by simp only[paceH_app];exact ja)).mono ?_;rintro _ _ ⟨rfl,rfl⟩;refine ze ?_;clear hT T;refine zal ?_;refine zm ?_;exact zej
theorem begin1_K:Call Tryz.prog w0 326 [] F (fun r H'=>r= .tuple #[]∧H'=F):=by
 refine Call.enter0 (n:=0) (by rfl) Tryz.func326 rfl rfl rfl ?_;refine K.skip ?_;exact zog
theorem end1_K {b1:Nat} (ok:PcOk q):Call Tryz.prog w0 324 [.pointer (some ⟨b1,0,none⟩)] (paceH q++((b1,cells [.pointer (some ⟨q.b,0,none⟩)] 118)::F)) (fun r H'=>r= .tuple #[]∧H'=paceH {q with p:={q.p with cyc:=satA q.p.cyc 1}}++((b1,cells [.pointer (some ⟨q.b,0,none⟩)] 118)::F)):=by
 have hs:=fun A=>jgS (w0:=w0) (H:=A) (b:=1) ok.p.c (by decide)
 refine Call.enter1 (n:=9) (by rfl) Tryz.func324 rfl rfl rfl ?_;rw[paceH_app]
 skip
 refine zJ ?_
 (first|refine K.seq (K.drawn _ [(0,1),(1,0),(2,0),(3,0),(4,0),(5,2),(6,0),(7,0),(8,4)] (by kernel_rfl) (by kernel_rfl) (by kernel_rfl) (by kernel_rfl) (by kernel_rfl) (by kernel_rfl) Part.all ?_)|refine K.seq (K.seq (K.drawn _ [(0,1),(1,0),(2,0),(3,0),(4,0),(5,2),(6,0),(7,0),(8,4)] (by kernel_rfl) (by kernel_rfl) (by kernel_rfl) (by kernel_rfl) (by kernel_rfl) (by kernel_rfl) Part.all ?_))|refine K.drawn _ [(0,1),(1,0),(2,0),(3,0),(4,0),(5,2),(6,0),(7,0),(8,4)] (by rfl) (by rfl) (by kernel_rfl) (by rfl) (by rfl) (by rfl) Part.all ?_)
 refine zcb ?_;refine zaC ?_;refine zbm ?_;refine zsq ?_;refine zaC ?_;refine zk fun T hT=>?_;refine(CallV.fn (hs _)).mono ?_;rintro _ _ ⟨rfl,rfl⟩;refine zi ?_;clear hT T;refine zbm ?_;refine zsq ?_;refine zsh ?_;refine zam ?_
 skip
 exact KE.finN je rfl jd (by first|exact ja|(rw [paceH_app];exact ja)) ⟨rfl,rfl⟩
theorem pcBegin_K (ok:PcOk q) (ha:q.p.act=false):Call Tryz.prog w0 295 [.pointer (some ⟨q.b,0,none⟩)] (paceH q++F) (fun r H'=>r= .int .i64 0∧H'=paceH {q with p:=ja7 true q.p}++F):=by
 have ht:=jlh (w0:=w0) (F:=F) (q:=q) (a:=true) (f:=326) (cap:= #[]) (p':=ja7 true q.p) ok (by grind) ((CallV.fn begin1_K).mono (by
  grind[ja7,jgd]))
 refine Call.enter1 (n:=5) (by rfl) Tryz.func295 rfl rfl rfl ?_;refine zbL ?_;refine jp ht ?_;refine zm ?_;exact zej
theorem pcEnd_K (ok:PcOk q) (ha:q.p.act=true):Call Tryz.prog w0 293 [.pointer (some ⟨q.b,0,none⟩)] (paceH q++F) (fun r H'=>r= .int .i64 0∧H'=paceH {q with p:=ja7 false q.p}++F):=by
 have ht:=fun b1=>jlh (w0:=w0) (F:=(b1,cells [.pointer (some ⟨q.b,0,none⟩)] 118)::F) (q:=q) (a:=false) (f:=324) (cap:= #[.pointer (some ⟨b1,0,none⟩)]) (p':=ja7 false q.p) ok (by grind) ((CallV.clo (cap:=[.pointer (some ⟨b1,0,none⟩)]) (end1_K (F:=F) (q:={q with p:=jgd false q.p}) ⟨ok.tr,ok.ast,⟨Nat.zero_le _,ok.p.t,Nat.zero_le _,ok.p.c⟩⟩)).mono (by
  grind[ja7,jgd]))
 refine Call.enter1 (n:=6) (by rfl) Tryz.func293 rfl rfl rfl ?_;refine zbN ?_;intro b1;refine zw ?_;refine za5 ?_;refine zp ?_;refine jn (ht _) ja ?_;refine zm ?_;exact zej
theorem pcAsk_K {n:Nat} (ok:PcOk q) (hn:1≤n∧n≤64):Call Tryz.prog w0 260 [.pointer (some ⟨q.b,0,none⟩), .int .i64 (n:Nat)] (paceH q++F)
  (fun r H'=>r= .tuple [.int .u8 ((Jz q.tr q.ast n q.p).1:Nat), .int .i64 0].toArray∧H'=paceH {q with p:=(Jz q.tr q.ast n q.p).2}++F):=by
 have hM:M62=4611686018427387904:=rfl
 have hast:=ok.ast
 have h1:=fun A=>jgS (w0:=w0) (H:=A) (b:=n) ok.p.s (by omega)
 have h2:=fun A=>jgS (w0:=w0) (H:=A) (b:=n) ok.p.t (by omega)
 have hna:n*q.ast≤M62:=Nat.le_trans (Nat.mul_le_mul hn.2 hast) (by decide)
 have h3:=fun A=>satMul_K (w0:=w0) (H:=A) (a:=n) (b:=q.ast) (by omega) (by omega)
 have h4:=fun A=>jgS (w0:=w0) (H:=A) (b:=n*q.ast) ok.p.d hna
 have hn1: ¬((n:Nat):Int)<1:=by omega
 have hno:=fun A=>pcnone_K (w0:=w0) (F:=A) ok
 unfold Jz;dsimp only
 obtain⟨qb,tr,ast,⟨si,to,de,cy,ac⟩⟩:=q
 dsimp only at*
 obtain⟨s1,hs1⟩: ∃ s1,s1=satA si n:=⟨_,rfl⟩
 obtain⟨t1,ht1⟩: ∃ t1,t1=satA to n:=⟨_,rfl⟩
 obtain⟨d1,hd1⟩: ∃ d1,d1=satA de (n*ast):=⟨_,rfl⟩
 obtain⟨na,hna'⟩: ∃ na,na=n*ast:=⟨_,rfl⟩
 rw[←hna'] at h3 h4 hd1;rw[←hs1] at h1⊢;rw[←ht1] at h2⊢;rw[←hd1] at h4;rw[←hna',←hd1]
 cases ac with
 |true=>
  by_cases hlt:s1<tr
  ·have hlt':((s1:Nat):Int)<((tr:Nat):Int):=by omega
   simp only[if_pos hlt,if_true,if_false];refine zox ?_;refine zL ?_;refine zd8 ?_;refine zhW ?_;simp only[paceH_app];refine zck ?_;refine zhh ?_;refine zU ?_;refine zJ ?_;refine zoy ?_;refine zo ?_;refine zhn ?_;refine zeZ ?_;refine zaC ?_;refine zgr ?_;refine zhX ?_;refine zaC ?_;refine zo ?_;refine zdu fun T hT=>?_;refine(CallV.fn (h1 _)).mono ?_;rintro _ _ ⟨rfl,rfl⟩;refine zi ?_;clear hT T;refine zdu fun T hT=>?_;refine(CallV.fn (h2 _)).mono ?_;rintro _ _ ⟨rfl,rfl⟩;refine zi ?_;clear hT T;refine zbm ?_;refine zeZ ?_;refine zbf ?_;refine zbm ?_;refine zhX ?_;refine zbf ?_;refine zdj ?_;refine zad ?_;refine zS ?_;refine zbn ?_;refine zaR ?_;refine zJ ?_;refine zsr ?_;refine zgr ?_;refine zoz ?_;refine zaC ?_;refine zgr ?_;refine zgt ?_;refine zdu fun T hT=>?_;refine(CallV.fn (h3 _)).mono ?_;rintro _ _ ⟨rfl,rfl⟩;refine zi ?_;clear hT T;refine zdu fun T hT=>?_;refine(CallV.fn (h4 _)).mono ?_;rintro _ _ ⟨rfl,rfl⟩;refine zi ?_;clear hT T;refine zbm ?_;refine zoz ?_;refine zbf ?_;refine zam ?_;refine zks ?_;refine zt ?_;refine zgS ?_;refine zkE ?_;refine zgA ?_;refine zcT ?_;refine zlL ?_;refine zcV ?_;refine zcW ?_;exact zej
  ·have hlt': ¬((s1:Nat):Int)<((tr:Nat):Int):=by omega
   simp only[if_neg hlt,if_true,if_false];refine zox ?_;refine zL ?_;refine zd8 ?_;refine zhW ?_;simp only[paceH_app];refine zck ?_;refine zhh ?_;refine zU ?_;refine zJ ?_;refine zoy ?_;refine zo ?_;refine zhn ?_;refine zeZ ?_;refine zaC ?_;refine zgr ?_;refine zhX ?_;refine zaC ?_;refine zo ?_;refine zdu fun T hT=>?_;refine(CallV.fn (h1 _)).mono ?_;rintro _ _ ⟨rfl,rfl⟩;refine zi ?_;clear hT T;refine zdu fun T hT=>?_;refine(CallV.fn (h2 _)).mono ?_;rintro _ _ ⟨rfl,rfl⟩;refine zi ?_;clear hT T;refine zbm ?_;refine zeZ ?_;refine zbf ?_;refine zbm ?_;refine zhX ?_;refine zbf ?_;refine zdj ?_;refine zad ?_;refine zS ?_;refine zbn ?_;refine zaR ?_;refine zJ ?_;refine zsr ?_;refine zgr ?_;refine zoz ?_;refine zaC ?_;refine zgr ?_;refine zgt ?_;refine zdu fun T hT=>?_;refine(CallV.fn (h3 _)).mono ?_;rintro _ _ ⟨rfl,rfl⟩;refine zi ?_;clear hT T;refine zdu fun T hT=>?_;refine(CallV.fn (h4 _)).mono ?_;rintro _ _ ⟨rfl,rfl⟩;refine zi ?_;clear hT T;refine zbm ?_;refine zoz ?_;refine zbf ?_;refine zam ?_;refine zks ?_;refine zt ?_;refine zgS ?_;refine zkE ?_;refine zgA ?_;refine zcT ?_;refine zn6 ?_;refine zam ?_;refine zgP ?_;refine zF ?_;refine zaz ?_;refine zgC ?_;refine zab ?_;exact zej
 |false=>
  by_cases hlt:s1<tr
  ·have hlt':((s1:Nat):Int)<((tr:Nat):Int):=by omega
   simp only[if_pos hlt,Bool.false_eq_true,if_false];refine zox ?_;refine zL ?_;refine zd8 ?_;refine zhW ?_;simp only[paceH_app];refine zck ?_;refine zhh ?_;refine zU ?_;refine zJ ?_;refine zoy ?_;refine zo ?_;refine zhn ?_;refine zeZ ?_;refine zaC ?_;refine zgr ?_;refine zhX ?_;refine zaC ?_;refine zo ?_;refine zdu fun T hT=>?_;refine(CallV.fn (h1 _)).mono ?_;rintro _ _ ⟨rfl,rfl⟩;refine zi ?_;clear hT T;refine zdu fun T hT=>?_;refine(CallV.fn (h2 _)).mono ?_;rintro _ _ ⟨rfl,rfl⟩;refine zi ?_;clear hT T;refine zbm ?_;refine zeZ ?_;refine zbf ?_;refine zbm ?_;refine zhX ?_;refine zbf ?_;refine zdj ?_;refine zad ?_;refine zS ?_;refine zbn ?_;refine zqy ?_;refine zkE ?_;refine zgA ?_;refine zcT ?_;refine zlL ?_;refine zcV ?_;refine zcW ?_;exact zej
  ·have hlt': ¬((s1:Nat):Int)<((tr:Nat):Int):=by omega
   simp only[if_neg hlt,Bool.false_eq_true,if_false];refine zox ?_;refine zL ?_;refine zd8 ?_;refine zhW ?_;simp only[paceH_app];refine zck ?_;refine zhh ?_;refine zU ?_;refine zJ ?_;refine zoy ?_;refine zo ?_;refine zhn ?_;refine zeZ ?_;refine zaC ?_;refine zgr ?_;refine zhX ?_;refine zaC ?_;refine zo ?_;refine zdu fun T hT=>?_;refine(CallV.fn (h1 _)).mono ?_;rintro _ _ ⟨rfl,rfl⟩;refine zi ?_;clear hT T;refine zdu fun T hT=>?_;refine(CallV.fn (h2 _)).mono ?_;rintro _ _ ⟨rfl,rfl⟩;refine zi ?_;clear hT T;refine zbm ?_;refine zeZ ?_;refine zbf ?_;refine zbm ?_;refine zhX ?_;refine zbf ?_;refine zdj ?_;refine zad ?_;refine zS ?_;refine zbn ?_;refine zqy ?_;refine zkE ?_;refine zgA ?_;refine zcT ?_;refine zn6 ?_;refine zam ?_;refine zgP ?_;refine zF ?_;refine zaz ?_;refine zgC ?_;refine zab ?_;exact zej
end
open Go.RowKit
set_option maxRecDepth 10000
theorem jmi {c r w:Nat} (hc:c<256) (hr:r<65536) (hw:w<65536):putN c r w%2^16=0∧putN c r w/2^16%2^16=w∧putN c r w/2^32%2^16=r∧putN c r w/2^48%2^8=c∧putN c r w/2^56%2^8=199:=by
 have e1:(2:Nat)^16=65536:=by decide
 have e2:(2:Nat)^32=65536*65536:=by decide
 have e3:(2:Nat)^48=65536*65536*65536:=by decide
 have e4:(2:Nat)^56=65536*65536*65536*256:=by decide
 have e5:(2:Nat)^8=256:=by decide
 have hp:putN c r w=65536*(w+65536*(r+65536*(c+256*199))):=by
  unfold putN;rw [e1,e2,e3,e4];omega
 rw[e4,e3,e2,e1,e5,hp];simp only[←Nat.div_div_eq_div_mul];refine⟨Nat.mul_mod_right ..,?_,?_,?_,?_⟩
 ·rw[Nat.mul_div_cancel_left _ (by decide)];omega
 ·rw[Nat.mul_div_cancel_left _ (by decide),show(w+65536*(r+65536*(c+256*199)))/65536=r+65536*(c+256*199) by omega];omega
 ·rw[Nat.mul_div_cancel_left _ (by decide),show(w+65536*(r+65536*(c+256*199)))/65536=r+65536*(c+256*199) by omega,show(r+65536*(c+256*199))/65536=c+256*199 by omega];omega
 ·rw[Nat.mul_div_cancel_left _ (by decide),show(w+65536*(r+65536*(c+256*199)))/65536=r+65536*(c+256*199) by omega,show(r+65536*(c+256*199))/65536=c+256*199 by omega];omega
theorem get_putW {hd:HdP} (hm:JT hd=true):getH (putW hd).toNat=some hd:=by
 obtain⟨a1,a2,a3,a4,a5,a6⟩:=jfA hm
 obtain⟨c,r,w⟩:=hd
 dsimp only at a1 a2 a3 a4 a5 a6
 obtain⟨c,rfl⟩: ∃ n:Nat,c=n:=⟨c.toNat,by omega⟩
 obtain⟨r,rfl⟩: ∃ n:Nat,r=n:=⟨r.toNat,by omega⟩
 obtain⟨w,rfl⟩: ∃ n:Nat,w=n:=⟨w.toNat,by omega⟩
 obtain⟨d1,d2,d3,d4,d5⟩:=jmi (c:=c) (r:=r) (w:=w) (by omega) (by omega) (by omega)
 unfold putW getH;dsimp only;simp only[Int.toNat_natCast];rw[d1,d2,d3,d4,d5];rw[if_pos ⟨rfl,rfl,hm⟩]
theorem getH_0:getH 0=none:=by
 rfl
section
variable {g : PlG} {x : List Int} {n : Nat} {y : jq}
theorem jkA (ok:jg g) (hy:g.L[n]?=some y) (hz:jb9 g x n):headP x y=none:=by
 have f1:=ok.fits hy
 have h0:=hz y hy 0 (by omega)
 grind[headP,getH_0]
theorem make_new (ok:jg g) (hx:x.length=g.words) (hy:g.L[n]?=some y) (hz:jb9 g x n) {hd:HdP} (hl:jaz y hd=true):
  (makeP x y hd).1=0∧headP (makeP x y hd).2 y=some hd∧ ∀ j,1≤j→j<y.size→wAt (makeP x y hd).2 (y.addr+j)=0:=by
 have f1:=ok.fits hy
 grind[J6,makeP,headP,jkA,jd0,h1,h2,jgN,get_putW,jdI,jaH,jbC]
end
section
variable {C : HpC} {wr : Bool} {h h' : HpP} {s s' : CyP} {n : Nat}
theorem help_RW (hC:HpCk C) (hI:HeI C h) (hs:j8 C.g C.long h.s=some s'):jaZ C.g h.s s':=by
 have h0:h.s.ph≠0:=fun e=>by grind[jfu]
 obtain⟨S0,A0,hi⟩:=hI.i1 h0
 have hw:=jgo hC.g hI.ok hi hs
 have hx: ∀ t,RchM C.g h.s.W t→jR C.g h.s.W.x s'.W.x t:=fun t ht=>hw.w t (hi.cl.rch ht)
 refine⟨fun t ht=>?_,hx,fun k=>by rw[hw.T],fun i n=>by rw[hw.T],hw.N⟩
 induction ht with
 |root a b=>exact .root (by rw[hw.T];exact a) (by rw[ji6 hw.T hw.N];omega)
 |edge a b ih=>exact .edge ih (by rw[jcF hC.g (hx _ a)];exact b)
theorem pays_RW (hC:HpCk C): ∀ (d:Nat) (h:HpP),HeI C h→d≤h.p.debt→jaZ C.g h.s (jaR C d h).s
 |0,h,_,_=> .refl
 |d+1,h,hI,hd=>by
  unfold jaR
  cases hh:j8 C.g C.long h.s with
  |none=>exact .refl
  |some s'=>
   have m1:Jh C true h ⟨s',{h.p with debt:=d},h.wk+1⟩:=(HpMv.one (.help hh)).tail (.free (h:={h with s:=s'}) rfl fun hb=>⟨hb.s,hb.t,by have:=hb.d;grind,hb.c⟩)
   exact(help_RW hC hI hh).trans (pays_RW hC d _ (hI.mvs hC m1) (Nat.le_refl _))
theorem due_RW (hC:HpCk C) (hI:HeI C h) {due:Nat} (h2:due=2→h.p.act=true):jaZ C.g h.s (je1 C due h).s:=by
 unfold je1
 split
 ·exact jjn
 ·split
  ·rename_i e
   have hp:=hI.pa
   grind[h2,end_W]
  ·exact .refl
theorem paced_RW (hC:HpCk C) (hI:HeI C h):jaZ C.g h.s (jdf C n h).s:=by
 have m1:Jh C true h {h with p:=(Jz C.tr C.ast n h.p).2}:=HpMv.one (.free rfl fun hb=>hb.ask _ _ _)
 have m2:=m1.trans (jgV (Jz C.tr C.ast n h.p).2.debt {h with p:=(Jz C.tr C.ast n h.p).2} (Nat.le_refl _))
 have ha:(jaR C (Jz C.tr C.ast n h.p).2.debt {h with p:=(Jz C.tr C.ast n h.p).2}).p.act=h.p.act:=(jf0 _ _).trans rfl
 have r1:=pays_RW hC (Jz C.tr C.ast n h.p).2.debt {h with p:=(Jz C.tr C.ast n h.p).2} (hI.mvs hC m1) (Nat.le_refl _)
 exact jaZ.trans (s:=h.s) r1 (due_RW hC (hI.mvs hC m2) fun e=>ha.trans (jfx.2 e))
def costK (C:HpC):Nat:=18*C.g.words+C.caps+C.g.slots+1
structure WkI (C:HpC) (h:HpP):Prop where
 c:h.s.ph≠0→h.s.st+Jo C.g h.s≤costK C
theorem jgQ {g:PlG} {long:Nat} (ok:jg g) (hi:jw g long s) (t:Int):(shdC g long s t).st+Jo g (shdC g long s t)≤s.st+Jo g s:=by
 unfold shdC
 split
 ·have h3:=jhZ ok hi.m t
  grind[mes_m,h3]
 omega
theorem jj7 {g:PlG} {long:Nat} (ok:jg g) (hi:jw g long s) (t:Int):(Jd g long s t).st+Jo g (Jd g long s t)≤s.st+Jo g s:=by
 unfold Jd
 split
 ·exact jgQ ok hi t
 omega
theorem je8 {g:PlG} {W':MwP} (h:W'.T.length=s.W.T.length):({s with W:=W'}:CyP).st+Jo g {s with W:=W'}=s.st+Jo g s:=by rw[mes_W h]
theorem acts_sum' {g:PlG} {long:Nat} (ok:jg g) (h:jw g long s) {a:ja0} (ha:2≤a.w%6):(doesC g long s a).st+Jo g (doesC g long s a)≤s.st+Jo g s:=by
 unfold doesC;rw[if_neg (by omega)]
 split
 ·unfold jbj
  split
  ·omega
  ·split
   ·omega
   ·split
    ·omega
    ·unfold jcD;refine Nat.le_trans (Nat.le_of_eq (je8 rfl)) ?_;exact Nat.le_trans (jj7 ok (shdO_cy ok h _) _) (jj7 ok h _)
 ·split
  ·omega
  ·split
   ·exact Nat.le_trans (Nat.le_of_eq (je8 jfd)) (jgQ ok h _)
   ·split
    ·grind[je8]
    ·exact Nat.le_trans (Nat.le_of_eq (je8 rfl)) (jgQ ok h _)
theorem WkI.mv (hC:HpCk C) (hI:HeI C h) (m:HpMv C wr h h') (hw:WkI C h):WkI C h':=by
 have ok:=hC.g
 cases m with
 |free h1 h2=>exact⟨hw.c⟩
 |help h1=>
  have h0:h.s.ph≠0:=fun e=>by grind[jfu,h1]
  exact⟨fun _=>Nat.le_trans (jlv ok hI.ok h1) (hw.c h0)⟩
 |step h1=>
  have h0:h.s.ph≠0:=fun e=>by grind[jfq,h1]
  exact⟨fun _=>Nat.le_trans (jkZ ok hI.ok h1) (hw.c h0)⟩
 |begin h0=>
  refine⟨fun _=>?_⟩
  have h1:=jkK ok (s:=h.s)
  rw[hI.n] at h1;exact h1
 |publish h3=>exact⟨fun e=>absurd rfl e⟩
 | @acts a h2 _=>exact⟨fun e=>Nat.le_trans (acts_sum' ok hI.ok h2) (hw.c (by grind[jf6]))⟩
 |word _ _ _=>exact⟨fun e=>Nat.le_trans (Nat.le_of_eq (je8 rfl)) (hw.c e)⟩
 | @read n t k i h1 h2 _=>
  refine⟨fun e=>Nat.le_trans (Nat.le_of_eq (je8 (s:=shdC C.g C.long h.s (t:Nat)) jcG)) (Nat.le_trans (jgQ ok hI.ok _) (hw.c fun e0=>e ?_))⟩
  show(shdC _ _ _ _).ph=0
  grind[shdC]
 | @make k hd h1 _ _ _=>
  refine⟨fun e=>?_⟩
  have h3:=jjU hI.ok.m (takeP C.g h.s.A k).1.toNat
  have h5:=mes_m (s:=h.s) h3
  refine Nat.le_trans (Nat.add_le_add_left (Nat.le_trans (Nat.le_of_eq ?_) h5) h.s.st) (hw.c e);exact mes_W (g:=C.g) (s:={h.s with m:=JP h.s.m (takeP C.g h.s.A k).1.toNat}) (W':={h.s.W with T:=jH h.s.W.T (takeP C.g h.s.A k).1,x:=(makeP h.s.W.x (jA C.g (takeP C.g h.s.A k).1) hd).2}) jcG
theorem WkI.mvs (hC:HpCk C) (hI:HeI C h) (m:Jh C wr h h') (hw:WkI C h):WkI C h':=
 (m.ind (I:=fun q=>HeI C q∧WkI C q) (fun _ _ m i=>⟨i.1.mv hC m,i.2.mv hC i.1 m⟩) ⟨hI,hw⟩).2
def WkB (C:HpC) (h:HpP):Prop:=h.wk+Jo C.g h.s≤costK C∨(h.s.ph=0∧h.wk≤2*costK C)
theorem WkB.le (h1:WkB C h):h.wk≤2*costK C:=by
 rcases h1 with h1|h1
 ·omega
 omega
theorem WkB.zero (hw:WkI C h) (h0:h.wk=0):WkB C h:=by
 by_cases e:h.s.ph=0
 ·right;omega
 ·left;have:=hw.c e;omega
end
open Go.RowKit
set_option maxRecDepth 10000
structure HpD where
 C:HpC
 c:Cfg
 oc:Own
 ot:Own
 R0:List (List Int)
 b:Nat
 yb:Nat
 qb:Nat
 mb:Nat
 Bb:Nat
 Tb:Nat
 ab:Nat
 Nb:Nat
 pb:Nat
structure HpDok (D:HpD):Prop where
 C:HpCk D.C
 c:jz D.c=true
 g:D.C.g=gOf D.c (D.C.tn:Nat)
 t: ∃ q,D.c.tn[D.C.tn]?=some q∧q.quota=(D.C.g.q:Nat)
 oc:oOk iE D.c.cl D.oc
 ot:oOk tnE D.c.tn D.ot
 nw:D.c.workers=(D.C.nw:Nat)
def hpL (D:HpD) (h:HpP):List Value:=[oV D.oc D.c.cl.length, .int .i64 D.c.page,oV D.ot D.c.tn.length, .int .i64 D.c.workers, .int .i64 D.c.grey, .int .i64 D.c.gens, .int .i64 (D.C.tn:Nat), .pointer (some ⟨D.yb,0,none⟩), .pointer (some ⟨D.qb,0,none⟩), .int .i64 (h.wk:Nat)]
def hpH (D:HpD) (y:CyM) (h:HpP):jb:=(D.b,cells (hpL D h) 120)::(paceH ⟨D.qb,D.C.tr,D.C.ast,h.p⟩++(oH iE 3 D.c.cl D.oc++(oH tnE 55 D.c.tn D.ot++cycH y)))
theorem hpH_app {D:HpD} {y:CyM} {h:HpP} {F:jb}:hpH D y h++F=(D.b,cells [oV D.oc D.c.cl.length, .int .i64 D.c.page,oV D.ot D.c.tn.length, .int .i64 D.c.workers, .int .i64 D.c.grey, .int .i64 D.c.gens, .int .i64 (D.C.tn:Nat), .pointer (some ⟨D.yb,0,none⟩), .pointer (some ⟨D.qb,0,none⟩), .int .i64 (h.wk:Nat)] 120)::(paceH ⟨D.qb,D.C.tr,D.C.ast,h.p⟩++(oH iE 3 D.c.cl D.oc++(oH tnE 55 D.c.tn D.ot++(cycH y++F)))):=by
 simp[hpH,hpL]
structure HpR (D:HpD) (nf nk:Nat) (y:CyM) (h:HpP):Prop where
 p:CpR D.C.g D.C.long y h.s
 b:y.b=D.yb
 m:y.B.m.b=D.mb
 B:y.B.b=D.Bb
 T:y.T.b=D.Tb
 a:y.a.b=D.ab
 N:y.N.b=D.Nb
 pl:y.B.p.b=D.pb
 nw:y.nw=D.C.nw
 g:y.T.gens=D.C.gn
 f:y.k.c.f≤nf
 t:y.B.t=D.C.tn
 R:y.B.m.R=D.R0.set D.C.tn h.s.W.x
 pb:PaB h.p
 w:h.wk≤nk
def HpQ (D:HpD) (nf nk:Nat) (h':HpP) (F H':jb):Prop:= ∃ y',HpR D nf nk y' h'∧H'=hpH D y' h'++F
theorem J0.mb' {y y':CyM} {x:List Int} {n:Nat} (h:J0 y y' x n):y'.B.m.b=y.B.m.b:=by rw[h.B];rfl
section
variable {w0 : World} {D : HpD} {nf nk n : Nat} {y y' : CyM} {h : HpP} {s' : CyP} {F A H' : jb} {f : FuncId} {args : List Value} {P : Value → Prop}
theorem HpR.to (h1:HpR D nf nk y h) (hp:CpR D.C.g D.C.long y' s') (ht:J0 y y' s'.W.x n):HpR D (nf+n) nk y' {h with s:=s'}:=
 ⟨hp,ht.b.trans h1.b,ht.mb'.trans h1.m,by rw[ht.B];exact h1.B,ht.T.trans h1.T,ht.a.trans h1.a,ht.N.trans h1.N,by rw[ht.B];exact h1.pl,ht.nw.trans h1.nw,ht.G.trans h1.g,by rw[ht.f];have:=h1.f;omega,by rw[ht.B];exact h1.t,by
  rw[ht.B]
  show y.B.m.R.set y.B.t s'.W.x=_
  rw[h1.t,h1.R,List.set_set],h1.pb,h1.w⟩
theorem HpR.lift (h1:HpR D nf nk y h) (hc: ∀ A,Call Tryz.prog w0 f args (cycH y++A) (fun r H'=>P r∧CyQ D.C.g D.C.long y n A s' H')):Call Tryz.prog w0 f args (hpH D y h++F) (fun r H'=>P r∧HpQ D (nf+n) nk {h with s:=s'} F H'):=by
 refine zss ?_;rintro r _ ⟨hP,y',h2,ht,rfl⟩;exact⟨_,⟨hP,y',h1.to h2 ht,rfl⟩,by unfold hpH;simp only[List.cons_append,List.append_assoc];exact ja⟩
theorem HpR.lift0 {R:Value→Prop} (h1:HpR D nf nk y h) (hc: ∀ A,Call Tryz.prog w0 f args (cycH y++A) (fun r H'=>R r∧H'=cycH y++A)):Call Tryz.prog w0 f args (hpH D y h++F) (fun r H'=>R r∧H'=hpH D y h++F):=by
 refine zss ?_;rintro r _ ⟨hP,rfl⟩;exact⟨_,⟨hP,rfl⟩,by unfold hpH;simp only[List.cons_append,List.append_assoc];exact ja⟩
theorem HpR.pace {p':PaP} (h1:HpR D nf nk y h) (hb:PaB p') (hc: ∀ A,Call Tryz.prog w0 f args (paceH ⟨D.qb,D.C.tr,D.C.ast,h.p⟩++A) (fun r H'=>P r∧H'=paceH ⟨D.qb,D.C.tr,D.C.ast,p'⟩++A)):Call Tryz.prog w0 f args (hpH D y h++F) (fun r H'=>P r∧HpQ D nf nk {h with p:=p'} F H'):=by
 refine zst ?_;rintro r _ ⟨hP,rfl⟩;refine⟨_,⟨hP,y,⟨h1.p,h1.b,h1.m,h1.B,h1.T,h1.a,h1.N,h1.pl,h1.nw,h1.g,h1.f,h1.t,h1.R,hb,h1.w⟩,rfl⟩,?_⟩;unfold hpH hpL;simp only[List.cons_append,List.append_assoc];exact ja
theorem HpR.pace0 {R:Value→Prop} (h1:HpR D nf nk y h) (hc: ∀ A,Call Tryz.prog w0 f args (paceH ⟨D.qb,D.C.tr,D.C.ast,h.p⟩++A) (fun r H'=>R r∧H'=paceH ⟨D.qb,D.C.tr,D.C.ast,h.p⟩++A)):Call Tryz.prog w0 f args (hpH D y h++F) (fun r H'=>R r∧H'=hpH D y h++F):=by
 refine zst ?_;rintro r _ ⟨hP,rfl⟩;exact⟨_,⟨hP,rfl⟩,by unfold hpH;simp only[List.cons_append,List.append_assoc];exact ja⟩
theorem HpR.pc (hD:HpDok D) (h1:HpR D nf nk y h):PcOk ⟨D.qb,D.C.tr,D.C.ast,h.p⟩:=⟨hD.C.tr,hD.C.ast,h1.pb⟩
theorem HpR.mono {nf' nk':Nat} (h1:HpR D nf nk y h) (hf:nf≤nf') (hk:nk≤nk'):HpR D nf' nk' y h:=⟨h1.p,h1.b,h1.m,h1.B,h1.T,h1.a,h1.N,h1.pl,h1.nw,h1.g,Nat.le_trans h1.f hf,h1.t,h1.R,h1.pb,Nat.le_trans h1.w hk⟩
theorem HpR.wk {n nk':Nat} (h1:HpR D nf nk y h) (hk:n≤nk'):HpR D nf nk' y {h with wk:=n}:=⟨h1.p,h1.b,h1.m,h1.B,h1.T,h1.a,h1.N,h1.pl,h1.nw,h1.g,h1.f,h1.t,h1.R,h1.pb,hk⟩
theorem hyPhase_K (h1:HpR D nf nk y h):Call Tryz.prog w0 146 [.pointer (some ⟨D.yb,0,none⟩)] (hpH D y h++F) (fun r H'=>r= .int .u8 (h.s.ph:Nat)∧H'=hpH D y h++F):=
 h1.lift0 fun A=>by have:=jgL (w0:=w0) (F:=A) (y:=y);rw [h1.b,h1.p.ph] at this;exact this
theorem jgI (h1:HpR D nf nk y h):Call Tryz.prog w0 161 [.pointer (some ⟨D.yb,0,none⟩)] (hpH D y h++F) (fun r H'=>r= .pointer (some ⟨D.Tb,0,none⟩)∧H'=hpH D y h++F):=
 h1.lift0 fun A=>by have:=cyTable_K (w0:=w0) (F:=A) (y:=y);rw [h1.b,h1.T] at this;exact this
theorem jif (h1:HpR D nf nk y h):Call Tryz.prog w0 29 [.pointer (some ⟨D.yb,0,none⟩)] (hpH D y h++F) (fun r H'=>r= .pointer (some ⟨D.ab,0,none⟩)∧H'=hpH D y h++F):=
 h1.lift0 fun A=>by have:=jkI (w0:=w0) (F:=A) (y:=y);rw [h1.b,h1.a] at this;exact this
theorem jfi (h1:HpR D nf nk y h):Call Tryz.prog w0 196 [.pointer (some ⟨D.yb,0,none⟩)] (hpH D y h++F) (fun r H'=>r= .pointer (some ⟨D.Bb,0,none⟩)∧H'=hpH D y h++F):=
 h1.lift0 fun A=>by have:=cyBody_K (w0:=w0) (F:=A) (y:=y);rw [h1.b,h1.B] at this;exact this
theorem jeE (h1:HpR D nf nk y h):Call Tryz.prog w0 120 [.pointer (some ⟨D.yb,0,none⟩)] (hpH D y h++F) (fun r H'=>r= .pointer (some ⟨D.pb,0,none⟩)∧H'=hpH D y h++F):=
 h1.lift0 fun A=>by have:=cyPlan_K (w0:=w0) (F:=A) (y:=y);rw [h1.b,h1.pl] at this;exact this
theorem jiL (h1:HpR D nf nk y h):Call Tryz.prog w0 207 [.pointer (some ⟨D.yb,0,none⟩)] (hpH D y h++F) (fun r H'=>r= .pointer (some ⟨D.Nb,0,none⟩)∧H'=hpH D y h++F):=
 h1.lift0 fun A=>by have:=cyPins_K (w0:=w0) (F:=A) (y:=y);rw [h1.b,h1.N] at this;exact this
end
end Go.Proofs.YtebiafomiemgbaaGreatDoor.Sw
