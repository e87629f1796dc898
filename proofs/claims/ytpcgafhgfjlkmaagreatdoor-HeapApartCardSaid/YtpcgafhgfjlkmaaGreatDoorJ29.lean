/-The walker and the contracts that the law needs,part 29. -/
import Derived.Test.YtpcgafhgfjlkmaaGreatDoorD1
import Derived.ArgAppend
import Derived.ChangeMaps5
import Derived.Deep.Fields
import Derived.Deep.LoopGhost
import Derived.Deep.OwnRows
import Derived.Deep.Quiet
import Derived.Deep.Slices
import Derived.IntWalk
import Derived.Laws.Cells
import Derived.Laws.CopyOwn
import Derived.Laws.Externs
import Derived.Laws.FloatArith
import Derived.Laws.IdiomStrings
import Derived.Laws.NewFold
import Derived.Laws.StructEq
import Derived.Lib.BitFns
import Derived.Lib.Hide
import Derived.Lib.SmallJoins
import Derived.Lib.TrailingZeros
import Derived.Maps.RangeRun
import Derived.OrdersIn
import Derived.ProofKit
import Derived.RangeFuncBound
import Derived.RangeFuncCalls
import Derived.RangeFuncLeaves
import Derived.RangeFuncNested
import Derived.RecoverIn
import Derived.Shelf.Bits.Mul64
import Derived.Shelf.Slices.Turned
import Derived.Shelf.Spec.TrailingZeros
import Derived.Shelf.Strconv.Itoa0
import Derived.SizedLaws
import Derived.Sort.BigQuietIn
import Derived.StillTailTactics
import Derived.Test.YtpcgafhgfjlkmaaGreatDoorProg
import Derived.WalkKit
import Derived.Test.YtpcgafhgfjlkmaaGreatDoorJ26
set_option linter.unusedVariables false set_option linter.unusedSimpArgs false namespace Go.Proofs.YtpcgafhgfjlkmaaGreatDoor.Sw
set_option maxHeartbeats 8000000
open Go.Proofs.YtpcgafhgfjlkmaaGreatDoor renaming lo → qL, hi → qH
open Go.RowKit
set_option linter.unusedVariables false
set_option linter.unusedSimpArgs false
set_option maxRecDepth 10000
theorem clip_eq (n:Nat):(if (4611686018427387904:Int)<(if ((n:Nat):Int)<0 then 0 else((n:Nat):Int)) then 4611686018427387904 else(if ((n:Nat):Int)<0 then 0 else((n:Nat):Int)))=((min n M62:Nat):Int):=by
 have hM:M62=4611686018427387904:=rfl
 rw[if_neg (show ¬((n:Nat):Int)<0 by omega),hM]
 split<;>omega
theorem clip_K {w0:World} {H:jb} {n:Nat}:Call Tryz.prog w0 304 [.int .i64 (n:Nat)] H (fun r H'=>r= .int .i64 (min n M62:Nat)∧H'=H):=by
 refine Call.enter1 (n:=6) (by kernel_rfl) Tryz.func304 rfl rfl rfl ?_;refine zf2 ?_;refine KL.v rfl (Val.max rfl rfl) ?_;refine KL.v rfl (Val.min rfl rfl) ?_;refine zf ?_;exact KE.fin je rfl jd ja ⟨by rw[clip_eq];rfl,rfl⟩
theorem jfI {w0:World} {H:jb} {a b:Nat} (ha:a≤M62) (hb:b≤M62):Call Tryz.prog w0 283 [.int .i64 (a:Nat), .int .i64 (b:Nat)] H (fun r H'=>r= .int .i64 (satA a b:Nat)∧H'=H):=by
 have hM:M62=4611686018427387904:=rfl
 by_cases h1:a+b<9223372036854775808
 ·have e1:((a:Nat):Int)+((b:Nat):Int)=((a+b:Nat):Int):=by omega
  have h2: ¬((a:Nat):Int)<0:=by omega
  have h3: ¬((a+b:Nat):Int)<0:=by omega
  have hc:=fun A=>clip_K (w0:=w0) (H:=A) (n:=a+b)
  have hs:min (a+b) M62=satA a b:=rfl
  rw[hs] at hc
  by_cases ha0:((a:Nat):Int)>0
  ·by_cases hb0:((b:Nat):Int)>0
   ·refine zjh ?_;refine zdx ?_;refine zbT ?_;refine zaW ?_;rw[e1];refine zjZ ?_;refine zbs ?_;refine zA ?_;refine zbs ?_;refine zb1 ?_;refine zT ?_;refine zw ?_;refine zbk ?_;refine zaO ?_;refine zay ?_;refine zo ?_;refine jq (hc _) ?_;exact zt
   ·refine zjh ?_;refine zdx ?_;refine zbT ?_;refine zaW ?_;rw[e1];refine zjZ ?_;refine zbs ?_;refine zA ?_;refine zcq ?_;refine zw ?_;refine zaO ?_;refine zbk ?_;refine zaO ?_;refine zay ?_;refine zo ?_;refine jq (hc _) ?_;exact zt
  ·refine zjh ?_;refine zdx ?_;refine zbT ?_;refine zaW ?_;rw[e1];refine zjZ ?_;refine zcq ?_;refine zaO ?_;refine zaO ?_;refine zbk ?_;refine zaO ?_;refine zay ?_;refine zo ?_;refine jq (hc _) ?_;exact zt
 ·have e1:a=4611686018427387904:=by omega
  have e2:b=4611686018427387904:=by omega
  subst e1 e2
  have hs:satA 4611686018427387904 4611686018427387904=4611686018427387904:=by decide
  rw[hs];refine zjh ?_;refine zdx ?_;refine KL.v rfl (Val.addW rfl rfl) ?_;refine zaW ?_;rw[show IntKind.i64.wrap (((4611686018427387904:Nat):Int)+((4611686018427387904:Nat):Int))= -9223372036854775808 by decide];refine zjZ ?_;refine zbs ?_;refine zA ?_;refine zbs ?_;refine zb1 ?_;refine zjU ?_;refine zk ?_;refine zac ?_;refine zd0 ?_;exact zZ
theorem satSub_K {w0:World} {H:jb} {a:Nat} (ha:a≤M62):Call Tryz.prog w0 285 [.int .i64 (a:Nat), .int .i64 1] H (fun r H'=>r= .int .i64 (a-1:Nat)∧H'=H):=by
 have hM:M62=4611686018427387904:=rfl
 by_cases h1:((a:Nat):Int)≤1
 ·have hs:((a-1:Nat):Int)=0:=by omega
  rw[hs];refine Call.enter2 (n:=18) (by kernel_rfl) Tryz.func285 rfl rfl rfl ?_;refine zdx ?_;refine zdO ?_;refine zk ?_;refine zdQ ?_;refine zm ?_;refine zam ?_;refine zk ?_;refine zac ?_;refine zf ?_;refine zbS ?_;exact zZ
 ·have e1:((a:Nat):Int)-1=((a-1:Nat):Int):=by omega
  have h3: ¬((a-1:Nat):Int)<0:=by omega
  have hc:=fun A=>clip_K (w0:=w0) (H:=A) (n:=a-1)
  rw[show min (a-1) M62=a-1 by omega] at hc;refine Call.enter2 (n:=18) (by kernel_rfl) Tryz.func285 rfl rfl rfl ?_;refine zdx ?_;refine zdO ?_;refine zk ?_;refine zdQ ?_;refine zm ?_;refine zcr ?_;refine zbk ?_;refine zk ?_;refine zj6 ?_;rw[e1];refine zy ?_;refine zo ?_;refine jq (hc _) ?_;refine zf ?_;refine zbS ?_;exact zZ
theorem jjk {w0:World} {H:jb} {n:Nat} (hn:n<9223372036854775808):Call Tryz.prog w0 315 [.int .i64 (n:Nat)] H (fun r H'=>r= .tuple [.int .u64 (n:Nat), .bool false].toArray∧H'=H):=by
 have h3: ¬((n:Nat):Int)<0:=by omega
 refine Call.enter1 (n:=11) (by kernel_rfl) Tryz.func315 rfl rfl rfl ?_;refine zae ?_;refine z6 ?_;refine zT ?_;refine zaG ?_;refine zeo ?_;exact zb8
theorem mul1_K {w0:World} {H:jb} {n:Nat}:Call Tryz.prog w0 306 [.int .u64 0, .int .u64 (n:Nat)] H (fun r H'=>r= .int .u64 (n:Nat)∧H'=H):=by
 refine Call.enter2 (n:=8) (by kernel_rfl) Tryz.func306 rfl rfl rfl ?_;refine zaa ?_;refine zcq ?_;refine zaG ?_;exact zt
theorem mul64_K {w0:World} {H:jb} (x y:Nat) (hx:x<18446744073709551616) (hy:y<18446744073709551616):
  Call Tryz.prog w0 260 [.int .u64 x, .int .u64 y] H (fun r H'=>r= .tuple #[.int .u64 ((x*y/18446744073709551616:Nat):Int), .int .u64 ((x*y%18446744073709551616:Nat):Int)]∧H'=H):=by
 refine⟨by kernel_rfl,fun w hw=>?_⟩;refine(Tryz.bits_Mul64 x y hx hy w).mono ?_;rintro e w' ⟨he,rfl⟩;exact⟨_,_,he,hw,rfl,rfl⟩
theorem jlk {w0:World} {H:jb} {a b:Nat} (ha:a≤1048576) (hb:b≤1048576):Call Tryz.prog w0 305 [.int .i64 (a:Nat), .int .i64 (b:Nat), .func (.func 306) #[] #[]] H (fun r H'=>r= .int .i64 (a*b:Nat)∧H'=H):=by
 have hab:a*b≤1048576*1048576:=Nat.mul_le_mul ha hb
 have s1:=fun A=>jjk (w0:=w0) (H:=A) (n:=a) (by omega)
 have s2:=fun A=>jjk (w0:=w0) (H:=A) (n:=b) (by omega)
 have hm:=fun A=>mul64_K (w0:=w0) (H:=A) a b (by omega) (by omega)
 obtain⟨p,hp⟩: ∃ p,p=a*b:=⟨_,rfl⟩
 rw[←hp] at hab hm⊢;rw[show p/18446744073709551616=0 by omega,show p%18446744073709551616=p by omega] at hm;refine Call.enter3 (n:=41) (by kernel_rfl) Tryz.func305 rfl rfl rfl ?_;refine zbB ?_;refine jq (s1 _) ?_;refine zQ ?_;refine zo ?_;refine jq (s2 _) ?_
 by_cases h1:((a:Nat):Int)=0
 ·have:p=0:=by rw[hp,show a=0 by omega,Nat.zero_mul]
  subst this;refine zez ?_;refine zX ?_;refine zm ?_;refine zhU ?_;refine zA ?_;refine zJ ?_;refine zC ?_;refine zds ?_;exact zdv
 ·by_cases h2:((b:Nat):Int)=0
  ·have:p=0:=by rw[hp,show b=0 by omega,Nat.mul_zero]
   subst this;refine zez ?_;refine zX ?_;refine zm ?_;refine zhU ?_;refine zA ?_;refine zbz ?_;refine zA ?_;refine zJ ?_;refine zC ?_;exact zdv
  ·(refine KL.v rfl (Val.move rfl) ?_)
   refine zfY ?_;refine zk ?_;refine zX ?_;refine zm ?_;refine zhU ?_;refine zA ?_;refine zbz ?_;refine zA ?_;refine zbz ?_;refine zz ?_;refine zm ?_;refine zo ?_;refine jq (hm _) ?_;refine zfY ?_;refine zn ?_;refine jq (mul1_K (n:=p)) ?_
   have e5:(if (4611686018427387904:Int)<((p:Nat):Int) then 4611686018427387904 else((p:Nat):Int))=((p:Nat):Int):=if_neg (by omega)
   refine KL.v rfl (Val.min rfl rfl) ?_;refine zeo ?_;refine zf ?_;exact KE.fin je rfl jd ja ⟨by simp only[e5];rfl,rfl⟩
theorem satMul_K {w0:World} {H:jb} {a b:Nat} (ha:a≤1048576) (hb:b≤1048576):Call Tryz.prog w0 284 [.int .i64 (a:Nat), .int .i64 (b:Nat)] H (fun r H'=>r= .int .i64 (a*b:Nat)∧H'=H):=by
 refine Call.enter2 (n:=8) (by kernel_rfl) Tryz.func284 rfl rfl rfl ?_;refine zck ?_;refine jq (jlk ha hb) ?_;exact zt
open Go.RowKit
set_option maxRecDepth 10000
structure PcM where
 b:Nat
 tr:Nat
 ast:Nat
 p:PaP
def paceH (q:PcM):jb:=[(q.b,cells [.int .i64 (q.tr:Nat), .int .i64 (q.ast:Nat), .int .i64 (q.p.since:Nat), .int .i64 (q.p.total:Nat), .int .i64 (q.p.debt:Nat), .int .i64 (q.p.cyc:Nat), .bool q.p.act] 161)]
theorem paceH_app {q:PcM} {F:jb}:paceH q++F=(q.b,cells [.int .i64 (q.tr:Nat), .int .i64 (q.ast:Nat), .int .i64 (q.p.since:Nat), .int .i64 (q.p.total:Nat), .int .i64 (q.p.debt:Nat), .int .i64 (q.p.cyc:Nat), .bool q.p.act] 161)::F:=rfl
structure jb1 (q:PcM):Prop where
 tr:1≤q.tr∧q.tr≤1048576
 ast:q.ast≤1024
 p:PaB q.p
section
variable {w0 : World} {F : jb} {q : PcM}
theorem pcnone_K (ok:jb1 q):Call Tryz.prog w0 91 [.pointer (some ⟨q.b,0,none⟩)] (paceH q++F) (fun r H'=>r= .bool false∧H'=paceH q++F):=by
 have h1: ¬((q.tr:Nat):Int)=0:=by have:=ok.tr;omega
 refine Call.enter1 (n:=12) (by kernel_rfl) Tryz.func91 rfl rfl rfl ?_;simp only[paceH_app];refine zcp ?_;refine zaq ?_;refine zbz ?_;refine zf ?_;exact zc9
theorem pcSince_K (ok:jb1 q):Call Tryz.prog w0 51 [.pointer (some ⟨q.b,0,none⟩)] (paceH q++F) (fun r H'=>r= .int .i64 (q.p.since:Nat)∧H'=paceH q++F):=by
 refine Call.enter1 (n:=9) (by kernel_rfl) Tryz.func51 rfl rfl rfl ?_;refine zY ?_;refine zhf ?_;simp only[paceH_app];refine zR ?_;refine zI ?_;refine zf ?_;exact zc9
theorem jl2 (ok:jb1 q):Call Tryz.prog w0 52 [.pointer (some ⟨q.b,0,none⟩)] (paceH q++F) (fun r H'=>r= .int .i64 (q.p.cyc:Nat)∧H'=paceH q++F):=by
 refine Call.enter1 (n:=9) (by kernel_rfl) Tryz.func52 rfl rfl rfl ?_;refine zY ?_;refine zhf ?_;simp only[paceH_app];refine zR ?_;refine zca ?_;refine zcQ ?_;exact zc9
theorem pcDebt_K (ok:jb1 q):Call Tryz.prog w0 244 [.pointer (some ⟨q.b,0,none⟩)] (paceH q++F) (fun r H'=>r= .int .i64 (q.p.debt:Nat)∧H'=paceH q++F):=by
 refine Call.enter1 (n:=9) (by kernel_rfl) Tryz.func244 rfl rfl rfl ?_;refine zY ?_;refine zhf ?_;simp only[paceH_app];refine zR ?_;refine zah ?_;refine zcQ ?_;exact zc9
theorem jl3 (ok:jb1 q):Call Tryz.prog w0 53 [.pointer (some ⟨q.b,0,none⟩)] (paceH q++F) (fun r H'=>r= .bool q.p.act∧H'=paceH q++F):=by
 refine Call.enter1 (n:=12) (by kernel_rfl) Tryz.func53 rfl rfl rfl ?_;refine zbB ?_;refine zhf ?_;simp only[paceH_app];refine zU ?_;refine zan ?_;refine zbI ?_;refine zi ?_;refine zp ?_;refine zcE ?_;exact zc9
theorem pcPay_K (ok:jb1 q):Call Tryz.prog w0 246 [.pointer (some ⟨q.b,0,none⟩), .int .i64 1] (paceH q++F) (fun r H'=>(∃ z,r= .int .i64 z)∧H'=paceH {q with p:={q.p with debt:=q.p.debt-1}}++F):=by
 have hs:=fun A=>satSub_K (w0:=w0) (H:=A) ok.p.d
 refine Call.enter2 (n:=22) (by kernel_rfl) Tryz.func246 rfl rfl rfl ?_;refine zY ?_;refine zhf ?_;simp only[paceH_app];refine zj1 ?_;refine zah ?_;refine zdz ?_;refine KL.v rfl (Val.max rfl rfl) ?_;refine zq fun T hT=>?_;rw[show(if (1:Int)<0 then(0:Int) else 1)=1 from rfl] at*;refine(CallV.fn (hs _)).mono ?_;rintro _ _ ⟨rfl,rfl⟩;refine zd ?_;clear hT T;refine zaQ ?_;refine zah ?_;refine zaw ?_;refine zK ?_;refine zah ?_;refine zp ?_;refine KL.v rfl (Val.min rfl rfl) ?_;refine zf ?_;exact KE.fin je rfl jd (by first|exact ja|(simp only[paceH_app];exact ja)) ⟨⟨_,rfl⟩,rfl⟩
def jeW (a:Bool) (p:PaP):PaP:=⟨0,p.total,0,p.cyc,a⟩
theorem jkh {a:Bool} {f:FuncId} {cap:Array Value} {p':PaP} (ok:jb1 q) (ha:q.p.act≠a) (hf:CallV Tryz.prog w0 (.func (.func f) #[] cap) [] (paceH {q with p:=jeW a q.p}++F) (fun r H'=>r= .tuple #[]∧H'=paceH {q with p:=p'}++F)):
  Call Tryz.prog w0 296 [.pointer (some ⟨q.b,0,none⟩), .bool a, .func (.func f) #[] cap] (paceH q++F) (fun r H'=>r= .int .i64 0∧H'=paceH {q with p:=p'}++F):=by
 have hab:(q.p.act==a)=false:=by revert ha;cases q.p.act<;>cases a<;>simp
 unfold jeW at hf;refine Call.enter3 (n:=29) (by kernel_rfl) Tryz.func296 rfl rfl rfl ?_;refine zae ?_;refine zaP ?_;refine zhf ?_;simp only[paceH_app];refine zau ?_;refine zcD ?_;refine zdz ?_;refine KL.v rfl (Val.eqlB rfl rfl rfl) ?_;refine zaW ?_;refine K.condN rfl jL ?_;refine K.skip ?_;refine zeU ?_;refine zm ?_;refine zcy ?_;refine zbI ?_;refine zfK ?_;refine zbn ?_;refine zfK ?_;refine zah ?_;refine zaw ?_;refine zx fun T hT=>?_;refine(CallV.part hf (by simp only[paceH_app];exact ja)).mono ?_;rintro _ _ ⟨rfl,rfl⟩;refine zd ?_;clear hT T;refine zW ?_;refine zf ?_;exact zc9
theorem begin1_K:Call Tryz.prog w0 299 [] F (fun r H'=>r= .tuple #[]∧H'=F):=by
 refine Call.enter0 (n:=0) (by kernel_rfl) Tryz.func299 rfl rfl rfl ?_;refine K.skip ?_;exact zi4
theorem end1_K {b1:Nat} (ok:jb1 q):Call Tryz.prog w0 297 [.pointer (some ⟨b1,0,none⟩)] (paceH q++((b1,cells [.pointer (some ⟨q.b,0,none⟩)] 82)::F)) (fun r H'=>r= .tuple #[]∧H'=paceH {q with p:={q.p with cyc:=satA q.p.cyc 1}}++((b1,cells [.pointer (some ⟨q.b,0,none⟩)] 82)::F)):=by
 have hs:=fun A=>jfI (w0:=w0) (H:=A) (b:=1) ok.p.c (by decide)
 refine Call.enter1 (n:=9) (by kernel_rfl) Tryz.func297 rfl rfl rfl ?_;rw[paceH_app]
 skip
 refine zar ?_
 (first|refine K.seq (K.drawn _ [(0,1),(1,0),(2,0),(3,0),(4,0),(5,2),(6,0),(7,0),(8,4)] (by kernel_rfl) (by kernel_rfl) (by kernel_rfl) (by kernel_rfl) (by kernel_rfl) (by kernel_rfl) Part.all ?_)|refine K.seq (K.seq (K.drawn _ [(0,1),(1,0),(2,0),(3,0),(4,0),(5,2),(6,0),(7,0),(8,4)] (by kernel_rfl) (by kernel_rfl) (by kernel_rfl) (by kernel_rfl) (by kernel_rfl) (by kernel_rfl) Part.all ?_))|refine K.drawn _ [(0,1),(1,0),(2,0),(3,0),(4,0),(5,2),(6,0),(7,0),(8,4)] (by kernel_rfl) (by kernel_rfl) (by kernel_rfl) (by kernel_rfl) (by kernel_rfl) (by kernel_rfl) Part.all ?_)
 refine zc6 ?_;refine zS ?_;refine zbd ?_;refine zlO ?_;refine zS ?_;refine zl fun T hT=>?_;refine(CallV.fn (hs _)).mono ?_;rintro _ _ ⟨rfl,rfl⟩;refine zg ?_;clear hT T;refine zbd ?_;refine zlO ?_;refine zjg ?_;refine zD ?_
 skip
 exact KE.finN je rfl jd (by first|exact ja|(rw [paceH_app];exact ja)) ⟨rfl,rfl⟩
theorem pcBegin_K (ok:jb1 q) (ha:q.p.act=false):Call Tryz.prog w0 273 [.pointer (some ⟨q.b,0,none⟩)] (paceH q++F) (fun r H'=>r= .int .i64 0∧H'=paceH {q with p:=jaH true q.p}++F):=by
 have ht:=jkh (w0:=w0) (F:=F) (q:=q) (a:=true) (f:=299) (cap:= #[]) (p':=jaH true q.p) ok (by rw[ha];decide) ((CallV.fn begin1_K).mono (by
  rintro _ _ ⟨rfl,rfl⟩;refine⟨rfl,?_⟩;unfold jaH jeW;rw[if_neg (by rw[ha];decide)]
  rfl))
 refine Call.enter1 (n:=5) (by kernel_rfl) Tryz.func273 rfl rfl rfl ?_;refine zbB ?_;refine jq ht ?_;refine zf ?_;exact zc9
theorem pcEnd_K (ok:jb1 q) (ha:q.p.act=true):Call Tryz.prog w0 271 [.pointer (some ⟨q.b,0,none⟩)] (paceH q++F) (fun r H'=>r= .int .i64 0∧H'=paceH {q with p:=jaH false q.p}++F):=by
 have ht:=fun b1=>jkh (w0:=w0) (F:=(b1,cells [.pointer (some ⟨q.b,0,none⟩)] 82)::F) (q:=q) (a:=false) (f:=297) (cap:= #[.pointer (some ⟨b1,0,none⟩)]) (p':=jaH false q.p) ok (by rw[ha];decide) ((CallV.clo (cap:=[.pointer (some ⟨b1,0,none⟩)]) (end1_K (F:=F) (q:={q with p:=jeW false q.p}) ⟨ok.tr,ok.ast,⟨Nat.zero_le _,ok.p.t,Nat.zero_le _,ok.p.c⟩⟩)).mono (by
  rintro _ _ ⟨rfl,rfl⟩;refine⟨rfl,?_⟩;unfold jaH jeW;rw[if_neg (by rw[ha];decide)]
  rfl))
 refine Call.enter1 (n:=6) (by kernel_rfl) Tryz.func271 rfl rfl rfl ?_;refine zcN ?_;intro b1;refine zp ?_;refine zbF ?_;refine zn ?_;refine ji (ht _) ja ?_;refine zf ?_;exact zc9
theorem pcAsk_K {n:Nat} (ok:jb1 q) (hn:1≤n∧n≤64):Call Tryz.prog w0 243 [.pointer (some ⟨q.b,0,none⟩), .int .i64 (n:Nat)] (paceH q++F)
  (fun r H'=>r= .tuple [.int .u8 ((Ja q.tr q.ast n q.p).1:Nat), .int .i64 0].toArray∧H'=paceH {q with p:=(Ja q.tr q.ast n q.p).2}++F):=by
 have hM:M62=4611686018427387904:=rfl
 have hast:=ok.ast
 have h1:=fun A=>jfI (w0:=w0) (H:=A) (b:=n) ok.p.s (by omega)
 have h2:=fun A=>jfI (w0:=w0) (H:=A) (b:=n) ok.p.t (by omega)
 have hna:n*q.ast≤M62:=Nat.le_trans (Nat.mul_le_mul hn.2 hast) (by decide)
 have h3:=fun A=>satMul_K (w0:=w0) (H:=A) (a:=n) (b:=q.ast) (by omega) (by omega)
 have h4:=fun A=>jfI (w0:=w0) (H:=A) (b:=n*q.ast) ok.p.d hna
 have hn1: ¬((n:Nat):Int)<1:=by omega
 have hno:=fun A=>pcnone_K (w0:=w0) (F:=A) ok
 unfold Ja;dsimp only
 obtain⟨qb,tr,ast,⟨si,to,de,cy,ac⟩⟩:=q
 dsimp only at*
 obtain⟨s1,hs1⟩: ∃ s1,s1=satA si n:=⟨_,rfl⟩
 obtain⟨t1,ht1⟩: ∃ t1,t1=satA to n:=⟨_,rfl⟩
 obtain⟨d1,hd1⟩: ∃ d1,d1=satA de (n*ast):=⟨_,rfl⟩
 obtain⟨na,hna'⟩: ∃ na,na=n*ast:=⟨_,rfl⟩
 rw[←hna'] at h3 h4 hd1;rw[←hs1] at h1⊢;rw[←ht1] at h2⊢;rw[←hd1] at h4;rw[←hna',←hd1]
 cases ac with
 |true=>
  by_cases hlt:s1<tr
  ·have hlt':((s1:Nat):Int)<((tr:Nat):Int):=by omega
   simp only[if_pos hlt,if_true,Bool.false_eq_true,if_false];refine zji ?_;refine zeY ?_;refine zaP ?_;refine zgB ?_;simp only[paceH_app];refine zbk ?_;refine zay ?_;refine zbe ?_;refine zcW ?_;refine zjj ?_;refine zj ?_;refine zH ?_;refine zfv ?_;refine zdU ?_;refine zS ?_;refine zeP ?_;refine zew ?_;refine zeJ ?_;refine zcu fun T hT=>?_;refine(CallV.fn (h1 _)).mono ?_;rintro _ _ ⟨rfl,rfl⟩;refine zg ?_;clear hT T;refine zcu fun T hT=>?_;refine(CallV.fn (h2 _)).mono ?_;rintro _ _ ⟨rfl,rfl⟩;refine zg ?_;clear hT T;refine zbd ?_;refine zdU ?_;refine zbv ?_;refine zbd ?_;refine zew ?_;refine zbv ?_;refine zeS ?_;refine zX ?_;refine zcD ?_;refine zp ?_;refine zcI ?_;refine zar ?_;refine zlP ?_;refine zeP ?_;refine zjk ?_;refine zS ?_;refine zeP ?_;refine zhe ?_;refine zS ?_;refine zcu fun T hT=>?_;refine(CallV.fn (h3 _)).mono ?_;rintro _ _ ⟨rfl,rfl⟩;refine zg ?_;clear hT T;refine zcu fun T hT=>?_;refine(CallV.fn (h4 _)).mono ?_;rintro _ _ ⟨rfl,rfl⟩;refine zg ?_;clear hT T;refine zbd ?_;refine zjk ?_;refine zbv ?_;refine zD ?_;refine zek ?_;refine zk ?_;refine ze9 ?_;refine zeu ?_;refine zeV ?_;refine zb4 ?_;refine zhL ?_;refine zD ?_;refine zcs ?_;refine zk ?_;refine zas ?_;exact zc9
  ·have hlt': ¬((s1:Nat):Int)<((tr:Nat):Int):=by omega
   simp only[if_neg hlt,if_true,Bool.false_eq_true,if_false];refine zji ?_;refine zeY ?_;refine zaP ?_;refine zgB ?_;simp only[paceH_app];refine zbk ?_;refine zay ?_;refine zbe ?_;refine zcW ?_;refine zjj ?_;refine zj ?_;refine zH ?_;refine zfv ?_;refine zdU ?_;refine zS ?_;refine zeP ?_;refine zew ?_;refine zeJ ?_;refine zcu fun T hT=>?_;refine(CallV.fn (h1 _)).mono ?_;rintro _ _ ⟨rfl,rfl⟩;refine zg ?_;clear hT T;refine zcu fun T hT=>?_;refine(CallV.fn (h2 _)).mono ?_;rintro _ _ ⟨rfl,rfl⟩;refine zg ?_;clear hT T;refine zbd ?_;refine zdU ?_;refine zbv ?_;refine zbd ?_;refine zew ?_;refine zbv ?_;refine zeS ?_;refine zX ?_;refine zcD ?_;refine zp ?_;refine zcI ?_;refine zar ?_;refine zlP ?_;refine zeP ?_;refine zjk ?_;refine zS ?_;refine zeP ?_;refine zhe ?_;refine zS ?_;refine zcu fun T hT=>?_;refine(CallV.fn (h3 _)).mono ?_;rintro _ _ ⟨rfl,rfl⟩;refine zg ?_;clear hT T;refine zcu fun T hT=>?_;refine(CallV.fn (h4 _)).mono ?_;rintro _ _ ⟨rfl,rfl⟩;refine zg ?_;clear hT T;refine zbd ?_;refine zjk ?_;refine zbv ?_;refine zD ?_;refine zek ?_;refine zk ?_;refine ze9 ?_;refine zeu ?_;refine zeV ?_;refine zb4 ?_;refine ziR ?_;refine zD ?_;refine zdS ?_;refine zK ?_;refine zbn ?_;refine zaw ?_;refine zbl ?_;exact zc9
 |false=>
  by_cases hlt:s1<tr
  ·have hlt':((s1:Nat):Int)<((tr:Nat):Int):=by omega
   simp only[if_pos hlt,if_true,Bool.false_eq_true,if_false];refine zji ?_;refine zeY ?_;refine zaP ?_;refine zgB ?_;simp only[paceH_app];refine zbk ?_;refine zay ?_;refine zbe ?_;refine zcW ?_;refine zjj ?_;refine zj ?_;refine zH ?_;refine zfv ?_;refine zdU ?_;refine zS ?_;refine zeP ?_;refine zew ?_;refine zeJ ?_;refine zcu fun T hT=>?_;refine(CallV.fn (h1 _)).mono ?_;rintro _ _ ⟨rfl,rfl⟩;refine zg ?_;clear hT T;refine zcu fun T hT=>?_;refine(CallV.fn (h2 _)).mono ?_;rintro _ _ ⟨rfl,rfl⟩;refine zg ?_;clear hT T;refine zbd ?_;refine zdU ?_;refine zbv ?_;refine zbd ?_;refine zew ?_;refine zbv ?_;refine zeS ?_;refine zX ?_;refine zcD ?_;refine zp ?_;refine zkw ?_;refine zeu ?_;refine zeV ?_;refine zb4 ?_;refine zhL ?_;refine zD ?_;refine zcs ?_;refine zk ?_;refine zas ?_;exact zc9
  ·have hlt': ¬((s1:Nat):Int)<((tr:Nat):Int):=by omega
   simp only[if_neg hlt,if_true,Bool.false_eq_true,if_false];refine zji ?_;refine zeY ?_;refine zaP ?_;refine zgB ?_;simp only[paceH_app];refine zbk ?_;refine zay ?_;refine zbe ?_;refine zcW ?_;refine zjj ?_;refine zj ?_;refine zH ?_;refine zfv ?_;refine zdU ?_;refine zS ?_;refine zeP ?_;refine zew ?_;refine zeJ ?_;refine zcu fun T hT=>?_;refine(CallV.fn (h1 _)).mono ?_;rintro _ _ ⟨rfl,rfl⟩;refine zg ?_;clear hT T;refine zcu fun T hT=>?_;refine(CallV.fn (h2 _)).mono ?_;rintro _ _ ⟨rfl,rfl⟩;refine zg ?_;clear hT T;refine zbd ?_;refine zdU ?_;refine zbv ?_;refine zbd ?_;refine zew ?_;refine zbv ?_;refine zeS ?_;refine zX ?_;refine zcD ?_;refine zp ?_;refine zkw ?_;refine zeu ?_;refine zeV ?_;refine zb4 ?_;refine ziR ?_;refine zD ?_;refine zdS ?_;refine zK ?_;refine zbn ?_;refine zaw ?_;refine zbl ?_;exact zc9
end
end Go.Proofs.YtpcgafhgfjlkmaaGreatDoor.Sw
