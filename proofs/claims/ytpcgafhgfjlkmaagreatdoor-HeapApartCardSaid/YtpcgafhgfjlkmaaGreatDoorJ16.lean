/-The walker and the contracts that the law needs,part 16. -/
import Derived.Test.YtpcgafhgfjlkmaaGreatDoorD1
import Derived.ArgAppend
import Derived.ChangeMaps5
import Derived.Deep.Fields
import Derived.Deep.LoopGhost
import Derived.Deep.OwnRows
import Derived.Deep.Quiet
import Derived.Deep.Slices
import Derived.IntWalk
import Derived.Laws.Cells
import Derived.Laws.CopyOwn
import Derived.Laws.Externs
import Derived.Laws.FloatArith
import Derived.Laws.IdiomStrings
import Derived.Laws.NewFold
import Derived.Laws.StructEq
import Derived.Lib.BitFns
import Derived.Lib.Hide
import Derived.Lib.SmallJoins
import Derived.Lib.TrailingZeros
import Derived.Maps.RangeRun
import Derived.OrdersIn
import Derived.ProofKit
import Derived.RangeFuncBound
import Derived.RangeFuncCalls
import Derived.RangeFuncLeaves
import Derived.RangeFuncNested
import Derived.RecoverIn
import Derived.Shelf.Bits.Mul64
import Derived.Shelf.Slices.Turned
import Derived.Shelf.Spec.TrailingZeros
import Derived.Shelf.Strconv.Itoa0
import Derived.SizedLaws
import Derived.Sort.BigQuietIn
import Derived.StillTailTactics
import Derived.Test.YtpcgafhgfjlkmaaGreatDoorProg
import Derived.WalkKit
import Derived.Test.YtpcgafhgfjlkmaaGreatDoorJ14
set_option linter.unusedVariables false set_option linter.unusedSimpArgs false set_option linter.unusedVariables false
set_option linter.unusedSimpArgs false
namespace Go.Proofs.YtpcgafhgfjlkmaaGreatDoor.Sw
set_option maxHeartbeats 8000000
open Go.Proofs.YtpcgafhgfjlkmaaGreatDoor renaming lo → qL, hi → qH
open Go.RowKit
set_option maxRecDepth 10000
theorem Val.sliceA {P:Program} {w0:World} {H:jb} {m:jl} {ty t e:TypeId} {x:Operand} {b o len z:Nat} (hx:evO m x=some (.pointer (some ⟨b,o,none⟩))) (ht:jc1 P t=some (len,e)) (hz:Jr P e=some z):
  Val P w0 H m ty (.slice t x none none none) (.slice (some ⟨b,o,none⟩) len len):=
 ⟨by grind[jB,jch,cov],fun w d pos af g _=>by
  have hu:P.underlying t=some (.array len e):=by grind[jc1]
  simp[execOp,evS,hx,Instr.sliceAt,Instr.sliceBounds,Instr.sureAddr,Jw w hu,jaN w hz,Addr.add]⟩
theorem fmay_K {w0:World} {H:jb} {f n:Nat} (h1:1≤n) (h:n+f≤64):Call Tryz.prog w0 215 [.int .i64 (f:Nat), .int .i64 (n:Nat)] H (fun r H'=>r= .bool true∧H'=H):=by
 have g1:(f:Int)≤64-(n:Int):=by omega
 refine Call.enter2 (n:=21) (by rfl) Tryz.func215 rfl rfl rfl ?_;refine zf2 ?_;refine zaz ?_;refine zA ?_;refine zaz ?_;refine zb1 ?_;refine zam ?_;refine zw ?_;refine zbM ?_;refine zfo ?_;refine zam ?_;exact zdl
theorem mask_K {w0:World} {H:jb} {n:Nat} (h1:1≤n) (h:n≤64):Call Tryz.prog w0 216 [.int .i64 (n:Nat)] H (fun r H'=>r= .int .u64 ((2^n-1:Nat):Int)∧H'=H):=by
 have e:(64:Int)-(n:Int)=((64-n:Nat):Int):=by omega
 have e2:=jcz (a:=18446744073709551615) (j:=64-n) (by omega)
 rw[fmask h1 h] at e2;refine Call.enter1 (n:=6) (by rfl) Tryz.func216 rfl rfl rfl ?_;refine zae ?_;refine zaY ?_;refine zdC ?_;refine zj7 ?_;rw[e];refine zdK ?_;rw[show(18446744073709551615:Int)=((18446744073709551615:Nat):Int) from rfl,e2];exact zt
theorem fGet_K {w0:World} {H:jb} {w f n:Nat} (hw:w<18446744073709551616) (h1:1≤n) (h:n+f≤64):
  Call Tryz.prog w0 157 [.int .u64 (w:Nat), .int .i64 (f:Nat), .int .i64 (n:Nat)] H (fun r H'=>r= .tuple [.int .u64 ((w/2^f%2^n:Nat):Int), .int .i64 0].toArray∧H'=H):=by
 have hwf:w/2^f<18446744073709551616:=Nat.lt_of_le_of_lt (Nat.div_le_self _ _) hw
 have hml:=jid (a:=0) (n:=n) (by omega)
 rw[Nat.pow_zero,Nat.mul_one] at hml
 have ea:=jc2 hwf hml
 rw[Nat.and_two_pow_sub_one_eq_mod] at ea
 have es:=jcz (a:=w) (j:=f) (by omega)
 refine Call.enter3 (n:=18) (by rfl) Tryz.func157 rfl rfl rfl ?_;refine zae ?_;refine zX ?_;refine zat ?_;refine jq (fmay_K h1 h) ?_;refine zE ?_;refine zbU ?_;refine K.drawn _ [(0,1),(1,1),(2,1),(3,0),(4,2),(5,0),(6,0),(7,0)] (by rfl) (by rfl) (by kernel_rfl) (by rfl) (by rfl) (by rfl) Part.all ?_;refine zH ?_;refine zH ?_;refine KD.v1 rfl rfl (Val.shr rfl rfl (by omega)) ?_;refine zc1 fun T hT=>?_;refine(CallV.fn (mask_K h1 (by omega))).mono ?_;rintro _ _ ⟨rfl,rfl⟩;refine zg ?_;clear hT T;refine KD.v0 rfl rfl (Val.and rfl rfl) ?_;refine zfL ?_;rw[es,ea];exact zZ
theorem len64_K {w0:World} {H:jb} {x:Nat} (hx:x<18446744073709551616):Call Tryz.prog w0 154 [.int .u64 (x:Nat)] H (fun r H'=>r= .int .i64 (Lib.bitLen x:Nat)∧H'=H):=by
 refine⟨by rfl,fun w hw=>?_⟩;refine(Tryz.bits_Len64 (x:Int) w (by omega) (by omega)).mono ?_;rintro e w' ⟨rfl,rfl⟩;exact⟨_,_,rfl,hw,rfl,rfl⟩
theorem fSet_K {w0:World} {H:jb} {w f n v:Nat} (hw:w<2^f) (h1:1≤n) (h:n+f≤64) (hv:v<2^n):
  Call Tryz.prog w0 303 [.int .u64 (w:Nat), .int .i64 (f:Nat), .int .i64 (n:Nat), .int .u64 (v:Nat)] H (fun r H'=>r= .tuple [.int .u64 ((w+v*2^f:Nat):Int), .int .i64 0].toArray∧H'=H):=by
 have hf64:2^f≤2^64:=Nat.pow_le_pow_right (by omega) (by omega)
 have hn64:2^n≤2^64:=Nat.pow_le_pow_right (by omega) (by omega)
 have hw64:w<18446744073709551616:=by omega
 have hv64:v<18446744073709551616:=by omega
 have hbl:=jjN hv64 hv
 have hng: ¬((Lib.bitLen v:Nat):Int)>(n:Int):=by omega
 have hml:=jid (a:=f) (n:=n) h
 have hvl:=val_lt (a:=f) h hv
 have s1:=jlc (b:=2^n-1) (j:=f) (by omega) hml
 have s2:=jlc (b:=v) (j:=f) (by omega) hvl
 have l1:=jhD hw64 hml
 rw[less_high hw h hml] at l1
 have o1:=or_nat hw64 hvl
 rw[or_high hw] at o1;refine Call.enter4 (n:=30) (by rfl) Tryz.func303 rfl rfl rfl ?_;refine zeY ?_;refine zdI ?_;refine zat ?_;refine jq (fmay_K h1 h) ?_;refine zE ?_;refine zau ?_;refine zo ?_;refine jq (len64_K hv64) ?_;refine ze ?_;refine zcq ?_;refine zdd ?_;refine za1 ?_;refine K.drawn _ [(0,1),(1,0),(3,1),(6,1),(7,1),(8,1),(2,2),(4,0),(5,0),(9,0),(10,0),(11,0)] (by rfl) (by rfl) (by kernel_rfl) (by rfl) (by rfl) (by rfl) Part.all ?_;refine zH ?_;refine zj ?_;refine zH ?_;refine zH ?_;refine zH ?_;refine KD.v1 rfl rfl (Val.shl rfl rfl (by omega)) ?_;refine zl fun T hT=>?_;refine(CallV.fn (mask_K h1 (by omega))).mono ?_;rintro _ _ ⟨rfl,rfl⟩;refine zg ?_;clear hT T;refine KD.v0 rfl rfl (Val.shl rfl rfl (by omega)) ?_;refine KD.v0 rfl rfl (Val.andNot rfl rfl) ?_;refine KD.v0 rfl rfl (Val.or rfl rfl) ?_;refine zfL ?_;rw[s1,s2,l1,o1];exact zZ
def sumP (ws:List Nat):Nat:=ws.sum
def natL (ws:List Nat):List Int:=ws.map fun(n:Nat)=>((n:Nat):Int)
structure WsOk (ws:List Nat):Prop where
 one: ∀ n∈ws,1≤n
 sum:ws.sum≤64
 len:1≤ws.length∧ws.length≤64
theorem ws_at {ws:List Nat} (h:WsOk ws) {i n:Nat} (hi:ws[i]?=some n):1≤n∧n+(ws.take i).sum≤64∧(ws.take (i+1)).sum=(ws.take i).sum+n:=by
 have e:(ws.take (i+1)).sum=(ws.take i).sum+n:=by rw[jca hi,List.sum_append];simp
 have hle: ∀ k,(ws.take k).sum≤ws.sum:=fun k=>by
  have:ws.sum=(ws.take k).sum+(ws.drop k).sum:=by rw[←List.sum_append,List.take_append_drop]
  omega
 have:=hle (i+1)
 have:=h.sum
 exact⟨h.one n (List.mem_of_getElem? hi),by omega,e⟩
structure EaS where
 k:Nat
 A:jb
theorem each_K {w0:World} {H0:jb} {v fv:Value} {ws:List Nat} (I:Nat→jb→Prop) (ok:WsOk ws) (hS: ∀ i H,I i H→Sli w0 H iE v (natL ws))
  (hd: ∀ i n H,ws[i]?=some n→I i H→CallV Tryz.prog w0 fv [.int .i64 (i:Nat), .int .i64 ((ws.take i).sum:Nat), .int .i64 (n:Nat)] H (fun r H'=>r= .int .i64 0∧I (i+1) H')) (h0:I 0 H0):
  Call Tryz.prog w0 155 [v,fv] H0 (fun r H'=>r= .tuple [.int .i64 (ws.sum:Nat), .int .i64 0].toArray∧I ws.length H'):=by
 have hs0:=hS 0 H0 h0
 have hlen:=ok.len
 have hnl:(natL ws).length=ws.length:=by simp[natL]
 refine Call.enter2 (n:=30) (by rfl) Tryz.func155 rfl rfl rfl ?_;refine za6 ?_;refine z6 ?_;refine zad ?_;refine zcH ?_;rw[hnl];refine K.loopT (σ:=EaS) [(1,_),(10,_),(11,_)] (fun s kp_=>(12, .int .i64 (s.k:Nat))::(6, .int .i64 ((ws.take s.k).sum:Nat))::kp_) (fun s=>s.A) (fun s=>s.k≤ws.length∧I s.k s.A) (fun s=>ws.length-s.k) (⟨0,H0⟩) jj ja (⟨by simp,h0⟩) ?_;rintro⟨k,A⟩ ⟨hk,hI⟩;dsimp only at hk hI⊢
 by_cases hlt:k<ws.length
 ·obtain⟨n,hn⟩:=jA hlt
  obtain⟨h1,h2,h3⟩:=ws_at ok hn
  have hs:=hS k A hI
  have hx:(natL ws)[k]?=some (n:Int):=by grind[natL]
  have hll:k<(natL ws).length:=by omega
  refine zaN ?_;refine zcP ?_;refine z8 ?_;refine zk ?_;refine zX ?_;refine zm ?_;refine zaC fun T hT=>?_;refine(hd k n A hn hI).mono ?_;rintro _ A' ⟨rfl,hI'⟩;refine zd ?_;clear hT T;refine zdt ?_;refine zj9 ?_;refine zm ?_;refine zea ?_;refine zbL ?_;refine zal ?_;refine zff ?_;exact KE.again ⟨k+1,A'⟩ jj ja ⟨by grind,hI'⟩ (by grind)
 ·have hke:k=ws.length:=by omega
  subst hke;rw[List.take_length];refine zeR ?_;refine zbl ?_;exact KE.fin je rfl jd ja ⟨rfl,hI⟩
theorem all_K {w0:World} {H:jb} {v:Value} {ws:List Nat} (ok:WsOk ws) (hS:Sli w0 H iE v (natL ws)):
  Call Tryz.prog w0 153 [v] H (fun r H'=>r= .tuple [.int .i64 (ws.sum:Nat), .int .i64 0].toArray∧H'=H):=by
 have hnl:(natL ws).length=ws.length:=by simp[natL]
 have hne: ¬(((natL ws).length:Nat):Int)=0:=by have:=ok.len;omega
 refine Call.enter1 (n:=11) (by rfl) Tryz.func153 rfl rfl rfl ?_;refine zae ?_;refine z6 ?_;refine zad ?_;refine zG ?_;refine zz ?_;refine zx fun T hT=>?_;refine(CallV.fn (each_K (ws:=ws) (fun _ A=>A=H) ok (fun i A hA=>by rw[hA];exact hS) ?_ rfl)).mono ?_
 ·rintro i n A hi rfl
  obtain⟨h1,h2,h3⟩:=ws_at ok hi
  refine CallV.fn ?_;refine Call.enter3 (n:=11) (by rfl) Tryz.func214 rfl rfl rfl ?_;refine zy ?_;refine zX ?_;refine zat ?_;refine jq (fmay_K h1 h2) ?_;refine zeX ?_;exact zt
 ·rintro _ _ ⟨rfl,rfl⟩;refine zd ?_;clear hT T;refine zfY ?_;exact zb8
open Go.RowKit
set_option maxRecDepth 10000
def packK (ws vs:List Nat) (k:Nat):Nat:=((List.range k).map fun i=>(vs[i]?).getD 0*2^(ws.take i).sum).sum
theorem jcq {ws vs:List Nat} {k v:Nat} (h:vs[k]?=some v):packK ws vs (k+1)=packK ws vs k+v*2^(ws.take k).sum:=by
 unfold packK;rw[List.range_succ,List.map_append,List.sum_append]
 grind
theorem jki {ws vs:List Nat} (hl:vs.length=ws.length) (hf: ∀ (i n v:Nat),ws[i]?=some n→vs[i]?=some v→v<2^n): ∀ k,k≤ws.length→packK ws vs k<2^(ws.take k).sum
 |0,_=>by simp[packK]
 |k+1,h=>by
  have ih:=jki hl hf k (by omega)
  obtain⟨n,hn⟩:=jA (l:=ws) (k:=k) (by omega)
  obtain⟨v,hv⟩:=jA (l:=vs) (k:=k) (by omega)
  have hvn:=hf k n v hn hv
  rw[jcq hv,jca hn,List.sum_append,List.sum_cons,List.sum_nil,Nat.add_zero,Nat.pow_add]
  have:v*2^(ws.take k).sum+2^(ws.take k).sum≤2^(ws.take k).sum*2^n:=by
   rw[←Nat.succ_mul,Nat.mul_comm];exact Nat.mul_le_mul_left _ hvn
  omega
theorem jkj (o:Own) (n:Nat):(oV o n).cells=[oV o n].toArray:=by cases o<;>rfl
theorem natL_at {ws:List Nat} {i n:Nat} (h:ws[i]?=some n):(natL ws)[i]?=some (n:Int):=by grind[natL]
theorem jfL (ws:List Nat):(natL ws).length=ws.length:=by simp[natL]
theorem Pack_K {w0:World} {H:jb} {v vv:Value} {ws vs:List Nat} (ok:WsOk ws) (hl:vs.length=ws.length) (hf: ∀ (i n v:Nat),ws[i]?=some n→vs[i]?=some v→v<2^n) (hS:Sli w0 H iE v (natL ws)) (hV:Sli w0 H uE vv (natL vs)) (hc:vv.cells=[vv].toArray):
  Call Tryz.prog w0 282 [v,vv] H (fun r H'=>r= .tuple [.int .u64 (packK ws vs ws.length:Nat), .int .i64 0].toArray∧H'=H):=by
 have h1:=jfL ws
 have h2:=jfL vs
 have hlen:=ok.len
 have heq: ¬(((natL vs).length:Nat):Int)≠((natL ws).length:Nat):=by omega
 refine Call.enter2 (n:=33) (by rfl) Tryz.func282 rfl rfl rfl ?_;refine zy ?_;refine KL.e rfl (Eff.box rfl (by assumption)) ?_;rintro _ _ ⟨b3,rfl,rfl⟩;refine zk ?_;refine zgJ ?_;refine jq (all_K ok (hS.part ja)) ?_;refine zQ ?_;refine zcv ?_;refine zgd ?_;refine zcx ?_;refine zL ?_;refine zcx ?_;refine zed ?_;refine zz ?_;refine zaD ?_;intro b8;refine zaw ?_;refine ze ?_;refine zaJ fun T hT=>?_;refine(CallV.fn (each_K (ws:=ws) (fun k A=>A=(b8,cells [.int .u64 (packK ws vs k:Nat)] 33)::(b3,cells [vv] 32)::H) ok (fun i A hA=>by rw[hA];exact hS.part (Part.drop (Part.drop Part.all))) ?_ rfl)).mono ?_
 ·rintro i n A hi rfl
  obtain⟨g1,g2,g3⟩:=ws_at ok hi
  obtain⟨v,hv⟩:=jA (l:=vs) (k:=i) (by grind)
  have hx:=natL_at hv
  have hxl:=jx hx
  have hpl:=jki hl hf i (by omega)
  have hps:=jcq (ws:=ws) hv
  have hvn:=hf i n v hi hv
  refine CallV.clo (cap:=[.pointer (some ⟨b8,0,none⟩), .pointer (some ⟨b3,0,none⟩)]) ?_;refine Call.enter5 (n:=21) (by rfl) Tryz.func302 rfl rfl rfl ?_;refine zae ?_;refine zcW ?_
  (first|refine K.seq (K.drawn ((b3,cells [vv] 32)::H) [(0,0),(1,0),(2,0),(3,0),(4,0),(5,0),(6,0),(7,2),(8,0),(9,0),(10,1),(11,2),(12,0)] (by rfl) (by rfl) (by kernel_rfl) (by rfl) (by rfl) (by rfl) ja ?_)|refine K.seq (K.seq (K.drawn ((b3,cells [vv] 32)::H) [(0,0),(1,0),(2,0),(3,0),(4,0),(5,0),(6,0),(7,2),(8,0),(9,0),(10,1),(11,2),(12,0)] (by kernel_rfl) (by kernel_rfl) (by kernel_rfl) (by kernel_rfl) (by kernel_rfl) (by kernel_rfl) ja ?_))|refine K.drawn ((b3,cells [vv] 32)::H) [(0,0),(1,0),(2,0),(3,0),(4,0),(5,0),(6,0),(7,2),(8,0),(9,0),(10,1),(11,2),(12,0)] (by kernel_rfl) (by kernel_rfl) (by kernel_rfl) (by kernel_rfl) (by kernel_rfl) (by kernel_rfl) ja ?_)
  refine zS ?_;refine zbf ?_;refine zeJ ?_;refine ziP ?_;refine zS ?_;refine zl fun T hT=>?_;refine(CallV.fn (fSet_K hpl g1 g2 hvn)).mono ?_;rintro _ _ ⟨rfl,rfl⟩;refine zg ?_;clear hT T;refine zgO ?_;refine zfQ ?_;refine zgY ?_;refine zbQ ?_;refine zb0 ?_;refine zaf ?_;refine za8 ?_;exact KE.fin je rfl jd ja ⟨rfl,by grind⟩
 ·rintro _ _ ⟨rfl,rfl⟩;refine zd ?_;clear hT T;refine zQ ?_;refine zp ?_;refine zbe ?_;exact zt
def digK (ws:List Nat) (w k:Nat):List Nat:=(List.range k).map fun i=>w/2^(ws.take i).sum%2^((ws[i]?).getD 0)
theorem jct {ws:List Nat} {w k n:Nat} (h:ws[k]?=some n):digK ws w (k+1)=digK ws w k++ [w/2^(ws.take k).sum%2^n]:=by
 unfold digK;rw[List.range_succ,List.map_append];grind
theorem digK_len (ws:List Nat) (w k:Nat):(digK ws w k).length=k:=by simp[digK]
theorem jkW {w0:World} {H:jb} {v:Value} {ws:List Nat} {w:Nat} (ok:WsOk ws) (hs64:ws.sum=64) (hw:w<18446744073709551616) (hS:Sli w0 H iE v (natL ws)):
  Call Tryz.prog w0 109 [v, .int .u64 (w:Nat)] H (fun r H'=> ∃ o,oOk uE (natL (digK ws w ws.length)) o∧r= .tuple [oV o (natL (digK ws w ws.length)).length, .int .i64 0].toArray∧H'=oH uE 33 (natL (digK ws w ws.length)) o++H):=by
 have h1:=jfL ws
 have hlen:=ok.len
 have hbl:=jjN (n:=64) hw (by omega)
 have hng: ¬((Lib.bitLen w:Nat):Int)>((64:Nat):Int):=by omega
 refine Call.enter2 (n:=31) (by rfl) Tryz.func109 rfl rfl rfl ?_;refine zeh ?_;intro b3;refine zx fun T hT=>?_;refine(CallV.fn (all_K ok (hS.part ja))).mono ?_;rintro _ _ ⟨rfl,rfl⟩;rw[hs64];refine zd ?_;clear hT T;refine zdq ?_;refine zau ?_;refine zV ?_;refine jq (len64_K hw) ?_;refine ze ?_;refine zcq ?_;refine zay ?_;refine zee ?_;intro b8;refine ze ?_;refine zaJ fun T hT=>?_;refine(CallV.fn (each_K (ws:=ws) (fun k A=> ∃ o,oOk uE (natL (digK ws w k)) o∧A=oH uE 33 (natL (digK ws w k)) o++((b8,cells [oV o (natL (digK ws w k)).length] 32)::(b3,cells [.int .u64 (w:Nat)] 33)::H)) ok (fun i A hA=>by obtain⟨o,_,rfl⟩:=hA;exact hS.part ja) ?_ ⟨none,rfl,rfl⟩)).mono ?_
 ·rintro i n A hi ⟨o,ko,rfl⟩
  obtain⟨g1,g2,g3⟩:=ws_at ok hi
  have hds:=jct (w:=w) hi
  have hnx:natL (digK ws w (i+1))=natL (digK ws w i)++ [((w/2^(ws.take i).sum%2^n:Nat):Int)]:=by grind[natL]
  have hil:=jx hi
  have hbd:(natL (digK ws w i)++ [((w/2^(ws.take i).sum%2^n:Nat):Int)]).length≤4294967296:=by grind[jfL,digK_len]
  refine CallV.clo (cap:=[.pointer (some ⟨b3,0,none⟩), .pointer (some ⟨b8,0,none⟩)]) ?_;refine Call.enter5 (n:=23) (by rfl) Tryz.func156 rfl rfl rfl ?_;refine z7 ?_;refine zp ?_;refine zat ?_;refine jq (fGet_K hw g1 g2) ?_;refine zQ ?_;refine zdz ?_;refine zaj ?_;intro b20;refine KL.e rfl (Eff.appZ (ys:=[_]) rfl rfl rfl rfl rfl rfl jn (by omega) (by first|exact Sli.blk jF rfl (by grind) (by first|decide|(unfold maxLen;omega)) rfl|exact Sli.old (by assumption)|exact Sli.own jn (by assumption) j6|assumption|exact Sli.part (by assumption) ja) rfl (by omega) rfl) ?_;rintro _ _ ⟨o21,ok21,rfl,rfl⟩;refine zaw ?_;refine za8 ?_;rw[←hnx] at ok21⊢;exact KE.fin je rfl jd ja ⟨rfl,o21,ok21,rfl⟩
 ·rintro _ _ ⟨rfl,o,ko,rfl⟩;refine zd ?_;clear hT T;refine za3 ?_;refine zu ?_;refine zp ?_;refine zbl ?_;exact KE.fin je rfl jd ja ⟨o,ko,rfl,rfl⟩
open Go.RowKit
set_option maxRecDepth 10000
def jbU:Int→List Int→Bool
 |_,[]=>true
 |a,x::l=>decide (a<x)&&jbU x l
def Jq (l:List Int):Bool:=decide (1≤l.length)&&decide (l.length≤8)&&decide ((l.getLast?).getD 65≤64)&&jbU 1 l
def jbe (b:Bool) (e:Int):Int:=if b then 0 else e
structure CkS where
 k:Nat
 last:Int
set_option maxRecDepth 10000 in
theorem Check_K {w0:World} {H:jb} {v:Value} {l:List Int} (hS:Sli w0 H iE v l) (hl:l.length≤140737488355328):
  Call Tryz.prog w0 162 [v] H (fun r H'=>r= .int .i64 (jbe (Jq l) 2)∧H'=H):=by
 refine Call.enter1 (n:=34) (by kernel_rfl) Tryz.func162 rfl rfl rfl ?_
 by_cases h1:l.length<1
 ·have hc:Jq l=false:=by simp[Jq];omega
  have h1':((l.length:Nat):Int)<1:=by omega
  refine zaa ?_;refine zce ?_;refine zd7 ?_;refine zfy ?_;refine zav ?_;exact zdN
 by_cases h8:8<l.length
 ·have hc:Jq l=false:=by simp[Jq];omega
  refine zaa ?_;refine zdi ?_;refine zA ?_;refine zcx ?_;refine zbs ?_;refine zC ?_;refine zfy ?_;refine zav ?_;exact zdN
 obtain⟨z,hz⟩:=jA (l:=l) (k:=l.length-1) (by omega)
 have hzl:l.getLast?=some z:=by rw[List.getLast?_eq_getElem?];exact hz
 have hz':l[(((l.length:Nat):Int)-1).toNat]?=some z:=by rw[show(((l.length:Nat):Int)-1).toNat=l.length-1 by omega];exact hz
 by_cases h64:z>64
 ·have hc:Jq l=false:=by simp[Jq,hzl];omega
  refine zaa ?_;refine zdi ?_;refine zA ?_;refine zcx ?_;refine zfi ?_;refine zbM ?_;refine zcx ?_;refine zdO ?_;refine zi ?_;refine zhK ?_;refine zfm ?_;refine zi ?_;refine zbs ?_;refine zC ?_;refine zav ?_;exact zdN
 have hcr:Jq l=jbU 1 l:=by simp[Jq,hzl];omega
 refine zaa ?_;refine zdi ?_;refine zA ?_;refine zcx ?_;refine zfi ?_;refine zbM ?_;refine zcx ?_;refine zdO ?_;refine zi ?_;refine zhK ?_;refine zfm ?_;refine zi ?_;refine zfi ?_;refine zz ?_;refine z6 ?_;refine zad ?_;refine zcH ?_;refine K.loopT (σ:=CkS) [(23,_),(24,_)] (fun s kp_=>(25, .int .i64 (s.k:Nat))::(3, .int .i64 s.last)::kp_) (fun s=>H) (fun s=>s.k≤l.length∧jbU 1 l=jbU s.last (l.drop s.k)) (fun s=>l.length-s.k) (⟨0,1⟩) jj ja (⟨by simp,by simp⟩) ?_;rintro⟨k,last⟩ ⟨hk,hr⟩;dsimp only at hk hr⊢
 by_cases hlt:k<l.length
 ·obtain⟨x,hx⟩:=jA hlt
  have hd:l.drop k=x::l.drop (k+1):=by
   obtain⟨h1,e⟩:=List.getElem?_eq_some_iff.1 hx
   rw[List.drop_eq_getElem_cons h1,e]
  rw[hd] at hr;simp only[jbU] at hr
  by_cases hxl:x≤last
  ·have hc:Jq l=false:=by rw[hcr,hr];simp;omega
   refine zaN ?_;refine zbr ?_;refine z8 ?_;refine zX ?_;refine zm ?_;refine zam ?_;refine zav ?_;refine zcd ?_;refine ziu ?_;exact zdN
  ·rw[decide_eq_true (show last<x by omega),Bool.true_and] at hr;refine zaN ?_;refine zbr ?_;refine z8 ?_;refine zX ?_;refine zm ?_;refine zcr ?_;refine zj9 ?_;refine ze ?_;refine zbY ?_;refine zcS ?_;exact KE.again ⟨k+1,x⟩ jj ja ⟨by show k+1≤_;omega,hr⟩ (by show l.length-(k+1)<l.length-k;omega)
 ·have hc:Jq l=true:=by rw[hcr,hr,List.drop_of_length_le (by omega)];rfl
  refine zeR ?_;refine zf ?_;exact zdN
def jao:List Int→Bool
 |a::b::c::l=>decide (a≤b)&&(decide (b≤c)&&jao l)
 |_=>true
structure WiS where
 k:Nat
set_option maxHeartbeats 1000000 in
theorem jhj {w0:World} {H:jb} {v:Value} {l:List Int} {n:Nat} (hS:Sli w0 H iE v l) (hl:l.length=3*n) (hn:n≤140737488355328):
  Call Tryz.prog w0 164 [v] H (fun r H'=>r= .bool (jao l)∧H'=H):=by
 refine Call.enter1 (n:=34) (by kernel_rfl) Tryz.func164 rfl rfl rfl ?_;refine zy ?_;refine zcn ?_;refine K.loopT (σ:=WiS) [(0,_)] (fun s kp_=>(3, .int .i64 ((3*s.k:Nat):Int))::kp_) (fun s=>H) (fun s=>s.k≤n∧jao l=jao (l.drop (3*s.k))) (fun s=>n-s.k) (⟨0⟩) jj ja (⟨by simp,by simp⟩) ?_;rintro⟨k⟩ ⟨hk,hr⟩;dsimp only at hk hr⊢
 by_cases hlt:k<n
 ·obtain⟨a,ha⟩:=jA (l:=l) (k:=3*k) (by omega)
  obtain⟨b,hb⟩:=jA (l:=l) (k:=3*k+1) (by omega)
  obtain⟨c,hc⟩:=jA (l:=l) (k:=3*k+2) (by omega)
  have hd:l.drop (3*k)=a::b::c::l.drop (3*(k+1)):=by
   obtain⟨h1,e1⟩:=List.getElem?_eq_some_iff.1 ha
   obtain⟨h2,e2⟩:=List.getElem?_eq_some_iff.1 hb
   obtain⟨h3,e3⟩:=List.getElem?_eq_some_iff.1 hc
   rw[List.drop_eq_getElem_cons h1,List.drop_eq_getElem_cons h2,List.drop_eq_getElem_cons h3,e1,e2,e3]
   rfl
  rw[hd] at hr;simp only[jao] at hr
  by_cases hab:b<a
  ·have hf:jao l=false:=by rw[hr,decide_eq_false (show ¬a≤b by omega)];rfl
   refine zc3 ?_;refine zbZ ?_;refine ze ?_;refine zce ?_;refine zgZ ?_;refine zkb ?_;refine zbf ?_;refine zg0 ?_;refine zkc ?_;refine zaF ?_;refine zd3 ?_;refine zhL ?_;refine zcT ?_;refine zfg ?_;refine zft ?_;refine zcB ?_;refine zcs ?_;exact zgS
  by_cases hbc:b>c
  ·have hf:jao l=false:=by rw[hr,decide_eq_false (show ¬b≤c by omega),Bool.false_and,Bool.and_false]
   refine zc3 ?_;refine zbZ ?_;refine ze ?_;refine zce ?_;refine zgZ ?_;refine zkb ?_;refine zbf ?_;refine zg0 ?_;refine zkc ?_;refine zaF ?_;refine zgl ?_;refine zen ?_;refine zgn ?_;refine zbi ?_;refine zen ?_;refine zgn ?_;refine ziS ?_;refine zaB ?_;refine zcs ?_;exact zgS
  rw[decide_eq_true (show a≤b by omega),decide_eq_true (show b≤c by omega),Bool.true_and,Bool.true_and] at hr;refine zc3 ?_;refine zbZ ?_;refine ze ?_;refine zce ?_;refine zgZ ?_;refine zkb ?_;refine zbf ?_;refine zg0 ?_;refine zkc ?_;refine zaF ?_;refine zgl ?_;refine zen ?_;refine zgn ?_;refine zbi ?_;refine zen ?_;refine zgn ?_;refine zhM ?_;refine zaB ?_;refine zbH ?_;refine zcg ?_;exact KE.again ⟨k+1⟩ jj ja ⟨by show k+1≤_;omega,hr⟩ (by show n-(k+1)<n-k;omega)
 ·have hf:jao l=true:=by rw[hr,List.drop_of_length_le (by omega)];rfl
  refine zc3 ?_;refine zbZ ?_;refine ze ?_;refine zcV ?_;refine zf ?_;exact ze4
set_option maxRecDepth 10000
theorem jdi: ∀ {l:List Int} {a:Int},jbU a l=true→(∀ x∈l,a<x)∧l.Pairwise (· < ·)
 | [],a,_=>⟨by simp,List.Pairwise.nil⟩
 |x::l,a,h=>by
  simp only[jbU,Bool.and_eq_true,decide_eq_true_eq] at h
  obtain⟨h1,h2⟩:=jdi h.2
  refine⟨fun y hy=>?_,List.pairwise_cons.2 ⟨h1,h2⟩⟩
  grind
theorem jgQ {l:List Int} (h:Jq l=true) {i j:Nat} {x y:Int} (hij:i≤j) (hx:l[i]?=some x) (hy:l[j]?=some y):x≤y:=by
 simp only[Jq,Bool.and_eq_true] at h
 have hp:=(jdi h.2).2
 rcases Nat.lt_or_ge i j with h1|h1
 ·obtain⟨g1,e1⟩:=List.getElem?_eq_some_iff.1 hx
  obtain⟨g2,e2⟩:=List.getElem?_eq_some_iff.1 hy
  have:=List.pairwise_iff_getElem.1 hp i j g1 g2 h1
  omega
 grind
structure SeS where
 i:Nat
 j:Nat
set_option maxRecDepth 10000 in
theorem jkX {w0:World} {H:jb} {fv:Value} {n:Nat} (p:Nat→Bool) (hn:n≤140737488355328) (hmono: ∀ i j,i≤j→j<n→p i=true→p j=true)
  (hy: ∀ i,i<n→CallV Tryz.prog w0 fv [.int .i64 (i:Nat)] H (fun r H'=>r= .bool (p i)∧H'=H)):
  Call Tryz.prog w0 230 [.int .i64 (n:Nat),fv] H (fun r H'=> ∃ i:Nat,i≤n∧(∀ j,j<i→p j=false)∧(∀ j,i≤j→j<n→p j=true)∧r= .int .i64 (i:Nat)∧H'=H):=by
 refine Call.enter2 (n:=26) (by kernel_rfl) Tryz.func230 rfl rfl rfl ?_;refine z7 ?_;refine zbe ?_;refine zk ?_;refine KL.nil (KE.next (K.seq (K.block ?_)));refine K.loopT (σ:=SeS) [(1,_)] (fun s kp_=>(5, .int .i64 (s.i:Nat))::(6, .int .i64 (s.j:Nat))::kp_) (fun s=>H) (fun s=>s.i≤s.j∧s.j≤n∧(∀ q,q<s.i→p q=false)∧(∀ q,s.j≤q→q<n→p q=true)) (fun s=>s.j-s.i) (⟨0,n⟩) jj ja (⟨by simp,by simp,fun q hq=>by simp at hq,fun q h1 h2=>by dsimp only at h1;omega⟩) ?_;rintro⟨i,j⟩ ⟨hij,hjn,hlo,hhi⟩;dsimp only at hij hjn hlo hhi⊢
 by_cases hlt:i<j
 ·have hmid:IntKind.i64.wrap (((i:Int)+(j:Int)).fdiv (2^min (Int.toNat 1) IntKind.u64.bits))=(((i+j)/2:Nat):Int):=by
   have e:(2:Int)^min (Int.toNat 1) IntKind.u64.bits=2:=by decide
   rw[e]
   have e2:((i:Int)+(j:Int)).fdiv 2=(((i+j)/2:Nat):Int):=by
    rw[Int.fdiv_eq_ediv_of_nonneg _ (by omega)];omega
   rw[e2];exact jdv (by simp only[qL,qH];omega)
  obtain⟨h,hh⟩: ∃ h,h=(i+j)/2:=⟨_,rfl⟩
  rw[←hh] at hmid
  have hih:i≤h:=by omega
  have hhj:h<j:=by omega
  refine za4 ?_;refine zab ?_;refine ziT ?_;refine zm ?_;refine zbT ?_;refine zeo ?_;refine zdK ?_;refine KL.v rfl (Val.convW rfl rfl rfl) ?_;refine zu ?_;refine zaC fun T hT=>?_;rw[hmid] at hT⊢;refine(hy h (by omega)).mono ?_;rintro _ _ ⟨rfl,rfl⟩
  cases hp:p h with
  |true=>
   refine zd ?_;clear hT T;refine zE ?_;refine KL.nil (KE.next (K.condF rfl (K.region ?_)));refine ze ?_;refine zbY ?_;refine zbD ?_;exact KE.again ⟨i,h⟩ jj ja ⟨hih,by dsimp only;omega,hlo,fun q h1 h2=>hmono h q h1 h2 hp⟩ (by show h-i<j-i;omega)
  |false=>
   have hlo2: ∀ q,q<h+1→p q=false:=by
    intro q hq
    cases hpq:p q with
    |false=>rfl
    |true=>
     have:=hmono q h (by omega) (by omega) hpq
     rw[hp] at this
     cases this
   refine zd ?_;clear hT T;refine zU ?_;refine zaS ?_;refine zdY ?_;refine zbD ?_;exact KE.again ⟨h+1,j⟩ jj ja ⟨by dsimp only;omega,hjn,hlo2,hhi⟩ (by show j-(h+1)<j-i;omega)
 ·have:i=j:=by omega
  subst this;refine za4 ?_;refine zT ?_;refine zdh ?_;refine za8 ?_;exact KE.fin je rfl jd ja ⟨i,by omega,hlo,hhi,rfl,rfl⟩
structure MxS where
 k:Nat
 z:Int
theorem Max_K {w0:World} {H:jb} {v:Value} {l:List Int} {top:Int} (hS:Sli w0 H iE v l) (hl:l.length≤140737488355328) (ht:l.getLast?=some top) (hr:l.Pairwise (· < ·)):
  Call Tryz.prog w0 163 [v] H (fun r H'=>r= .int .i64 top∧H'=H):=by
 have h0:0<l.length:=by
  grind
 obtain⟨z,hz⟩:=jA (l:=l) (k:=0) h0
 have hz':l[Int.toNat 0]?=some z:=hz
 refine Call.enter1 (n:=25) (by rfl) Tryz.func163 rfl rfl rfl ?_;refine zaa ?_;refine zdi ?_;refine zaG ?_;refine zbr ?_;refine z8 ?_;refine zcn ?_;refine K.loopT (σ:=MxS) [(0,_)] (fun s kp_=>(4, .int .i64 (s.k:Nat))::(3, .int .i64 s.z)::kp_) (fun s=>H) (fun s=>1≤s.k∧s.k≤l.length∧l[s.k-1]?=some s.z) (fun s=>l.length-s.k) (⟨1,z⟩) jj ja (⟨by simp,by grind,hz⟩) ?_;rintro⟨k,m⟩ ⟨hk1,hk,hm⟩;dsimp only at hk1 hk hm⊢
 by_cases hlt:k<l.length
 ·obtain⟨x,hx⟩:=jA hlt
  have hmx:m<x:=by
   obtain⟨g1,e1⟩:=List.getElem?_eq_some_iff.1 hm
   obtain⟨g2,e2⟩:=List.getElem?_eq_some_iff.1 hx
   have:=List.pairwise_iff_getElem.1 hr (k-1) k g1 g2 (by omega)
   omega
  refine zde ?_;refine zkd ?_;refine zeG ?_;refine z8 ?_;refine KL.v rfl (Val.max rfl rfl) ?_;refine zbY ?_;refine zbL ?_;refine ze ?_;refine zea ?_;exact KE.again ⟨k+1,if m<x then x else m⟩ jj ja ⟨by grind,by grind,by grind⟩ (by grind)
 ·have hke:k=l.length:=by omega
  have hmt:m=top:=by
   grind
  refine za4 ?_;refine zcV ?_;refine za8 ?_;exact KE.fin je rfl jd ja ⟨by rw[hmt];rfl,rfl⟩
open Go.RowKit
set_option maxRecDepth 10000
structure Tn where
 quota:Int
 trigger:Int
 caps:Int
 assist:Int
def tnE:Enc Tn:=⟨fun t=> [.int .i64 t.quota, .int .i64 t.trigger, .int .i64 t.caps, .int .i64 t.assist],4,fun _=>rfl,by intro x v hv;simp at hv;rcases hv with rfl|rfl|rfl|rfl<;>rfl⟩
structure Cfg where
 cl:List Int
 page:Int
 tn:List Tn
 workers:Int
 grey:Int
 gens:Int
def jbL (l:List Int):Int:=(l.getLast?).getD 0
def jbM (great:Int) (t:Tn):Bool:=jao [great,t.quota,4096,1,t.trigger,1048576,1,t.caps,1024,0,t.assist,1024]
def jc9 (c:Cfg):Bool:=jao [jbL c.cl,c.page,64,1,(c.tn.length:Nat),8,0,c.workers,8,1,c.grey,64,1,c.gens,2147483648]
def jX (c:Cfg):Bool:=Jq c.cl&&(jc9 c&&c.tn.all (jbM (jbL c.cl)))
def jT (c:Cfg) (vc vt:Value):List Value:=[vc, .int .i64 c.page,vt, .int .i64 c.workers, .int .i64 c.grey, .int .i64 c.gens]
def jw (c:Cfg) (vc vt:Value):Value:= .agg (jT c vc vt).toArray
structure Jo (w0:World) (H:jb) (c:Cfg) (vc vt:Value):Prop where
 cl:Sli w0 H iE vc c.cl
 tn:Sli w0 H tnE vt c.tn
 one1:vc.cells=[vc].toArray
 one2:vt.cells=[vt].toArray
 len1:c.cl.length≤140737488355328
 len2:c.tn.length≤140737488355328
theorem Jo.part {w0:World} {H H':jb} {c:Cfg} {vc vt:Value} (h:Jo w0 H' c vc vt) (hp:Part H H'):Jo w0 H c vc vt:=
 ⟨h.cl.part hp,h.tn.part hp,h.one1,h.one2,h.len1,h.len2⟩
structure CcS where
 k:Nat
theorem jiQ {w0:World} {H:jb} {c:Cfg} {vc vt:Value} (hR:Jo w0 H c vc vt):
  Call Tryz.prog w0 119 [jw c vc vt] H (fun r H'=>r= .int .i64 (jbe (jX c) 2)∧H'=H):=by
 obtain⟨hS,hT',o1,o2,l1,l2⟩:=hR
 obtain⟨cl,page,tn,workers,grey,gens⟩:=c
 dsimp only at hS hT' l1 l2;simp only[jw,jT];refine Call.enter1 (n:=51) (by rfl) Tryz.func119 rfl rfl rfl ?_;refine zdV ?_;intro b1;refine zX ?_;refine zB ?_;refine zq fun T hT=>?_;refine(CallV.fn (Check_K (l:=cl) (hS.part ja) l1)).mono ?_;rintro _ _ ⟨rfl,rfl⟩
 cases hc:Jq cl with
 |false=>
  have hf:jX ⟨cl,page,tn,workers,grey,gens⟩=false:=by grind[jX]
  refine ziB ?_;clear hT T;refine zcA ?_;refine zag ?_;refine zf9 ?_;refine zas ?_;exact ze4
 |true=>
  simp only[jbe,if_true]
  have hcc:=hc
  simp only[Jq,Bool.and_eq_true,decide_eq_true_eq] at hcc
  obtain⟨z,hz⟩:=jA (l:=cl) (k:=cl.length-1) (by omega)
  have hzl:cl.getLast?=some z:=by grind
  have htop:jbL cl=z:=by grind[jbL]
  refine zd ?_;clear hT T;refine zdt ?_;refine zz ?_;refine zB ?_;refine zn ?_;refine jq (Max_K (l:=cl) (top:=z) (hS.part ja) l1 hzl (jdi hcc.2).2) ?_;refine z6 ?_;refine zF ?_;refine zI ?_;refine zad ?_;refine zeO ?_;refine zah ?_;refine zp ?_;refine zca ?_;refine zp ?_;refine zaj ?_;intro b28;refine zq fun T hT=>?_;refine(CallV.fn (jhj (l:=[z,page,64,1,(tn.length:Nat),8,0,workers,8,1,grey,64,1,gens,2147483648]) (n:=5) (Sli.blk jF rfl (by simp) (by decide) rfl) rfl (by decide))).mono ?_;rintro _ _ ⟨rfl,rfl⟩
  cases hp:jao [z,page,64,1,(tn.length:Nat),8,0,workers,8,1,grey,64,1,gens,2147483648] with
  |false=>
   have hf:jX ⟨cl,page,tn,workers,grey,gens⟩=false:=by grind[jX,jc9]
   refine zd ?_;clear hT T;refine zU ?_;exact zf7
  |true=>
   have hcr:jX ⟨cl,page,tn,workers,grey,gens⟩=tn.all (jbM z):=by grind[jX,jc9]
   refine zd ?_;clear hT T;refine zE ?_;refine z9 ?_;refine zI ?_;refine zad ?_;refine zcH ?_;refine K.loopT (σ:=CcS) [(4,_),(32,_),(33,_)] (fun s kp_=>(34, .int .i64 (s.k:Nat))::kp_) (fun s=>H) (fun s=>s.k≤tn.length∧tn.all (jbM z)=(tn.drop s.k).all (jbM z)) (fun s=>tn.length-s.k) (⟨0⟩) jj ja (⟨by simp,by simp⟩) ?_;rintro⟨k⟩ ⟨hk,hr⟩;dsimp only at hk hr⊢
   by_cases hlt:k<tn.length
   ·obtain⟨t,ht⟩:=jA hlt
    have hd:tn.drop k=t::tn.drop (k+1):=by
     obtain⟨h1,e⟩:=List.getElem?_eq_some_iff.1 ht
     rw[List.drop_eq_getElem_cons h1,e]
    rw[hd,List.all_cons] at hr
    obtain⟨q,tr,cp,ax⟩:=t
    refine zaN ?_;refine zbr ?_;refine ze5 ?_;refine zaH ?_;intro b6;refine ze ?_;refine zB ?_;refine zF ?_;refine zI ?_;refine zeO ?_;refine zaj ?_;intro b47;refine zq fun T hT=>?_;refine(CallV.fn (jhj (l:=[z,q,4096,1,tr,1048576,1,cp,1024,0,ax,1024]) (n:=4) (Sli.blk jF rfl (by simp) (by decide) rfl) rfl (by decide))).mono ?_;rintro _ _ ⟨rfl,rfl⟩
    have htp:jbM z ⟨q,tr,cp,ax⟩=jao [z,q,4096,1,tr,1048576,1,cp,1024,0,ax,1024]:=rfl
    cases hw:jao [z,q,4096,1,tr,1048576,1,cp,1024,0,ax,1024] with
    |false=>
     have hf:jX ⟨cl,page,tn,workers,grey,gens⟩=false:=by grind
     refine zd ?_;clear hT T;refine zeQ ?_;exact zgS
    |true=>
     rw[htp,hw,Bool.true_and] at hr;refine zd ?_;clear hT T;refine zE ?_;refine zbq ?_;refine zbL ?_;refine zal ?_;refine zff ?_;exact KE.again ⟨k+1⟩ jj ja ⟨by grind,hr⟩ (by grind)
   ·have hf:jX ⟨cl,page,tn,workers,grey,gens⟩=true:=by grind
    refine zeR ?_;refine zf ?_;exact ze4
end Go.Proofs.YtpcgafhgfjlkmaaGreatDoor.Sw
