/-The walker and contracts, part 16.-/
import Derived.Test.YtciaccbemnpipaaGreatDoorJ14
set_option linter.all false
namespace Go.Proofs.YtciaccbemnpipaaGreatDoor.Sw
set_option maxHeartbeats 8000000
open Go.Proofs.YtciaccbemnpipaaGreatDoor renaming lo -> qL, hi -> qH
open Go.RowKit
set_option maxRecDepth 10000
theorem Val.sliceA {P:Program} {w0:World} {H:jb} {m:jo} {ty t e:TypeId} {x:Operand} {b o len z:Nat} (hx:evO m x=some (.pointer (some ⟨b,o,none⟩))) (ht:jcI P t=some (len,e)) (hz:Ju P e=some z):
  Val P w0 H m ty (.slice t x none none none) (.slice (some ⟨b,o,none⟩) len len):=
 ⟨by simp[jB,jb8,cov,hx],fun w d pos af g _=>by
  have hu:P.underlying t=some (.array len e):=by unfold jcI at ht;split at ht<;>simp_all
  simp[execOp,evS,hx,Instr.sliceAt,Instr.sliceBounds,Instr.sureAddr,JG w hu,jaO w hz,Addr.add]⟩
theorem fmay_K {w0:World} {H:jb} {f n:Nat} (h1:1<=n) (h:n+f<=64):Cs w0 371 [.int .i64 (f:Nat), .int .i64 (n:Nat)] H (.bool true):=by
 have g1:(f:Int)<=64-(n:Int):=by omega
 refine en2 21 Tryz.func371 ?_;refine yr27 ?_;exact zd
theorem mask_K {w0:World} {H:jb} {n:Nat} (h1:1<=n) (h:n<=64):Cs w0 372 [.int .i64 (n:Nat)] H (.int .u64 ((2^n-1:Nat):Int)):=by
 have e:(64:Int)-(n:Int)=((64-n:Nat):Int):=by omega
 have e2:=jby (a:=18446744073709551615) (j:=64-n) bc
 rw[fmask h1 h] at e2;refine en1 6 Tryz.func372 ?_;refine yr5 ?_;refine zg ?_;refine yr2 ?_;rw[e];refine yr1 ?_;rw[show(18446744073709551615:Int)=((18446744073709551615:Nat):Int) from rfl,e2];refine yr4 ?_;exact zd
theorem fGet_K {w0:World} {H:jb} {w f n:Nat} (hw:w<18446744073709551616) (h1:1<=n) (h:n+f<=64):
  Cs w0 316 [.int .u64 (w:Nat), .int .i64 (f:Nat), .int .i64 (n:Nat)] H (.tuple [.int .u64 ((w/2^f%2^n:Nat):Int), .int .i64 0].toArray):=by
 have hwf:w/2^f<18446744073709551616:=Nat.lt_of_le_of_lt (Nat.div_le_self _ _) hw
 have hml:=jha (a:=0) (n:=n) bc
 rw[Nat.pow_zero,Nat.mul_one] at hml
 have ea:=jcJ hwf hml
 rw[Nat.and_two_pow_sub_one_eq_mod] at ea
 have es:=jby (a:=w) (j:=f) bc
 refine en3 18 Tryz.func316 ?_;refine yr12 ?_;refine jj (fmay_K h1 h) ?_;refine yr7 ?_;refine K.dr _ (od 0 [1,1,1,0,2,0,0,0]) Part.all ?_;refine yr5 ?_;refine jj (mask_K h1 bc) ⟨ja,?_⟩;refine yr6 ?_;rw[es,ea];exact zd
theorem len64_K {w0:World} {H:jb} {x:Nat} (hx:x<18446744073709551616):Cs w0 313 [.int .u64 (x:Nat)] H (.int .i64 (Lib.bitLen x:Nat)):=by
 refine⟨by kernel_rfl,fun w hw=>?_⟩;refine(Tryz.bits_Len64 (x:Int) w bc bc).mono ?_;rintro e w' ⟨rfl,rfl⟩;exact⟨_,_,rfl,hw,rfl,rfl⟩
theorem fSet_K {w0:World} {H:jb} {w f n v:Nat} (hw:w<2^f) (h1:1<=n) (h:n+f<=64) (hv:v<2^n):
  Cs w0 389 [.int .u64 (w:Nat), .int .i64 (f:Nat), .int .i64 (n:Nat), .int .u64 (v:Nat)] H (.tuple [.int .u64 ((w+v*2^f:Nat):Int), .int .i64 0].toArray):=by
 have hf64:2^f<=2^64:=Nat.pow_le_pow_right bc bc
 have hn64:2^n<=2^64:=Nat.pow_le_pow_right bc bc
 have hw64:w<18446744073709551616:=by omega
 have hv64:v<18446744073709551616:=by omega
 have hbl:=jiP hv64 hv
 have hng: ¬((Lib.bitLen v:Nat):Int)>(n:Int):=by omega
 have hml:=jha (a:=f) (n:=n) h
 have hvl:=val_lt (a:=f) h hv
 have s1:=jea (b:=2^n-1) (j:=f) bc hml
 have s2:=jea (b:=v) (j:=f) bc hvl
 have l1:=jgE hw64 hml
 rw[less_high hw h hml] at l1
 have o1:=or_nat hw64 hvl
 rw[or_high hw] at o1;refine en4 30 Tryz.func389 ?_;refine yr13 ?_;refine jj (fmay_K h1 h) ?_;refine yr9 ?_;refine jj (len64_K hv64) ?_;refine yr10 ?_;refine K.dr _ [(0,1),(1,0),(3,1),(6,1),(7,1),(8,1),(2,2),(4,0),(5,0),(9,0),(10,0),(11,0)] Part.all ?_;refine yr7 ?_;refine jj (mask_K h1 bc) ⟨ja,?_⟩;refine yr8 ?_;rw[s1,s2,l1,o1];exact zd
def sumP (ws:List Nat):Nat:=ws.sum
def natL (ws:List Nat):List Int:=ws.map fun(n:Nat)=>((n:Nat):Int)
structure WsOk (ws:List Nat):Prop where
 one: ∀ n∈ws,1<=n
 sum:ws.sum<=64
 len:1<=ws.length/\ws.length<=64
theorem ws_at {ws:List Nat} (h:WsOk ws) {i n:Nat} (hi:ws[i]?=some n):1<=n/\n+(ws.take i).sum<=64/\(ws.take (i+1)).sum=(ws.take i).sum+n:=by
 have e:(ws.take (i+1)).sum=(ws.take i).sum+n:=by rw[ja6 hi,List.sum_append];simp
 have hle: ∀ k,(ws.take k).sum<=ws.sum:=fun k=>by
  have:ws.sum=(ws.take k).sum+(ws.drop k).sum:=by rw[<-List.sum_append,List.take_append_drop]
  omega
 have:=hle (i+1)
 have:=h.sum
 exact⟨h.one n (List.mem_of_getElem? hi),by omega,e⟩
structure EaS where
 k:Nat
 A:jb
theorem each_K {w0:World} {H0:jb} {v fv:Value} {ws:List Nat} (I:Nat->jb->Prop) (ok:WsOk ws) (hS: ∀ i H,I i H->Sli w0 H iE v (natL ws))
  (hd: ∀ i n H,ws[i]?=some n->I i H->CallV Tryz.prog w0 fv [.int .i64 (i:Nat), .int .i64 ((ws.take i).sum:Nat), .int .i64 (n:Nat)] H (fun r H'=>r= .int .i64 0/\I (i+1) H')) (h0:I 0 H0):
  Call Tryz.prog w0 314 [v,fv] H0 (fun r H'=>r= .tuple [.int .i64 (ws.sum:Nat), .int .i64 0].toArray/\I ws.length H'):=by
 have hs0:=hS 0 H0 h0
 have hlen:=ok.len
 have hnl:(natL ws).length=ws.length:=by simp[natL]
 refine en2 30 Tryz.func314 ?_;refine yr20 ?_;rw[hnl];refine K.loopT (σ:=EaS) [(1,_),(10,_),(11,_)] (fun s kp_=>(12, .int .i64 (s.k:Nat))::(6, .int .i64 ((ws.take s.k).sum:Nat))::kp_) (fun s=>s.A) (fun s=>s.k<=ws.length/\I s.k s.A) (fun s=>ws.length-s.k) (⟨0,H0⟩) jg ja (⟨by simp,h0⟩) ?_;rintro⟨k,A⟩ ⟨hk,hI⟩;dsimp only at hk hI|-
 by_cases hlt:k<ws.length
 ·obtain⟨n,hn⟩:=jq hlt
  obtain⟨h1,h2,h3⟩:=ws_at ok hn
  have hs:=hS k A hI
  have hx:(natL ws)[k]?=some (n:Int):=by unfold natL;rw [List.getElem?_map,hn];rfl
  have hll:k<(natL ws).length:=by rw[hnl];exact hlt
  refine yr28 ?_;refine(hd k n A hn hI).mono ?_;rintro _ A' ⟨rfl,hI'⟩;refine yr24 ?_;exact KE.again ⟨k+1,A'⟩ jg ja ⟨by show k+1<=_;omega,hI'⟩ (by show ws.length-(k+1)<ws.length-k;omega)
 ·have hke:k=ws.length:=by omega
  subst hke;rw[List.take_length];refine yr20 ?_;exact KE.fin jd rfl jc ja ⟨rfl,hI⟩
theorem all_K {w0:World} {H:jb} {v:Value} {ws:List Nat} (ok:WsOk ws) (hS:Sli w0 H iE v (natL ws)):
  Cs w0 312 [v] H (.tuple [.int .i64 (ws.sum:Nat), .int .i64 0].toArray):=by
 have hnl:(natL ws).length=ws.length:=by simp[natL]
 have hne: ¬(((natL ws).length:Nat):Int)=0:=by have:=ok.len;omega
 refine en1 11 Tryz.func312 ?_;refine yq20 fun T hT=>?_;refine(CallV.fn (each_K (ws:=ws) (fun _ A=>A=H) ok (fun i A hA=>by rw[hA];exact hS) ?_ rfl)).mono ?_
 ·rintro i n A hi rfl
  obtain⟨h1,h2,h3⟩:=ws_at ok hi
  refine CallV.fn ?_;refine en3 11 Tryz.func370 ?_;refine yr11 ?_;refine jj (fmay_K h1 h2) ?_;refine yr12 ?_;exact zd
 ·rintro _ _ ⟨rfl,rfl⟩;refine ze ?_;clear hT T;refine yr7 ?_;exact zd
def packK (ws vs:List Nat) (k:Nat):Nat:=((List.range k).map fun i=>(vs[i]?).getD 0*2^(ws.take i).sum).sum
theorem jaS {ws vs:List Nat} {k v:Nat} (h:vs[k]?=some v):packK ws vs (k+1)=packK ws vs k+v*2^(ws.take k).sum:=by
 unfold packK;rw[List.range_succ,List.map_append,List.sum_append]
 simp[h]
theorem jjy {ws vs:List Nat} (hl:vs.length=ws.length) (hf: ∀ (i n v:Nat),ws[i]?=some n->vs[i]?=some v->v<2^n): ∀ k,k<=ws.length->packK ws vs k<2^(ws.take k).sum
 |0,_=>by simp[packK]
 |k+1,h=>by
  have ih:=jjy hl hf k bc
  obtain⟨n,hn⟩:=jq (l:=ws) (k:=k) bc
  obtain⟨v,hv⟩:=jq (l:=vs) (k:=k) bc
  have hvn:=hf k n v hn hv
  rw[jaS hv,ja6 hn,List.sum_append,List.sum_cons,List.sum_nil,Nat.add_zero,Nat.pow_add]
  have:v*2^(ws.take k).sum+2^(ws.take k).sum<=2^(ws.take k).sum*2^n:=by
   rw[<-Nat.succ_mul,Nat.mul_comm];exact Nat.mul_le_mul_left _ hvn
  omega
theorem jjz (o:Own) (n:Nat):(oV o n).cells=[oV o n].toArray:=by cases o<;>rfl
theorem natL_at {ws:List Nat} {i n:Nat} (h:ws[i]?=some n):(natL ws)[i]?=some (n:Int):=by unfold natL;rw [List.getElem?_map,h];rfl
theorem je5 (ws:List Nat):(natL ws).length=ws.length:=by simp[natL]
theorem Pack_K {w0:World} {H:jb} {v vv:Value} {ws vs:List Nat} (ok:WsOk ws) (hl:vs.length=ws.length) (hf: ∀ (i n v:Nat),ws[i]?=some n->vs[i]?=some v->v<2^n) (hS:Sli w0 H iE v (natL ws)) (hV:Sli w0 H uE vv (natL vs)) (hc:vv.cells=[vv].toArray):
  Cs w0 363 [v,vv] H (.tuple [.int .u64 (packK ws vs ws.length:Nat), .int .i64 0].toArray):=by
 have h1:=je5 ws
 have h2:=je5 vs
 have hlen:=ok.len
 have heq: ¬(((natL vs).length:Nat):Int)≠((natL ws).length:Nat):=by omega
 refine en2 33 Tryz.func363 ?_;refine yr3 ?_;intro b3;refine yr9 ?_;refine jj (all_K ok (hS.part ja)) ?_;refine yr26 ?_;intro b8;refine yq7 fun T hT=>?_;refine(CallV.fn (each_K (ws:=ws) (fun k A=>A=(b8,cells [.int .u64 (packK ws vs k:Nat)] 67)::(b3,cells [vv] 66)::H) ok (fun i A hA=>by rw[hA];exact hS.part (Part.drop (Part.drop Part.all))) ?_ rfl)).mono ?_
 ·rintro i n A hi rfl
  obtain⟨g1,g2,g3⟩:=ws_at ok hi
  obtain⟨v,hv⟩:=jq (l:=vs) (k:=i) (by rw[hl];exact jl hi)
  have hx:=natL_at hv
  have hxl:=jl hx
  have hpl:=jjy hl hf i (by have:=jl hi;omega)
  have hps:=jaS (ws:=ws) hv
  have hvn:=hf i n v hi hv
  refine CallV.clo (cap:=[pt b8,pt b3]) ?_;refine en5 21 Tryz.func388 ?_;refine yr5 ?_;refine zi ?_
  (repeat refine K.seq ?_)
  refine K.dr ((b3,cells [vv] 66)::H) (od 0 [0,0,0,0,0,0,0,2,0,0,1,2,0]) ja ?_;refine yr8 ?_;refine jj (fSet_K hpl g1 g2 hvn) ⟨ja,?_⟩;refine yr15 ?_;exact KE.fin jd rfl jc ja ⟨rfl,by rw[hps]⟩
 ·rintro _ _ ⟨rfl,rfl⟩;refine ze ?_;clear hT T;refine yr16 ?_;exact zd
def digK (ws:List Nat) (w k:Nat):List Nat:=(List.range k).map fun i=>w/2^(ws.take i).sum%2^((ws[i]?).getD 0)
theorem jcj {ws:List Nat} {w k n:Nat} (h:ws[k]?=some n):digK ws w (k+1)=digK ws w k++ [w/2^(ws.take k).sum%2^n]:=by
 unfold digK;rw[List.range_succ,List.map_append];simp[h]
theorem digK_len (ws:List Nat) (w k:Nat):(digK ws w k).length=k:=by simp[digK]
theorem jj9 {w0:World} {H:jb} {v:Value} {ws:List Nat} {w:Nat} (ok:WsOk ws) (hs64:ws.sum=64) (hw:w<18446744073709551616) (hS:Sli w0 H iE v (natL ws)):
  Call Tryz.prog w0 215 [v, .int .u64 (w:Nat)] H (fun r H'=> ∃ o,oOk uE (natL (digK ws w ws.length)) o/\r= .tuple [oV o (natL (digK ws w ws.length)).length, .int .i64 0].toArray/\H'=oH uE 67 (natL (digK ws w ws.length)) o++H):=by
 have h1:=je5 ws
 have hlen:=ok.len
 have hbl:=jiP (n:=64) hw bc
 have hng: ¬((Lib.bitLen w:Nat):Int)>((64:Nat):Int):=by omega
 refine en2 31 Tryz.func215 ?_;refine yr3 ?_;intro b3;refine yq7 fun T hT=>?_;refine(CallV.fn (all_K ok (hS.part ja))).mono ?_;rintro _ _ ⟨rfl,rfl⟩;rw[hs64];refine ze ?_;clear hT T;refine yr21 ?_;refine jj (len64_K hw) ?_;refine yr12 ?_;intro b8;refine yq6 fun T hT=>?_;refine(CallV.fn (each_K (ws:=ws) (fun k A=> ∃ o,oOk uE (natL (digK ws w k)) o/\A=oH uE 67 (natL (digK ws w k)) o++((b8,cells [oV o (natL (digK ws w k)).length] 66)::(b3,cells [.int .u64 (w:Nat)] 67)::H)) ok (fun i A hA=>by obtain⟨o,_,rfl⟩:=hA;exact hS.part ja) ?_ ⟨none,rfl,rfl⟩)).mono ?_
 ·rintro i n A hi ⟨o,ko,rfl⟩
  obtain⟨g1,g2,g3⟩:=ws_at ok hi
  have hds:=jcj (w:=w) hi
  have hnx:natL (digK ws w (i+1))=natL (digK ws w i)++ [((w/2^(ws.take i).sum%2^n:Nat):Int)]:=by rw[hds];simp[natL]
  have hil:=jl hi
  have hbd:(natL (digK ws w i)++ [((w/2^(ws.take i).sum%2^n:Nat):Int)]).length<=4294967296:=by rw[List.length_append,je5,digK_len];simp;omega
  refine CallV.clo (cap:=[pt b3,pt b8]) ?_;refine en5 23 Tryz.func315 ?_;refine yr11 ?_;refine jj (fGet_K hw g1 g2) ?_
  (iterate 13 first|refine yS ?_|intro _)
  refine KL.e rfl (Eff.appZ (ys:=[_]) rfl rfl rfl rfl rfl rfl jt bh ba rfl be rfl) ?_;rintro _ _ ⟨o21,ok21,rfl,rfl⟩;refine yr10 ?_;rw[<-hnx] at ok21|-;exact KE.fin jd rfl jc ja ⟨rfl,o21,ok21,rfl⟩
 ·rintro _ _ ⟨rfl,o,ko,rfl⟩;refine ze ?_;clear hT T;refine yr15 ?_;exact zbs
structure HdP where
 c:Int
 r:Int
 w:Int
def hdV (h:HdP):Value:= .agg [.int .i64 h.c, .int .i64 h.r, .int .i64 h.w].toArray
def Jb (h:HdP):Bool:=decide (0<=h.c/\h.c<8/\0<=h.r/\0<=h.w/\h.r<=63/\h.w<=63-h.r)
theorem jfB {w0:World} {H:jb} {h:HdP}:Cs w0 282 [hdV h] H (.bool (Jb h)):=by
 obtain⟨c,r,w⟩:=h
 unfold hdV
 have yes:(0<=c/\c<8/\0<=r/\0<=w/\r<=63/\w<=63-r)->Jb ⟨c,r,w⟩=true:=fun h=>decide_eq_true h
 have no: ¬(0<=c/\c<8/\0<=r/\0<=w/\r<=63/\w<=63-r)->Jb ⟨c,r,w⟩=false:=fun h=>decide_eq_false h
 refine en1 34 Tryz.func282 ?_
 by_cases h1:c>=0
 ·by_cases h2:c<8
  ·by_cases h3:r>=0
   ·by_cases h4:w>=0
    ·by_cases h5:r<=63
     ·by_cases h6:w<=63-r
      ·rw[yes ⟨h1,h2,h3,h4,h5,h6⟩]
       (iterate 44 first|refine yS ?_|intro _)
       exact zd
      ·rw[no bc]
       (iterate 44 first|refine yS ?_|intro _)
       exact zd
     ·rw[no bc]
      (iterate 44 first|refine yS ?_|intro _)
      exact zd
    ·rw[no bc]
     (iterate 44 first|refine yS ?_|intro _)
     exact zd
   ·rw[no bc]
    (iterate 44 first|refine yS ?_|intro _)
    exact zd
  ·rw[no bc]
   (iterate 44 first|refine yS ?_|intro _)
   exact zd
 ·rw[no bc]
  (iterate 44 first|refine yS ?_|intro _)
  exact zd
theorem wd_ok:WsOk wdL:=⟨by decide,by decide,by decide⟩
theorem jkg {w0:World} {H:jb} (hG:ju w0):SeesA w0 H ⟨1,0,none⟩ 5 [.int .i64 16, .int .i64 16, .int .i64 16, .int .i64 8, .int .i64 8]:=by
 refine⟨rfl,fun j v hj=>j7.old ?_⟩
 have e:(Addr.mk 1 0 none).add j=⟨1,j,none⟩:=by
  unfold Addr.add;by_cases h:j=0
  ·simp[h]
  ·simp[h]
 rw[e]
 match j,hj with
 |0,hj=>cases hj;exact hG.wd 0 16 rfl
 |1,hj=>cases hj;exact hG.wd 1 16 rfl
 |2,hj=>cases hj;exact hG.wd 2 16 rfl
 |3,hj=>cases hj;exact hG.wd 3 8 rfl
 |4,hj=>cases hj;exact hG.wd 4 8 rfl
 |j+5,hj=>simp at hj
def putN (c r w:Nat):Nat:=w*2^16+r*2^32+c*2^48+199*2^56
theorem pack_put (c r w:Nat):packK wdL [0,w,r,c,199] 5=putN c r w:=by
 have h1:=jaS (ws:=wdL) (vs:=[0,w,r,c,199]) (k:=0) rfl
 have h2:=jaS (ws:=wdL) (vs:=[0,w,r,c,199]) (k:=1) rfl
 have h3:=jaS (ws:=wdL) (vs:=[0,w,r,c,199]) (k:=2) rfl
 have h4:=jaS (ws:=wdL) (vs:=[0,w,r,c,199]) (k:=3) rfl
 have h5:=jaS (ws:=wdL) (vs:=[0,w,r,c,199]) (k:=4) rfl
 have e0:packK wdL [0,w,r,c,199] 0=0:=rfl
 rw[show(wdL.take 0).sum=0 from rfl] at h1;rw[show(wdL.take 1).sum=16 from rfl] at h2;rw[show(wdL.take 2).sum=32 from rfl] at h3;rw[show(wdL.take 3).sum=48 from rfl] at h4;rw[show(wdL.take 4).sum=56 from rfl] at h5;rw[h5,h4,h3,h2,h1,e0];unfold putN
 generalize 2^16=a
 generalize 2^32=b
 generalize 2^48=d
 generalize 2^56=e
 rw[Nat.zero_mul,Nat.zero_add]
theorem packed_K {w0:World} {H:jb} {vv:Value} {c r w:Nat} (hG:ju w0) (hc8:c<8) (hr:r<64) (hw:w<64) (hV:Sli w0 H uE vv (natL [0,w,r,c,199])) (hc:vv.cells=[vv].toArray):
  Call Tryz.prog w0 357 [vv] H (fun u H'=>u= .int .u64 (putN c r w:Nat)/\H'=H):=by
 have hwd:=jkg (H:=H) hG
 refine en1 14 Tryz.func357 ?_
 (iterate 10 first|refine yS ?_|intro _);refine yq7 fun T hT=>?_
 refine(CallV.fn (Pack_K (ws:=wdL) (vs:=[0,w,r,c,199]) wd_ok rfl ?_ (Sli.blk jK rfl bn bn rfl) (hV.part ja) hc)).mono ?_
 ·intro i n v hi hv
  match i,hi,hv with
  |0,hi,hv=>cases hi;cases hv;decide
  |1,hi,hv=>cases hi;cases hv;exact Nat.lt_of_lt_of_le hw bn
  |2,hi,hv=>cases hi;cases hv;exact Nat.lt_of_lt_of_le hr bn
  |3,hi,hv=>cases hi;cases hv;exact Nat.lt_of_lt_of_le hc8 bn
  |4,hi,hv=>cases hi;cases hv;decide
  |i+5,hi,hv=>simp[wdL] at hi
 ·rintro _ _ ⟨rfl,rfl⟩;rw[show packK wdL [0,w,r,c,199] wdL.length=putN c r w from pack_put c r w];refine ze ?_;clear hT T;refine yr14 ?_;exact zd
theorem Put_K {w0:World} {H:jb} {h:HdP} (hG:ju w0) (hm:Jb h=true):
  Call Tryz.prog w0 292 [hdV h] H (fun u H'=>u= .tuple [.int .u64 (putN h.c.toNat h.r.toNat h.w.toNat:Nat), .int .i64 0].toArray/\H'=H):=by
 obtain⟨c,r,w⟩:=h
 have hb:0<=c/\c<8/\0<=r/\0<=w/\r<=63/\w<=63-r:=of_decide_eq_true hm
 obtain⟨c,rfl⟩: ∃ q:Nat,c=q:=⟨c.toNat,by omega⟩
 obtain⟨r,rfl⟩: ∃ q:Nat,r=q:=⟨r.toNat,by omega⟩
 obtain⟨w,rfl⟩: ∃ q:Nat,w=q:=⟨w.toNat,by omega⟩
 have hu:hdV ⟨(c:Int),(r:Int),(w:Int)⟩= .agg [.int .i64 (c:Int), .int .i64 (r:Int), .int .i64 (w:Int)].toArray:=rfl
 rw[hu];dsimp only[Int.toNat_natCast];refine en1 18 Tryz.func292 ?_
 (iterate 4 first|refine yS ?_|intro _);refine yq8 fun T hT=>?_
 refine(CallV.fn (jfB (h:=⟨(c:Int),(r:Int),(w:Int)⟩))).mono ?_;rintro _ _ ⟨rfl,rfl⟩;rw[hm];refine ze ?_;clear hT T
 (iterate 20 first|refine yS ?_|intro _)
 refine jj (packed_K (c:=c) (r:=r) (w:=w) hG bc bc bc (Sli.blk jK rfl (by simp[natL]) bn rfl) rfl) ?_;refine yr5 ?_;exact zd
def jbH (w:Nat):Option HdP:=
 if w%2^16=0/\w/2^56%2^8=199/\Jb ⟨((w/2^48%2^8:Nat):Int),((w/2^32%2^16:Nat):Int),((w/2^16%2^16:Nat):Int)⟩=true then some ⟨((w/2^48%2^8:Nat):Int),((w/2^32%2^16:Nat):Int),((w/2^16%2^16:Nat):Int)⟩ else none
theorem dig_wd (w:Nat):digK wdL w 5=[w%2^16,w/2^16%2^16,w/2^32%2^16,w/2^48%2^8,w/2^56%2^8]:=by
 have h1:=jcj (ws:=wdL) (w:=w) (k:=0) rfl
 have h2:=jcj (ws:=wdL) (w:=w) (k:=1) rfl
 have h3:=jcj (ws:=wdL) (w:=w) (k:=2) rfl
 have h4:=jcj (ws:=wdL) (w:=w) (k:=3) rfl
 have h5:=jcj (ws:=wdL) (w:=w) (k:=4) rfl
 have e0:digK wdL w 0=[]:=rfl
 rw[show(wdL.take 0).sum=0 from rfl,Nat.pow_zero,Nat.div_one] at h1;rw[show(wdL.take 1).sum=16 from rfl] at h2;rw[show(wdL.take 2).sum=32 from rfl] at h3;rw[show(wdL.take 3).sum=48 from rfl] at h4;rw[show(wdL.take 4).sum=56 from rfl] at h5;rw[h5,h4,h3,h2,h1,e0]
 rfl
def jbD (w:Nat):Value:=match jbH w with
 |some h=> .tuple [hdV h, .int .i64 0].toArray
 |none=> .tuple [hdV ⟨0,0,0⟩, .int .i64 5].toArray
theorem hGet_K {w0:World} {H:jb} {w:Nat} (hG:ju w0) (hw:w<18446744073709551616):
  Call Tryz.prog w0 250 [.int .u64 (w:Nat)] H (fun u H'=>u=jbD w/\H'=H):=by
 obtain⟨d0,hd0⟩: ∃ d,d=w%2^16:=⟨_,rfl⟩
 obtain⟨d1,hd1⟩: ∃ d,d=w/2^16%2^16:=⟨_,rfl⟩
 obtain⟨d2,hd2⟩: ∃ d,d=w/2^32%2^16:=⟨_,rfl⟩
 obtain⟨d3,hd3⟩: ∃ d,d=w/2^48%2^8:=⟨_,rfl⟩
 obtain⟨d4,hd4⟩: ∃ d,d=w/2^56%2^8:=⟨_,rfl⟩
 have b1:d1<65536:=by rw[hd1];exact Nat.mod_lt _ bn
 have b2:d2<65536:=by rw[hd2];exact Nat.mod_lt _ bn
 have b3':d3<256:=by rw[hd3];exact Nat.mod_lt _ bn
 have hg:jbH w=if d0=0/\d4=199/\Jb ⟨(d3:Int),(d2:Int),(d1:Int)⟩=true then some ⟨(d3:Int),(d2:Int),(d1:Int)⟩ else none:=by unfold jbH;rw [<-hd0,<-hd1,<-hd2,<-hd3,<-hd4]
 obtain⟨D,hD⟩: ∃ D,D=natL (digK wdL w wdL.length):=⟨_,rfl⟩
 have hD':D=[(d0:Int),(d1:Int),(d2:Int),(d3:Int),(d4:Int)]:=by
  rw[hD,show wdL.length=5 from rfl,dig_wd,<-hd0,<-hd1,<-hd2,<-hd3,<-hd4];rfl
 have hDl:D.length=5:=by rw[hD'];rfl
 have x0:D[Int.toNat 0]?=some (d0:Int):=by rw[hD'];rfl
 have x1:D[Int.toNat 1]?=some (d1:Int):=by rw[hD'];rfl
 have x2:D[Int.toNat 2]?=some (d2:Int):=by rw[hD'];rfl
 have x3:D[Int.toNat 3]?=some (d3:Int):=by rw[hD'];rfl
 have x4:D[Int.toNat 4]?=some (d4:Int):=by rw[hD'];rfl
 clear hd0 hd1 hd2 hd3 hd4 hD';refine en1 45 Tryz.func250 ?_;refine yr3 ?_;intro b2;refine yr3 ?_
 have hwd:=jkg (H:=(b2,cells [.int .i64 0, .int .i64 0, .int .i64 0] 225)::H) hG
 (iterate 5 first|refine yS ?_|intro _);refine yq7 fun T hT=>?_
 refine(CallV.fn (jj9 (ws:=wdL) wd_ok rfl hw (Sli.blk jK rfl bn bn rfl))).mono ?_;rintro _ _ ⟨o,ko,rfl,rfl⟩;rw[<-hD] at ko|-;refine ze ?_;clear hT T;refine yr8 ?_;refine K.dr _ (od 0 [1,1,1,1,1,1,1,1,1,1,1,1,1,2,2]) Part.all ?_
 (iterate 20 first|refine yS ?_|intro _)
 have hres: ∀ b:Bool,b=Jb ⟨(d3:Int),(d2:Int),(d1:Int)⟩->jbD w=if d0=0/\d4=199/\b=true then .tuple [.agg [.int .i64 (d3:Nat), .int .i64 (d2:Nat), .int .i64 (d1:Nat)].toArray, .int .i64 0].toArray else .tuple [.agg [.int .i64 0, .int .i64 0, .int .i64 0].toArray, .int .i64 5].toArray:=fun b hb=>by
  unfold jbD;rw[hg,hb]
  by_cases h:d0=0/\d4=199/\Jb ⟨(d3:Int),(d2:Int),(d1:Int)⟩=true
  ·rw[if_pos h,if_pos h];rfl
  ·rw[if_neg h,if_neg h];rfl
 by_cases h0:(d0:Int)≠0
 ·have hr:=hres _ rfl
  rw[if_neg bc] at hr;rw[hr];refine yr30 ?_;exact zd
 by_cases h4:(d4:Int)≠199
 ·have hr:=hres _ rfl
  rw[if_neg bc] at hr;rw[hr];refine yr30 ?_;exact zd
 refine yr15 ?_;refine zC fun T hT=>?_;refine(CallV.fn (jfB (h:=⟨(d3:Int),(d2:Int),(d1:Int)⟩))).mono ?_;rintro _ _ ⟨rfl,rfl⟩
 cases hm:Jb ⟨(d3:Int),(d2:Int),(d1:Int)⟩ with
 |true=>
  have hr:=hres true hm.symm
  rw[if_pos ⟨by omega,by omega,rfl⟩] at hr;refine ze ?_;clear hT T;rw[hr];refine yr15 ?_;exact zd
 |false=>
  have hr:=hres false hm.symm
  rw[if_neg bF] at hr;refine ze ?_;clear hT T;rw[hr];refine yr14 ?_;exact zd
def JF (x:List Int):Prop:= ∀ w∈x,0<=w/\w<18446744073709551616
theorem JF.set {x:List Int} (h:JF x) {a:Nat} {w:Int} (hw:0<=w/\w<18446744073709551616):JF (x.set a w):=by
 intro v hv
 rcases List.mem_or_eq_of_mem_set hv with h1|h1
 ·exact h v h1
 ·rw[h1];exact hw
theorem JF.cleared {x:List Int} (h:JF x) {a b:Nat}:JF (cleared x a b 0):=by
 intro v hv;simp only[Go.Proofs.YtciaccbemnpipaaGreatDoor.cleared,List.mem_append] at hv
 rcases hv with(h1|h1)|h1
 ·exact h v (List.mem_of_mem_take h1)
 ·rw[(List.mem_replicate.1 h1).2];omega
 ·exact h v (List.mem_of_mem_drop h1)
theorem JF.rep (n:Nat):JF (List.replicate n 0):=by
 intro v hv;rw [(List.mem_replicate.1 hv).2];omega
def wAt (x:List Int) (a:Nat):Int:=(x[a]?).getD 0
theorem jgW {x:List Int} {a:Nat} (h:a<x.length):x[a]?=some (wAt x a):=by
 unfold wAt;rw [List.getElem?_eq_getElem h];rfl
theorem JF.at_ {x:List Int} (h:JF x) (a:Nat):0<=wAt x a/\wAt x a<18446744073709551616:=by
 unfold wAt
 cases hx:x[a]? with
 |none=>simp
 |some w=>exact h w (List.mem_of_getElem? hx)
def JA (p:jn) (h:HdP):Bool:=Jb h&&(decide (h.c=p.cls)&&decide (h.r+h.w+1<=p.size))
def headP (x:List Int) (p:jn):Option HdP:=match jbH (wAt x p.addr).toNat with
 |some h=>if JA p h then some h else none
 |none=>none
def JH (x:List Int) (p:jn):List Int:=cleared x p.addr (p.addr+p.size) 0
def jbW (h:HdP):Int:=(putN h.c.toNat h.r.toNat h.w.toNat:Nat)
def makeP (x:List Int) (p:jn) (h:HdP):Int × List Int:=
 if JA p h then(if (headP x p).isSome then(8,x) else(0,(JH x p).set p.addr (jbW h))) else(2,x)
def fldP (x:List Int) (p:jn) (ref:Bool) (i:Int):Int:=match headP x p with
 |none=>5
 |some h=>if 0<=i/\i<h.r+h.w/\decide (i<h.r)=ref then 0 else 110
def fAt (p:jn) (i:Int):Nat:=p.addr+1+i.toNat
def refP (x:List Int) (n:Nat) (p:jn) (i:Int):Int × Int:=
 if fldP x p true i=0 then(if wAt x (fAt p i)>n then(0,5) else(wAt x (fAt p i)-1,0)) else(0,fldP x p true i)
def Jp (x:List Int) (n:Nat) (p:jn) (i to:Int):Int × List Int:=
 if to< -1\/to>=n then(2,x) else if fldP x p true i=0 then(0,x.set (fAt p i) (to+1)) else(fldP x p true i,x)
def wordP (x:List Int) (p:jn) (i:Int):Int × Int:=
 if fldP x p false i=0 then(wAt x (fAt p i),0) else(0,fldP x p false i)
def J6 (x:List Int) (p:jn) (i w:Int):Int × List Int:=
 if fldP x p false i=0 then(0,x.set (fAt p i) w) else(fldP x p false i,x)
theorem jbm {p:jn} {h:HdP} (e:JA p h=true):Jb h=true/\h.c=p.cls/\h.r+h.w+1<=p.size:=by
 simp only[JA,Bool.and_eq_true,decide_eq_true_eq] at e;exact e
theorem jb1 {x:List Int} {p:jn} {h:HdP} (e:headP x p=some h):jbH (wAt x p.addr).toNat=some h/\JA p h=true:=by
 unfold headP at e
 cases hg:jbH (wAt x p.addr).toNat with
 |none=>rw [hg] at e;cases e
 |some h'=>
  rw[hg] at e;dsimp only at e
  split at e
  ·cases e;exact⟨rfl,by assumption⟩
  ·cases e
theorem J7 {x:List Int} {p:jn} {ref:Bool} {i:Int} (e:fldP x p ref i=0):0<=i/\fAt p i<p.addr+p.size/\p.addr<fAt p i:=by
 unfold fldP at e
 cases hh:headP x p with
 |none=>rw [hh] at e;simp at e
 |some h=>
  rw[hh] at e;dsimp only at e
  obtain⟨_,hl⟩:=jb1 hh
  obtain⟨hm,_,hs⟩:=jbm hl
  split at e
  ·rename_i hc
   simp only[Jb,decide_eq_true_eq] at hm;unfold fAt
   omega
  ·omega
theorem jdz {x:List Int} {p:jn} (h:p.addr+p.size<=x.length):(JH x p).length=x.length:=jdp bc h
theorem je6 {x:List Int} {p:jn} {h:HdP} (hp:p.addr+p.size<=x.length):(makeP x p h).2.length=x.length:=by
 unfold makeP;split
 ·split
  ·rfl
  ·simp only[List.length_set];exact jdz hp
 ·rfl
theorem jhX {x:List Int} {n:Nat} {p:jn} {i to:Int}:(Jp x n p i to).2.length=x.length:=by
 unfold Jp;split
 ·rfl
 ·split
  ·simp
  ·rfl
theorem jk4 {x:List Int} {p:jn} {i w:Int}:(J6 x p i w).2.length=x.length:=by
 unfold J6;split
 ·simp
 ·rfl
theorem putW_bnd {h:HdP} (hm:Jb h=true):0<=jbW h/\jbW h<18446744073709551616:=by
 simp only[Jb,decide_eq_true_eq] at hm;unfold jbW putN
 have e1:(2:Nat)^16=65536:=by decide
 have e2:(2:Nat)^32=4294967296:=by decide
 have e3:(2:Nat)^48=281474976710656:=by decide
 have e4:(2:Nat)^56=72057594037927936:=by decide
 rw[e1,e2,e3,e4];omega
theorem jfk {x:List Int} {p:jn} {h:HdP} (hx:JF x):JF (makeP x p h).2:=by
 unfold makeP;split
 ·rename_i hl
  split
  ·exact hx
  ·exact(JF.cleared hx).set (putW_bnd (jbm hl).1)
 ·exact hx
theorem jlv {x:List Int} {p:jn} {i w:Int} (hx:JF x) (hw:0<=w/\w<18446744073709551616):JF (J6 x p i w).2:=by
 unfold J6;split
 ·exact hx.set hw
 ·exact hx
theorem jio {x:List Int} {n:Nat} {p:jn} {i to:Int} (hx:JF x) (hn:n<=1000000):JF (Jp x n p i to).2:=by
 unfold Jp;split
 ·exact hx
 ·split
  ·exact hx.set bc
  ·exact hx
def usedL:List jn->List Bool->Nat
 | [],_=>0
 |_,[]=>0
 |p::l,b::A=>(if b then p.size else 0)+usedL l A
theorem jeS: ∀ {l:List jn} {A:List Bool} {i:Nat} {p:jn} (v:Bool),l[i]?=some p->i<A.length->usedL l (A.set i v)+(if A[i]?=some true then p.size else 0)=usedL l A+(if v then p.size else 0)
 |p::l,b::A,0,p',v,h,hA=>by
  simp at h;subst h
  simp[usedL];omega
 |p::l,b::A,i+1,p',v,h,hA=>by
  simp only[List.getElem?_cons_succ] at h
  have:=jeS (l:=l) (A:=A) (i:=i) v h (by simpa using hA)
  simp only[List.set_cons_succ,usedL,List.getElem?_cons_succ]
  omega
 | [],A,i,p',v,h,hA=>by simp at h
theorem jki {B:Nat}: ∀ {l:List jn} {A:List Bool},(∀ p∈l,p.size<=B)->usedL l A<=l.length*B
 | [],A,_=>by simp[usedL]
 |p::l,[],_=>by simp[usedL]
 |p::l,b::A,h=>by
  have h1:=jki (l:=l) (A:=A) (fun q hq=>h q (.tail _ hq))
  have h2:=h p (.head _)
  simp only[usedL,List.length_cons,Nat.succ_mul]
  split<;>omega
theorem ji0: ∀ {l:List jn} {n:Nat},usedL l (List.replicate n false)=0
 | [],n=>by cases n<;>simp[usedL,List.replicate]
 |p::l,0=>rfl
 |p::l,n+1=>by simp[usedL,List.replicate_succ,ji0 (l:=l) (n:=n)]
def jaR (A:List Bool) (first many:Nat):Option Nat:=((List.range many).map (first+ ·)).find? fun i=>(A[i]?).getD true=false
theorem jcA {A:List Bool} {f m i:Nat} (h:jaR A f m=some i):f<=i/\i<f+m/\A[i]?=some false/\ ∀ j,f<=j->j<i->A[j]?≠some false:=by
 unfold jaR at h;rw[List.find?_eq_some_iff_append] at h
 obtain⟨hp,la,lb,he,hn⟩:=h
 have hl:la.length+(lb.length+1)=m:=by have:=congrArg List.length he;simpa using this.symm
 have hi:i=f+la.length:=by
  have h2:((List.range m).map (f+ ·))[la.length]?=some i:=by rw[he];simp
  rw[List.getElem?_map,List.getElem?_range bc] at h2
  simpa using h2.symm
 refine⟨by omega,by omega,?_,?_⟩
 ·cases hx:A[i]? with
  |none=>rw [hx] at hp;simp at hp
  |some b=>rw [hx] at hp;simp at hp;rw [hp]
 ·intro j hj1 hj2 hj
  have h2:((List.range m).map (f+ ·))[j-f]?=some j:=by
   rw[List.getElem?_map,List.getElem?_range bc];simp;omega
  rw[he,List.getElem?_append_left bc] at h2
  have:=hn j (List.mem_of_getElem? h2)
  rw[hj] at this
  simp at this
theorem jiJ {A:List Bool} {f m:Nat} (h:jaR A f m=none): ∀ j,f<=j->j<f+m->A[j]?≠some false:=by
 intro j h1 h2 hj;unfold jaR at h;rw[List.find?_eq_none] at h;refine h j ?_ (by rw[hj];rfl);exact List.mem_map.2 ⟨j-f,List.mem_range.2 bc,by omega⟩
theorem free_is {A:List Bool} {f m i:Nat} (h1:f<=i) (h2:i<f+m) (h3:A[i]?=some false) (h4: ∀ j,f<=j->j<i->A[j]?≠some false):jaR A f m=some i:=by
 cases hf:jaR A f m with
 |none=>exact absurd h3 (jiJ hf i h1 h2)
 |some j=>
  obtain⟨g1,g2,g3,g4⟩:=jcA hf
  rcases Nat.lt_trichotomy i j with h|h|h
  ·exact absurd h3 (g4 i h1 h)
  ·rw[h]
  ·exact absurd g3 (h4 j g1 h)
theorem jhi {A:List Bool} {f m:Nat} (h: ∀ j,f<=j->j<f+m->A[j]?≠some false):jaR A f m=none:=by
 cases hf:jaR A f m with
 |none=>rfl
 |some j=>
  obtain⟨g1,g2,g3,g4⟩:=jcA hf
  exact absurd g3 (h j g1 g2)
def jX (g:PlG) (A:List Bool) (k:Int):Int × Int × List Bool:=
 if 0<=k/\k<(g.m:Nat) then
  match jaR A (g.first k.toNat) (g.n k.toNat) with
  |some i=>(i,0,A.set i true)
  |none=>(0,6,A)
 else(0,2,A)
def jbC:List Bool->List Bool->Bool
 |a::A,d::D=>(!d||a)&&jbC A D
 |_,_=>true
def ja1:List Bool->List Bool->List Bool
 |a::A,d::D=>(a&&!d)::ja1 A D
 |A,_=>A
def jah (A D:List Bool):Int × List Bool:=if D.length=A.length then(if jbC A D then(0,ja1 A D) else(9,A)) else(2,A)
