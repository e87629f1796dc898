/-The walker and the contracts that the law needs,part 26. -/
import Derived.Test.YtebiafomiemgbaaGreatDoorJ23
import Derived.Test.YtebiafomiemgbaaGreatDoorJ25
set_option linter.unusedVariables false set_option linter.unusedSimpArgs false set_option linter.unusedVariables false
set_option linter.unusedSimpArgs false
namespace Go.Proofs.YtebiafomiemgbaaGreatDoor.Sw
set_option maxHeartbeats 8000000
open Go.Proofs.YtebiafomiemgbaaGreatDoor renaming lo → qL, hi → qH
open Go.RowKit
set_option maxRecDepth 10000
theorem Of0_K {w0:World} {F:jb} {p:jZ} {k:Nat} (ok:jaS p) (hk:k<p.g.m):
  Call Tryz.prog w0 251 [.pointer (some ⟨p.b,0,none⟩), .int .i64 (k:Nat)] (planH p++F) (fun r H'=>r= .tuple [.int .i64 (p.g.first k:Nat), .int .i64 (p.g.n k:Nat), .int .i64 0].toArray∧H'=planH p++F):=by
 have ho:=ok.o
 have hpl:p.g.parts.length=p.g.m:=jdW
 have hkl:k<p.g.parts.length:=by omega
 have hge: ¬((k:Nat):Int)≥((p.g.parts.length:Nat):Int):=by omega
 have hx:p.g.parts[k]?=some (p.g.pt k):=jey hk
 refine Call.enter2 (n:=38) (by rfl) Tryz.func251 rfl rfl rfl ?_;refine zL ?_;refine zt ?_;refine zd8 ?_;refine zi5 ?_;simp only[Jm];refine zck ?_;refine zc9 ?_;refine zbI ?_;refine zfo ?_;refine zdX ?_;refine zbC ?_;refine K.drawn [] [(0,0),(1,0),(2,0),(3,0),(4,0),(5,0),(6,0),(7,0),(8,0),(9,0),(10,0),(11,0),(12,0),(13,0),(14,0),(15,0),(16,0),(17,0),(18,0)] (by rfl) (by rfl) (by kernel_rfl) (by rfl) (by rfl) (by rfl) Part.nil ?_;refine zhC ?_;refine zcI ?_;refine KD.v0 rfl rfl (Val.fieldSl (k:=1) rfl rfl) ?_;refine zlR ?_;refine zhC ?_;refine zcI ?_;refine zor ?_;refine zlR ?_;refine ziW ?_;refine zgF ?_;exact zeX
theorem Of0_E {w0:World} {F:jb} {p:jZ} {k:Int} (ok:jaS p) (hk: ¬(0≤k∧k<(p.g.m:Nat))):
  Call Tryz.prog w0 251 [.pointer (some ⟨p.b,0,none⟩), .int .i64 k] (planH p++F) (fun r H'=>r= .tuple [.int .i64 0, .int .i64 0, .int .i64 2].toArray∧H'=planH p++F):=by
 have ho:=ok.o
 have hpl:p.g.parts.length=p.g.m:=jdW
 refine Call.enter2 (n:=38) (by rfl) Tryz.func251 rfl rfl rfl ?_
 by_cases h0:k<0
 ·refine zfg ?_;refine zli ?_;refine zd8 ?_;refine zi5 ?_;simp only[Jm];refine zd0 ?_;refine zI ?_;refine zdJ ?_;refine zA ?_;refine zd5 ?_;refine zt ?_;refine zab ?_;refine zbG ?_;exact zeX
 ·have hge:k≥((p.g.parts.length:Nat):Int):=by omega
  refine zL ?_;refine zt ?_;refine zd8 ?_;refine zi5 ?_;simp only[Jm];refine zck ?_;refine zc9 ?_;refine zbI ?_;refine ze9 ?_;refine zac ?_;refine zx ?_;refine zd5 ?_;refine zt ?_;refine zab ?_;refine zbG ?_;exact zeX
def jce (g:PlG) (k:Nat):List PartP:=(List.range k).map g.pt
theorem pts_succ (g:PlG) (k:Nat):jce g k++ [g.pt k]=jce g (k+1):=by simp[jce,List.range_succ]
theorem pts_len (g:PlG) (k:Nat):(jce g k).length=k:=by simp[jce]
structure NwS where
 k:Nat
 o:Own
theorem pNew_K {w0:World} {F:jb} {c:Cfg} {vc vt:Value} {t:Int} (hR:Jc w0 F c vc vt) (ht:JB c t 0=true):
  Call Tryz.prog w0 108 [jr c vc vt, .int .i64 t] F (fun r H'=> ∃ p:jZ,jaS p∧p.g=gOf c t∧r= .tuple [.pointer (some ⟨p.b,0,none⟩), .int .i64 0].toArray∧H'=planH p++F):=by
 have ga:=g_at ht
 obtain⟨g,hg⟩: ∃ g,g=gOf c t:=⟨_,rfl⟩
 rw[←hg] at ga⊢
 have hreg:=fun A (hp:Part A F)=>jlT (t:=t) (hR.part hp)
 have hsl:=fun A (k:Nat) (hp:Part A F)=>Slots_K (t:=t) (k:=(k:Nat)) (hR.part hp)
 have hpg:=fun A (k:Nat) (hp:Part A F)=>Pages_K (t:=t) (k:=(k:Nat)) (hR.part hp)
 rw[ga.region] at hreg
 have ok:=ga.ok
 have hm:=ok.m
 have hgm:=ga.m
 have hgy:=ga.y
 have hgs:=ga.slots
 have hgp:=ga.pages
 have hgpg:=ga.page
 have hpgl:=ok.pg
 obtain⟨hS,hT',o1,o2,l1,l2⟩:=hR
 obtain⟨cl,page,tn,workers,grey,gens⟩:=c
 dsimp only at hS hT' l1 l2 hgm hgy hgpg;simp only[jr,jG] at hreg hsl hpg⊢;subst hgpg;simp only[prV] at hreg hsl hpg;clear ga hg ht
 have f0:g.first 0=0:=rfl
 have q0:g.page 0=0:=rfl
 refine Call.enter2 (n:=92) (by kernel_rfl) Tryz.func108 rfl rfl rfl ?_;refine zb7 ?_;intro b2;refine zg8 ?_;refine jp (hreg _ ja) ?_;refine zY ?_;refine zbR ?_;refine zK ?_;refine zae ?_;refine zci ?_;intro b27;refine zbX ?_;refine zjZ ?_;refine zbj ?_;refine K.loopT (σ:=NwS) [(1,_),(2,_),(8,_),(29,_),(30,_)] (fun s kp_=>(31, .int .i64 (s.k:Nat))::kp_) (fun s=>(b27,cells [oV s.o (jce g s.k).length, .int .i64 (g.first s.k:Nat), .int .i64 (g.page s.k:Nat), .int .i64 (g.pg:Nat)] 215)::(oH je0 217 (jce g s.k) s.o++((b2,cells [vc, .int .i64 (g.pg:Nat),vt, .int .i64 workers, .int .i64 grey, .int .i64 gens] 25)::F))) (fun s=>s.k≤g.m∧oOk je0 (jce g s.k) s.o) (fun s=>g.m-s.k) (⟨0,none⟩) jc ja (⟨Nat.zero_le _,rfl⟩) ?_;rintro⟨k,o⟩ ⟨hk,hok⟩;dsimp only at hk hok⊢
 by_cases hlt:k<g.m
 ·obtain⟨y,hy⟩:=jh (l:=cl) (k:=k) (by omega)
  have hyk:=hgy k y hy
  subst hyk
  have hkl:k<cl.length:=by omega
  have hsl1:=fun A hp=>hsl A k hp
  have hpg1:=fun A hp=>hpg A k hp
  rw[hgs k hlt] at hsl1;rw[hgp k hlt] at hpg1
  have y1:=ok.y k hlt
  have hper:((g.pg:Nat):Int)/((g.y k:Nat):Int)=((g.per k:Nat):Int):=rfl
  have b1:=ok.first (show k≤g.m by omega)
  have b2':=ok.page (show k≤g.m by omega)
  have b3:=ok.n hlt
  have b4:=ok.pgs hlt
  have e1:((g.first k:Nat):Int)+((g.n k:Nat):Int)=((g.first (k+1):Nat):Int):=rfl
  have e2:((g.page k:Nat):Int)+((g.pgs k:Nat):Int)=((g.page (k+1):Nat):Int):=rfl
  have hptl:=pts_len g k
  have hptb:(jce g (k+1)).length≤4294967296:=by rw[pts_len];omega
  dsimp only at hsl1 hpg1;clear hsl hpg hgs hgp hgy;refine zid ?_;refine zfP ?_;refine zt ?_;refine zah ?_;refine zgz ?_;refine jp (hsl1 _ ja) ?_;refine zcC ?_;refine zgz ?_;refine jp (hpg1 _ ja) ?_;refine zY ?_;refine zU ?_;refine zJ ?_
  (first|refine K.seq (K.drawn ((b27,cells [oV o (jce g k).length, .int .i64 (g.first k:Nat), .int .i64 (g.page k:Nat), .int .i64 (g.pg:Nat)] 215)::[]) [(0,1),(1,1),(2,1),(3,1),(4,1),(5,0),(6,0),(7,0),(8,0),(9,0),(10,0),(11,0),(12,0),(13,0),(14,0),(15,0),(16,0),(17,0),(18,0),(19,0),(20,2),(21,2),(22,0),(23,0),(24,4)] (by kernel_rfl) (by kernel_rfl) (by kernel_rfl) (by kernel_rfl) (by kernel_rfl) (by kernel_rfl) ja ?_)|refine K.seq (K.seq (K.drawn ((b27,cells [oV o (jce g k).length, .int .i64 (g.first k:Nat), .int .i64 (g.page k:Nat), .int .i64 (g.pg:Nat)] 215)::[]) [(0,1),(1,1),(2,1),(3,1),(4,1),(5,0),(6,0),(7,0),(8,0),(9,0),(10,0),(11,0),(12,0),(13,0),(14,0),(15,0),(16,0),(17,0),(18,0),(19,0),(20,2),(21,2),(22,0),(23,0),(24,4)] (by kernel_rfl) (by kernel_rfl) (by kernel_rfl) (by kernel_rfl) (by kernel_rfl) (by kernel_rfl) ja ?_))|refine K.drawn ((b27,cells [oV o (jce g k).length, .int .i64 (g.first k:Nat), .int .i64 (g.page k:Nat), .int .i64 (g.pg:Nat)] 215)::[]) [(0,1),(1,1),(2,1),(3,1),(4,1),(5,0),(6,0),(7,0),(8,0),(9,0),(10,0),(11,0),(12,0),(13,0),(14,0),(15,0),(16,0),(17,0),(18,0),(19,0),(20,2),(21,2),(22,0),(23,0),(24,4)] (by kernel_rfl) (by kernel_rfl) (by kernel_rfl) (by kernel_rfl) (by kernel_rfl) (by kernel_rfl) ja ?_)
  refine zP ?_;refine zpJ ?_;refine zgr ?_;refine zgt ?_;refine zgr ?_;refine zeZ ?_;refine zaC ?_;refine zgt ?_;refine zo ?_
  (first|refine KD.v0 rfl rfl (Val.quoN rfl rfl (by simp only[qH];omega)) ?_|refine KD.v0 rfl rfl (Val.quo rfl rfl (by omega)) ?_)
  refine zbT ?_;refine zos ?_;intro b70;refine zcp ?_
  -- STOP at region 10 op 21: {"h": "Op.call", "a": [{"callee": {"h": "Callee.builtin", "a": ["Builtin.append"]}, "args": [{"h": "Operand.tmp", "a": [54]}, {"h": "Operand.tmp", "a": [70]}], "argTypes": [213, 213]}]}
  refine KD.e rfl rfl (Eff.appZ (E:=je0) (xs:=jce g k) (o:=o) (ys:=[g.pt k]) (zs:=jce g (k+1)) rfl rfl rfl rfl rfl rfl jj (by assumption) (by first|exact Sli.blk ju rfl (by first|decide|simp) (by first|decide|(unfold maxLen;omega)) rfl|exact Sli.old (by assumption)|exact Sli.own jj (by assumption) jF|assumption|exact Sli.part (by assumption) ja) (pts_succ g k) (by first|assumption|omega|(simp<;>fail)|(simp;omega)) rfl) ?_;rintro _ _ ⟨o',ok',rfl,rfl⟩;refine⟨ja,?_⟩;refine zbm ?_;refine zhV ?_;refine zsh ?_;refine zdj ?_;refine zF ?_;refine zae ?_;refine zeo ?_;refine zS ?_;refine zdQ ?_;refine zaq ?_;refine zed ?_;refine zF ?_;refine zaa ?_;refine zeo ?_;refine zS ?_;refine zaz ?_;refine zdW ?_;refine zb0 ?_;rw[e1,e2];exact KE.again ⟨k+1,o'⟩ jc ja ⟨hlt,ok'⟩ (by show g.m-(k+1)<g.m-k;omega)
 ·have hke:k=g.m:=by omega
  subst hke;refine zc5 ?_;refine zbw ?_;refine zab ?_;exact KE.fin (H':=planH ⟨b27,g,o⟩++F) je rfl jd (by rw[Jm];exact ja) ⟨⟨b27,g,o⟩,⟨ok,hok⟩,rfl,rfl,rfl⟩
set_option maxRecDepth 10000
structure ArM where
 b:Nat
 r:jaM
def j7 (a:ArM) (p:jZ):jb:=(a.b,cells [.pointer (some ⟨p.b,0,none⟩), .pointer (some ⟨a.r.b,0,none⟩), .int .i64 (usedL p.g.L a.r.bs:Nat)] 131)::jN a.r
theorem arenaH_app {a:ArM} {p:jZ} {F:jb}:j7 a p++F=(a.b,cells [.pointer (some ⟨p.b,0,none⟩), .pointer (some ⟨a.r.b,0,none⟩), .int .i64 (usedL p.g.L a.r.bs:Nat)] 131)::(jN a.r++F):=rfl
structure jaE (a:ArM) (p:jZ):Prop where
 pl:jaS p
 r:RowOk a.r
 n:a.r.bs.length=p.g.slots
theorem jgO {a:ArM} {p:jZ} (ok:jaE a p) (A:List Bool):usedL p.g.L A≤1048576:=by
 have h:=used_le (B:=64) (l:=p.g.L) (A:=A) (fun q hq=>by
  obtain⟨i,hi⟩:=List.getElem?_of_mem hq
  exact(ok.pl.g.fits hi).2.2.1)
 have:=ok.pl.g.slots.2
 grind[jdU]
def setA (a:ArM) (i:Nat) (v:Bool):ArM:=⟨a.b,JR a.r i v⟩
theorem setA_ok {a:ArM} {p:jZ} (ok:jaE a p) (i:Nat) (v:Bool):jaE (setA a i v) p:=⟨ok.pl,jeL ok.r i v,by simp[setA,JR,ok.n]⟩
theorem jfn {w0:World} {F:jb} {a:ArM} {p:jZ}:
  Call Tryz.prog w0 62 [.pointer (some ⟨a.b,0,none⟩)] (j7 a p++F) (fun r H'=>r= .bool false∧H'=j7 a p++F):=by
 refine Call.enter1 (n:=12) (by rfl) Tryz.func62 rfl rfl rfl ?_;simp only[Jw,arenaH_app];refine zeA ?_;refine zbK ?_;refine zea ?_;exact zsi
theorem Has_K {w0:World} {F:jb} {a:ArM} {p:jZ} {i:Int} (ok:jaE a p):
  Call Tryz.prog w0 185 [.pointer (some ⟨a.b,0,none⟩), .int .i64 i] (j7 a p++F) (fun r H'=>r= .bool (getB a.r.bs i)∧H'=j7 a p++F):=by
 have okr:=ok.r
 refine Call.enter2 (n:=16) (by rfl) Tryz.func185 rfl rfl rfl ?_;refine zbL ?_;refine jp (jfn (a:=a) (p:=p)) ?_;simp only[Jw,arenaH_app];refine zag ?_;refine zaY ?_;refine zbK ?_;refine zQ ?_;refine zp ?_;refine jn (Get_K (i:=i) okr) ja ?_;simp only[Jw,Jm];refine zdh ?_;exact zsi
theorem aCopy_K {w0:World} {F:jb} {a:ArM} {p:jZ} (ok:jaE a p):
  Call Tryz.prog w0 144 [.pointer (some ⟨a.b,0,none⟩)] (j7 a p++F) (fun r H'=> ∃ a':ArM,jaE a' p∧a'.r.bs=a.r.bs∧r= .pointer (some ⟨a'.b,0,none⟩)∧H'=j7 a' p++(j7 a p++F)):=by
 have okr:=ok.r
 refine Call.enter1 (n:=20) (by rfl) Tryz.func144 rfl rfl rfl ?_;refine zaf ?_;refine jp (jfn (a:=a) (p:=p)) ?_;simp only[Jw,arenaH_app];refine zb8 ?_;refine K.drawn _ [(0,1),(1,1),(2,1),(3,1),(4,0),(5,0),(6,0),(7,0),(9,1),(10,1),(11,1),(12,1),(8,2),(13,0),(14,2),(15,0)] (by rfl) (by rfl) (by kernel_rfl) (by rfl) (by rfl) (by rfl) Part.all ?_;refine zeP ?_;refine zcX ?_;refine zgE ?_;refine zeP ?_;refine zft fun T hT=>?_;refine(CallV.part (CallV.fn (ji8 okr)) ja).mono ?_;rintro _ _ ⟨r',kr',hbs,rfl,rfl⟩;refine zi ?_;clear hT T;simp only[Jw,Jm];refine zrV ?_;intro b19;refine zpO ?_;exact KE.fin (H':=j7 ⟨b19,r'⟩ p++(j7 a p++F)) je rfl jd (by simp only[arenaH_app,Jw,hbs];exact ja) ⟨⟨b19,r'⟩,⟨ok.pl,kr',by rw[hbs];exact ok.n⟩,hbs,rfl,rfl⟩
theorem aNew_K {w0:World} {F:jb} {p:jZ} (ok:jaS p):
  Call Tryz.prog w0 110 [.pointer (some ⟨p.b,0,none⟩)] (planH p++F) (fun r H'=> ∃ a:ArM,jaE a p∧a.r.bs=List.replicate p.g.slots false∧r= .tuple [.pointer (some ⟨a.b,0,none⟩), .int .i64 0].toArray∧H'=j7 a p++(planH p++F)):=by
 have hs:=ok.g.slots
 have hne: ¬((p.g.slots:Nat):Int)=0:=by omega
 refine Call.enter1 (n:=20) (by rfl) Tryz.func110 rfl rfl rfl ?_;refine zhx ?_;refine jp (jeI ok) ?_;refine zC ?_;refine zrP ?_;refine jp (jeI ok) ?_;refine zp ?_;refine JY (jgk (n:=p.g.slots) (by omega)) ?_;rintro _ _ ⟨r,kr,hbs,rfl,rfl⟩;refine ziF ?_;refine zci ?_;intro b18;refine zj ?_;refine zab ?_
 have hu:usedL p.g.L r.bs=0:=by grind[jkS]
 exact KE.fin (H':=j7 ⟨b18,r⟩ p++(planH p++F)) je rfl jd (by simp only[arenaH_app,hu];exact ja) ⟨⟨b18,r⟩,⟨ok,kr,by grind⟩,hbs,rfl,rfl⟩
theorem turn_K {w0:World} {F:jb} {a:ArM} {p:jZ} {i:Nat} {v:Bool} {x:jq} {g:FuncId} {cap:List Value} {u:Int} (ok:jaE a p) (hx:p.g.L[i]?=some x) (hu:u=(usedL p.g.L (a.r.bs.set i v):Nat))
  (hf: ∀ H',Part H' ((a.b,cells [.pointer (some ⟨p.b,0,none⟩), .pointer (some ⟨a.r.b,0,none⟩), .int .i64 (usedL p.g.L a.r.bs:Nat)] 131)::F)→CallV Tryz.prog w0 (.func (.func g) #[] cap.toArray) [.int .i64 (x.size:Nat)] H' (fun r H''=>r= .int .i64 u∧H''=H')):
  Call Tryz.prog w0 253 [.pointer (some ⟨a.b,0,none⟩), .int .i64 (i:Nat), .bool v, .func (.func g) #[] cap.toArray] (j7 a p++(planH p++F)) (fun r H'=>r= .tuple #[]∧H'=j7 (setA a i v) p++(planH p++F)):=by
 have okr:=ok.r
 have okp:=ok.pl
 have hil:i<a.r.bs.length:=by rw[ok.n,←jdU];grind
 refine Call.enter4 (n:=32) (by rfl) Tryz.func253 rfl rfl rfl ?_;simp only[Jw,Jm,arenaH_app];refine zG ?_;refine zF ?_;refine zN ?_;refine zz fun T hT=>?_;refine(CallV.part (CallV.fn (Size0_K okp hx)) (by first|exact ja|(simp only[Jw,Jm,arenaH_app];exact ja))).mono ?_;rintro _ _ ⟨rfl,rfl⟩;refine ze ?_;clear hT T;simp only[Jm];refine zcC ?_;refine zF ?_;refine zae ?_;refine za9 fun T hT=>?_;refine(CallV.part (CallV.fn (je5 (v:=v) okr hil)) (by first|exact ja|(simp only[Jw,Jm,arenaH_app];exact ja))).mono ?_;rintro _ _ ⟨rfl,rfl⟩;refine ze ?_;clear hT T;refine zed ?_;refine zB ?_;refine zz fun T hT=>?_;refine(hf _ ja).mono ?_;rintro _ _ ⟨rfl,rfl⟩;refine ze ?_;clear hT T;refine zS ?_;refine zaz ?_;refine zdW ?_;subst hu;exact KE.finN (H':=j7 (setA a i v) p++(planH p++F)) je rfl jd (by simp only[arenaH_app,Jm,setA];exact ja) ⟨rfl,rfl⟩
open Go.RowKit
set_option maxRecDepth 10000
theorem jmM {A:List Bool} {f m:Nat}:jb8 A f m=match nextB A f false with
  |some i=>if i<f+m then some i else none
  |none=>none:=by
 grind[nextB,hi,free_no,h1,h2,h3,jv,jd4,free_is]
theorem Take_K {w0:World} {F:jb} {a:ArM} {p:jZ} {k:Int} (hG:ji w0) (ok:jaE a p):
  Call Tryz.prog w0 195 [.pointer (some ⟨a.b,0,none⟩), .int .i64 k] (j7 a p++(planH p++F)) (fun r H'=>r= .tuple [.int .i64 (takeP p.g a.r.bs k).1, .int .i64 (takeP p.g a.r.bs k).2.1].toArray∧ ∃ a':ArM,jaE a' p∧a'.b=a.b∧a'.r.b=a.r.b∧a'.r.bs=(takeP p.g a.r.bs k).2.2∧H'=j7 a' p++(planH p++F)):=by
 have okr:=ok.r
 have okp:=ok.pl
 by_cases hk:0≤k∧k<(p.g.m:Nat)
 ·obtain⟨k,rfl⟩: ∃ q:Nat,k=q:=⟨k.toNat,by omega⟩
  have hkm:k<p.g.m:=by omega
  have hfi:=okp.g.first (Nat.le_of_lt hkm)
  have hni:=okp.g.n hkm
  have htk:takeP p.g a.r.bs (k:Nat)=match jb8 a.r.bs (p.g.first k) (p.g.n k) with|some i=>((i:Nat),0,a.r.bs.set i true)|none=>(0,6,a.r.bs):=by
   grind[takeP]
  have hsum:((p.g.first k:Nat):Int)+((p.g.n k:Nat):Int)=((p.g.first k+p.g.n k:Nat):Int):=by omega
  refine Call.enter2 (n:=49) (by rfl) Tryz.func195 rfl rfl rfl ?_;refine zb7 ?_;intro b2;refine zaI ?_;refine jn (jfn (a:=a) (p:=p)) ja ?_;rw[arenaH_app];refine zK ?_;refine za0 ?_;refine ziS ?_;refine jn (Of0_K okp hkm) ja ?_;refine zfv ?_;refine zaj ?_;refine zK ?_;refine za0 ?_;refine zae ?_;refine zz fun T hT=>?_;refine(CallV.part (CallV.fn (jhz (k:=p.g.first k) (v:=false) okr hG (by omega))) ja).mono ?_;rintro _ _ ⟨rfl,rfl⟩;rw[jmM] at htk
  cases hnx:nextB a.r.bs (p.g.first k) false with
  |none=>
   rw[hnx] at htk;dsimp only at htk;unfold nxI;dsimp only[Option.isSome,Option.getD];refine ze ?_;clear hT T;rw[htk];refine zbi ?_;refine zag ?_;refine zcD ?_;refine zbh ?_;refine zcW ?_;exact zqw
  |some i=>
   rw[hnx] at htk;dsimp only at htk;unfold nxI;dsimp only[Option.isSome,Option.getD]
   obtain⟨n1,n2,n3,n4⟩:=jd4 hnx
   by_cases hin:i<p.g.first k+p.g.n k
   ·rw[if_pos hin] at htk;dsimp only at htk
    have hnge: ¬((i:Nat):Int)≥((p.g.first k:Nat):Int)+((p.g.n k:Nat):Int):=by omega
    obtain⟨x,hx⟩:=j9 (g:=p.g) (i:=i) (by rw[←ok.n];omega)
    have hus:=jfX (v:=true) hx n1
    have hi:a.r.bs[i]?=some false:=by
     grind
    rw[hi] at hus;simp only[Option.some.injEq,Bool.false_eq_true,if_false,if_true] at hus
    have hub:=jgO ok (a.r.bs.set i true)
    have hua:=jgO ok a.r.bs
    refine ze ?_;clear hT T;rw[htk];refine zbi ?_;refine zy ?_;refine zkh ?_;refine zaB ?_;refine zl ?_;refine zhm ?_;refine zw ?_;refine zj ?_;refine zbk fun T hT=>?_;refine(CallV.part (CallV.fn (turn_K (F:=(b2,cells [.pointer (some ⟨a.b,0,none⟩)] 62)::F) (v:=true) (g:=254) (cap:=[.pointer (some ⟨b2,0,none⟩)]) ok hx rfl ?_)) (by first|exact ja|(simp only[Jw,Jm,arenaH_app];exact ja))).mono ?_
    ·intro H' hp;refine zql ?_
     have s1:jJ w0 H' ⟨b2,0,none⟩ (.pointer (some ⟨a.b,0,none⟩)):=(jJ.cell (H:=(a.b,cells [.pointer (some ⟨p.b,0,none⟩), .pointer (some ⟨a.r.b,0,none⟩), .int .i64 (usedL p.g.L a.r.bs:Nat)] 131)::(b2,cells [.pointer (some ⟨a.b,0,none⟩)] 62)::F) ju rfl).more hp
     have s2:jJ w0 H' ⟨a.b,2,none⟩ (.int .i64 (usedL p.g.L a.r.bs:Nat)):=(jJ.cell (H:=(a.b,cells [.pointer (some ⟨p.b,0,none⟩), .pointer (some ⟨a.r.b,0,none⟩), .int .i64 (usedL p.g.L a.r.bs:Nat)] 131)::(b2,cells [.pointer (some ⟨a.b,0,none⟩)] 62)::F) ju rfl).more hp
     have hue:((usedL p.g.L (a.r.bs.set i true):Nat):Int)=((usedL p.g.L a.r.bs:Nat):Int)+((x.size:Nat):Int):=by omega
     rw[hue];refine Call.enter2 (n:=10) (by rfl) Tryz.func254 rfl rfl rfl ?_;refine zav ?_;refine zdm ?_;refine zS ?_;refine zaz ?_;refine zdm ?_;refine zle ?_;exact zq
    ·rintro _ _ ⟨rfl,rfl⟩;refine ze ?_;clear hT T;refine zcg ?_;refine zab ?_;exact KE.fin je rfl jd ja ⟨rfl,setA a i true,setA_ok ok i true,rfl,rfl,rfl,rfl⟩
   ·rw[if_neg hin] at htk;dsimp only at htk
    have hge:((i:Nat):Int)≥((p.g.first k:Nat):Int)+((p.g.n k:Nat):Int):=by omega
    refine ze ?_;clear hT T;rw[htk];refine zbi ?_;refine zy ?_;refine zkh ?_;refine zaB ?_;refine zl ?_;refine zcE ?_;refine zcW ?_;exact zqw
 ·have htk:takeP p.g a.r.bs k=(0,2,a.r.bs):=by grind[takeP]
  rw[htk];refine Call.enter2 (n:=49) (by rfl) Tryz.func195 rfl rfl rfl ?_;refine zb7 ?_;intro b2;refine zaI ?_;refine jn (jfn (a:=a) (p:=p)) ja ?_;rw[arenaH_app];refine zK ?_;refine za0 ?_;refine ziS ?_;refine jn (Of0_E okp hk) ja ?_;refine zfv ?_;refine zM ?_;refine zbP ?_;refine zcW ?_;exact zqw
theorem agive_K {w0:World} {F:jb} {a:ArM} {p:jZ} {i:Nat} (ok:jaE a p) (hi:a.r.bs[i]?=some true):
  Call Tryz.prog w0 345 [.pointer (some ⟨a.b,0,none⟩), .int .i64 (i:Nat)] (j7 a p++(planH p++F)) (fun r H'=>r= .tuple #[]∧H'=j7 (setA a i false) p++(planH p++F)):=by
 have n1:=jv hi
 obtain⟨x,hx⟩:=j9 (g:=p.g) (i:=i) (by rw[←ok.n];omega)
 have hus:=jfX (v:=false) hx n1
 rw[hi] at hus;simp only[Bool.false_eq_true,if_false,if_true] at hus
 have hua:=jgO ok a.r.bs
 refine Call.enter2 (n:=8) (by rfl) Tryz.func345 rfl rfl rfl ?_;refine zbY ?_;intro b2;refine zed ?_;refine zw ?_;refine zj ?_;refine zbk fun T hT=>?_;refine(CallV.part (CallV.fn (turn_K (F:=(b2,cells [.pointer (some ⟨a.b,0,none⟩)] 62)::F) (v:=false) (g:=347) (cap:=[.pointer (some ⟨b2,0,none⟩)]) ok hx rfl ?_)) ja).mono ?_
 ·intro H' hp;refine zql ?_
  have s1:jJ w0 H' ⟨b2,0,none⟩ (.pointer (some ⟨a.b,0,none⟩)):=(jJ.cell (H:=(a.b,cells [.pointer (some ⟨p.b,0,none⟩), .pointer (some ⟨a.r.b,0,none⟩), .int .i64 (usedL p.g.L a.r.bs:Nat)] 131)::(b2,cells [.pointer (some ⟨a.b,0,none⟩)] 62)::F) ju rfl).more hp
  have s2:jJ w0 H' ⟨a.b,2,none⟩ (.int .i64 (usedL p.g.L a.r.bs:Nat)):=(jJ.cell (H:=(a.b,cells [.pointer (some ⟨p.b,0,none⟩), .pointer (some ⟨a.r.b,0,none⟩), .int .i64 (usedL p.g.L a.r.bs:Nat)] 131)::(b2,cells [.pointer (some ⟨a.b,0,none⟩)] 62)::F) ju rfl).more hp
  have hue:((usedL p.g.L (a.r.bs.set i false):Nat):Int)=((usedL p.g.L a.r.bs:Nat):Int)-((x.size:Nat):Int):=by omega
  rw[hue];refine Call.enter2 (n:=10) (by rfl) Tryz.func347 rfl rfl rfl ?_;refine zav ?_;refine zdm ?_;refine zS ?_;refine zaz ?_;refine zdm ?_;refine zj ?_;refine zc0 ?_;exact zq
 ·rintro _ _ ⟨rfl,rfl⟩;refine ze ?_;clear hT T;refine zR ?_;exact zog
set_option maxRecDepth 10000
structure MpR (k:MkM) (B:BoM) (T:TbM) (N:PiM) (W:MwP):Prop where
 bo:jaD B W.x
 tb:TbOk T
 pi:PiOk N
 eT:T.l=W.T
 eN:N.l=W.N
 bb:k.bb=B.b
 tbb:k.tb=T.b
 nb:k.nb=N.b
 w:jad B.p.g W
theorem MpR.to {k k':MkM} {B:BoM} {T:TbM} {N:PiM} {W:MwP} (h:MpR k B T N W) (ht:MkTo k k'):MpR k' B T N W:=⟨h.bo,h.tb,h.pi,h.eT,h.eN,ht.bb.trans h.bb,ht.tb.trans h.tbb,ht.nb.trans h.nb,h.w⟩
def seenH (B:BoM) (T:TbM) (N:PiM):jb:=jT B++(jy B.m++(jK T++JX N))
theorem seenH_app {B:BoM} {T:TbM} {N:PiM} {F:jb}:seenH B T N++F=jT B++(jy B.m++(jK T++(JX N++F))):=by simp[seenH]
structure SkS where
 sl:Int
 is:Bool
section
variable {w0 : World} {F : jb} {k : MkM} {B : BoM} {T : TbM} {N : PiM} {W : MwP} {m : MaP}
theorem jks (hp:MpR k B T N W) (ok:MkOk k B.p):
  Call Tryz.prog w0 231 [.pointer (some ⟨k.b,0,none⟩)] (jt k B.p++(planH B.p++(seenH B T N++F))) (fun r H'=>r= .int .i64 ((W.T.length+B.p.g.slots:Nat):Int)∧H'=jt k B.p++(planH B.p++(seenH B T N++F))):=by
 have okT:=hp.tb
 have okp:=hp.bo.p
 have hsl:=okp.g.slots
 have hn:=okT.n
 have e1:=hp.tbb
 have hT:=hp.eT
 have e2:((T.l.length:Nat):Int)+((B.p.g.slots:Nat):Int)=((W.T.length+B.p.g.slots:Nat):Int):=by rw[hT];rfl
 have hlen:=fun A=>ji0 (w0:=w0) (F:=A) okT
 simp only[←e1] at hlen;refine Call.enter1 (n:=14) (by kernel_rfl) Tryz.func231 rfl rfl rfl ?_;simp only[js,seenH_app];refine zfd ?_;refine K.drawn _ [(0,0),(1,0),(2,0),(3,0),(5,1),(6,1),(7,1),(8,1),(4,2),(9,2),(10,0),(11,0)] (by kernel_rfl) (by kernel_rfl) (by kernel_rfl) (by kernel_rfl) (by kernel_rfl) (by kernel_rfl) Part.all ?_;refine zgA ?_;refine zeP ?_;refine ziZ ?_;refine zaJ ?_;refine zk fun T hT=>?_;refine(CallV.part (CallV.fn (hlen _)) ja).mono ?_;rintro _ _ ⟨rfl,rfl⟩;refine zi ?_;clear hT T;refine zk fun T hT=>?_;refine(CallV.part (CallV.fn (jeI okp)) ja).mono ?_;rintro _ _ ⟨rfl,rfl⟩;refine zi ?_;clear hT T;refine zn5 ?_;refine zbp ?_;rw[e2];exact zsj
theorem mkseek_K {hv:Value} (hp:MpR k B T N W) (ok:MkOk k B.p) (hR:MkR k B.p m) (hm:jL B.p.g k.g.ring.length W m):
  Call Tryz.prog w0 235 [.pointer (some ⟨k.b,0,none⟩),hv] (jt k B.p++(planH B.p++(seenH B T N++F)))
   (fun r H'=>r= .bool (jb5 B.p.g k.g.ring.length W m).isSome∧ ∃ k',MkOk k' B.p∧MkTo k k'∧MkR k' B.p ((jb5 B.p.g k.g.ring.length W m).getD m)∧H'=jt k' B.p++(planH B.p++(seenH B T N++F))):=by
 have okT:=hp.tb
 have okN:=hp.pi
 have okp:=hp.bo.p
 have hsl:=okp.g.slots
 have hn:=okT.n
 have e1:=hp.tbb
 have e3:=hp.nb
 have hT:=hp.eT
 have hNl:N.l.length=B.p.g.slots:=by rw[hp.eN];exact hp.w.N
 have hroots:=fun A=>jks (w0:=w0) (F:=A) hp ok
 have hrt:=hm.root
 have hr:=hR.root
 rw[←hr] at hrt
 have hTl:T.l.length=W.T.length:=by grind
 by_cases hlt:m.root<W.T.length+B.p.g.slots
 ·have hrm:jb5 B.p.g k.g.ring.length W m=some (J8 B.p.g k.g.ring.length {m with root:=m.root+1} (jU B.p.g W m.root)):=by unfold jb5;rw [if_pos hlt]
  rw[hrm,jjx];simp only[Option.isSome,Option.getD]
  have hne: ¬((k.root:Nat):Int)=((W.T.length+B.p.g.slots:Nat):Int):=by omega
  have hslot:=fun A=>tbSlot_K (w0:=w0) (F:=A) (i:=k.root) okT
  have hlen:=fun A=>ji0 (w0:=w0) (F:=A) okT
  simp only[←e1] at hslot hlen;refine Call.enter2 (n:=58) (by kernel_rfl) Tryz.func235 rfl rfl rfl ?_;simp only[js,seenH_app];refine zL ?_;refine zgS ?_;refine zsk ?_;refine zeP ?_;refine zl2 ?_;refine zaJ ?_;refine zd9 fun T hT=>?_;refine zot ?_;rintro _ _ ⟨rfl,rfl⟩;simp only[js,seenH_app];refine zi ?_;clear hT T;refine zkL ?_;refine zam ?_;refine KE.next (K.condF rfl (K.skip (KE.next (K.seq ?_))));refine K.drawn [] [(0,0),(1,0),(2,0),(3,0),(4,0),(5,0),(6,0),(7,0),(8,2),(9,0),(10,0),(11,0),(12,0),(13,0)] (by kernel_rfl) (by kernel_rfl) (by kernel_rfl) (by kernel_rfl) (by kernel_rfl) (by kernel_rfl) Part.nil ?_;refine zgA ?_;refine zgj ?_;refine zk fun T hT=>?_;refine(CallV.part (CallV.fn (hslot _)) (by first|exact ja|(simp only[js,seenH_app];exact ja))).mono ?_;rintro _ _ ⟨rfl,rfl⟩;refine zi ?_;clear hT T;refine zeH ?_;refine KE.next (K.seq (K.seq ?_));refine K.drawn _ [(0,1),(1,1),(2,1),(3,1),(4,0),(5,0),(6,0),(7,0),(8,2),(9,0),(10,0)] (by kernel_rfl) (by kernel_rfl) (by kernel_rfl) (by kernel_rfl) (by kernel_rfl) (by kernel_rfl) Part.all ?_;refine zeP ?_;refine zl2 ?_;refine zaJ ?_;refine zgA ?_;refine zk fun T hT=>?_;refine(CallV.part (CallV.fn (hlen _)) (by first|exact ja|(simp only[js,seenH_app];exact ja))).mono ?_;rintro _ _ ⟨rfl,rfl⟩;refine zi ?_;clear hT T;refine KD.v0 rfl rfl (Val.sub rfl rfl (by simp only[qL,qH];omega)) ?_;refine zcv ?_;refine zb9 ?_;refine K.cutE (σ:=SkS) [(0,_)] jc (fun s kp_=>(5, .int .i64 s.sl)::(6, .bool s.is)::kp_) (fun s=>jt k B.p++(planH B.p++(seenH B T N++F))) (fun s=>jU B.p.g W m.root=(if s.is=true then some s.sl else none)) ?_ ?_
  ·by_cases hrl:k.root<T.l.length
   ·have hat: ¬((k.root:Nat):Int)-((T.l.length:Nat):Int)≥0:=by omega
    have hro:jU B.p.g W m.root=slotT T.l (k.root:Nat):=by
     unfold jU slotT;rw[if_pos (show(0:Int)≤(k.root:Nat) by omega),Int.toNat_natCast,←hr,←hT]
     obtain⟨e,he⟩:=jh hrl
     rw[he]
    refine zaH ?_;refine zbS ?_;refine zat ?_;exact KE.meet ⟨(slotT T.l (k.root:Nat)).getD 0,(slotT T.l (k.root:Nat)).isSome⟩ jc (by first|exact ja|(simp only[js,seenH_app];exact ja)) (by rw[hro];cases slotT T.l (k.root:Nat)<;>rfl)
   ·have hj:((k.root:Nat):Int)-((T.l.length:Nat):Int)=((k.root-T.l.length:Nat):Int):=by omega
    have hat:((k.root-T.l.length:Nat):Int)≥0:=by omega
    obtain⟨c,hc⟩:=jh (l:=N.l) (k:=k.root-T.l.length) (by omega)
    have hcnt:=fun A=>jkj (w0:=w0) (F:=A) (s:=((k.root-T.l.length:Nat):Int)) okN
    rw[if_pos (by omega),Int.toNat_natCast,hc] at hcnt;simp only[Option.getD,←e3] at hcnt
    have hro:jU B.p.g W m.root=if decide (0<c)=true then some ((k.root-T.l.length:Nat):Int) else none:=by
     unfold jU;rw[←hr,←hT,←hp.eN,List.getElem?_eq_none (by omega)];dsimp only;rw[hc];simp only[Option.getD,decide_eq_true_eq]
    rw[hj];refine zaH ?_;refine zac ?_;refine zak ?_;refine zb6 ?_;refine zby ?_;refine zz fun T hT=>?_;refine(CallV.part (CallV.fn (hcnt _)) (by first|exact ja|(simp only[js,seenH_app];exact ja))).mono ?_;rintro _ _ ⟨rfl,rfl⟩;refine ze ?_;clear hT T;refine KL.v rfl (Val.gtr rfl rfl) ?_;refine zt ?_;refine zaK ?_;exact KE.meet ⟨((k.root-T.l.length:Nat):Int),decide (0<c)⟩ jc (by first|exact ja|(simp only[js,seenH_app];exact ja)) hro
  ·rintro⟨sl,is⟩ hro;dsimp only at hro⊢
   cases is with
   |true=>
    rw[if_pos rfl] at hro
    have hin:=jh3 hp.w hlt hro
    obtain⟨q,rfl⟩: ∃ q:Nat,sl=q:=⟨sl.toNat,by omega⟩
    rw[hro]
    have hsh:=fun A=>jia (w0:=w0) (F:=A) ok hR (s:=q) (by omega)
    obtain⟨m1,hm1⟩: ∃ m1,m1=J9 B.p.g k.g.ring.length m ((q:Nat):Int):=⟨_,rfl⟩
    have hm1r:m1.root=m.root:=by rw[hm1];exact(jiu _).2.1
    have hso:J8 B.p.g k.g.ring.length m (some ((q:Nat):Int))=m1:=hm1.symm
    rw[hso];simp only[←hm1] at hsh;refine zaF ?_;refine zak ?_;refine za9 fun T hT=>?_;refine(CallV.part (CallV.fn (hsh _)) ja).mono ?_;rintro _ _ ⟨rfl,k',kok,kto,kR,rfl⟩
    have hk'r:k'.root=k.root:=kR.root.trans (hm1r.trans hr.symm)
    have e5:((k'.root:Nat):Int)+1=((k'.root+1:Nat):Int):=by omega
    refine ze ?_;clear hT T;rw[←kto.b];simp only[js,seenH_app];refine zal ?_;refine znw ?_;refine zfk ?_;refine zc3 ?_;refine zgn ?_;rw[e5];exact KE.fin (H':=jt {k' with root:=k'.root+1} B.p++(planH B.p++(seenH B T N++F))) je rfl jd (by simp only[js,seenH_app];exact ja)
     ⟨rfl,{k' with root:=k'.root+1},⟨kok.c,kok.g,kok.n,kok.o,kok.hs⟩,⟨⟨kto.b,kto.bb,kto.tb,kto.nb,kto.n,kto.l⟩,kto.f,kto.cb,kto.gb,kto.o⟩,⟨kR.C,kR.G,kR.hs,by show k'.root+1=m.root+1;rw [hk'r,hr],kR.act,kR.steps⟩,by simp only[js,seenH_app]⟩
   |false=>
    rw[if_neg (by decide)] at hro;rw[hro]
    have hso:J8 B.p.g k.g.ring.length m none=m:=rfl
    rw[hso]
    have e5:((k.root:Nat):Int)+1=((k.root+1:Nat):Int):=by omega
    simp only[js,seenH_app];refine zaF ?_;refine zas ?_;refine ze1 ?_;refine zfk ?_;refine zc3 ?_;refine zgn ?_;rw[e5];exact KE.fin (H':=jt {k with root:=k.root+1} B.p++(planH B.p++(seenH B T N++F))) je rfl jd (by simp only[js,seenH_app];exact ja)
     ⟨rfl,{k with root:=k.root+1},⟨ok.c,ok.g,ok.n,ok.o,ok.hs⟩,⟨⟨rfl,rfl,rfl,rfl,rfl,rfl⟩,rfl,rfl,rfl,rfl⟩,⟨hR.C,hR.G,hR.hs,by show k.root+1=m.root+1;rw [hr],hR.act,hR.steps⟩,by simp only[js,seenH_app]⟩
 ·have hrm:jb5 B.p.g k.g.ring.length W m=none:=by unfold jb5;rw [if_neg hlt]
  rw[hrm];simp only[Option.isSome,Option.getD]
  have hne:((k.root:Nat):Int)=((W.T.length+B.p.g.slots:Nat):Int):=by omega
  refine Call.enter2 (n:=58) (by kernel_rfl) Tryz.func235 rfl rfl rfl ?_;simp only[js,seenH_app];refine zL ?_;refine zgS ?_;refine zsk ?_;refine zeP ?_;refine zl2 ?_;refine zaJ ?_;refine zd9 fun T hT=>?_;refine zot ?_;rintro _ _ ⟨rfl,rfl⟩;simp only[js,seenH_app];refine zi ?_;clear hT T;refine zkK ?_;refine zcV ?_;refine zaE ?_;exact zkP
end
open Go.RowKit
set_option maxRecDepth 10000
section
variable {w0 : World} {F : jb} {k : MkM} {B : BoM} {T : TbM} {N : PiM} {W : MwP} {m : MaP}
theorem htake_K {L:List jaw} {o:Own} {n i s:Nat} (ho:oOk jbf L o) (hn:n=L.length) (hi:i<L.length):
  Call Tryz.prog w0 238 [.pointer (some (adr (oV o n) (i*jbf.sz))), .int .i64 (s:Nat)] (oH jbf 280 L o++F) (fun r H'=>r= .tuple #[]∧H'=oH jbf 280 (L.set i ⟨(s:Nat),0,true⟩) o++F):=by
 obtain⟨h,hh⟩:=jh hi
 refine Call.enter2 (n:=8) (by rfl) Tryz.func238 rfl rfl rfl ?_
 skip
 refine zcB ?_;refine zbb ?_;refine zbW ?_;refine KL.eN (Eff.stSlA (x1:=(⟨(s:Nat),0,true⟩:jaw)) rfl rfl rfl rfl jj ho hh) ?_;rintro _ _ rfl;refine zR ?_;exact zog
theorem mktake_K {i:Nat} (ok:MkOk k B.p) (hR:MkR k B.p m) (hi:i<k.hs.length):
  Call Tryz.prog w0 236 [.pointer (some ⟨k.b,0,none⟩), .pointer (some (adr (oV k.o k.hs.length) (i*jbf.sz)))] (jt k B.p++F)
   (fun r H'=>(m.G.q=[]∧r= .bool false∧H'=jt k B.p++F)∨ ∃ (s:Nat) (q:List Nat) (k':MkM),m.G.q=s::q∧r= .bool true∧MkOk k' B.p∧MkTo k k'∧MkR k' B.p {m with G:={m.G with q:=q},hs:=m.hs.set i ⟨(s:Nat),0,true⟩}∧H'=jt k' B.p++F):=by
 have okg:=ok.g
 have ho:=ok.o
 have hnx:=fun A=>grNext_K (w0:=w0) (F:=A) okg hR.G
 refine Call.enter2 (n:=20) (by rfl) Tryz.func236 rfl rfl rfl ?_;simp only[js];refine zav ?_;refine zF ?_;refine zdi ?_;refine zu fun T hT=>?_;refine(CallV.part (CallV.fn (hnx _)) ja).mono ?_;rintro _ _ (⟨hq,rfl,rfl⟩|⟨s,q,g',hq,rfl,kg,gb,gl,gR,rfl⟩)
 ·refine ze ?_;clear hT T;refine zbi ?_;refine zba ?_;refine zm ?_;exact zsl
 ·refine ze ?_;clear hT T;refine zbi ?_;refine zak ?_;refine zbq ?_;refine jn (htake_K (s:=s) ho rfl hi) ja ?_;refine zeJ ?_;rw[←gb];exact KE.fin (H':=jt {k with g:=g',hs:=k.hs.set i ⟨(s:Nat),0,true⟩} B.p++F) je rfl jd (by simp only[js,List.length_set];exact ja)
   (.inr ⟨s,q,{k with g:=g',hs:=k.hs.set i ⟨(s:Nat),0,true⟩},hq,rfl,⟨ok.c,kg,ok.n,ok.o.set _ _,by simpa using ok.hs⟩,⟨⟨rfl,rfl,rfl,rfl,by simp,gl⟩,rfl,rfl,gb,rfl⟩,⟨hR.C,gR,by show k.hs.set i _=_;rw [hR.hs],hR.root,hR.act,hR.steps⟩,by grind[js]⟩)
def wtM (m:MaP) (i:Nat) (o:Option Nat) (G:GyP):MaP:=match o with
 |none=>{m with G:=G}
 |some s=>{m with G:=G,hs:=m.hs.set i ⟨(s:Nat),0,true⟩}
theorem walkM_no {g:PlG} {m:MaP} {i:Nat} (hq:walkG g m.G=none):jbI g m i=none:=by
 grind[jbI]
theorem jms {g:PlG} {m:MaP} {i:Nat} {o:Option Nat} {G:GyP} (hn:(jai m i).is=false) (hq:walkG g m.G=some (o,G)):jbI g m i=some (wtM m i o G):=by
 unfold jbI;rw [hq,if_neg (by grind)];cases o<;>rfl
theorem mkwalk_K {i:Nat} (hG:ji w0) (ok:MkOk k B.p) (hR:MkR k B.p m) (hm:jL B.p.g k.g.ring.length W m) (hi:i<k.hs.length):
  Call Tryz.prog w0 240 [.pointer (some ⟨k.b,0,none⟩), .pointer (some (adr (oV k.o k.hs.length) (i*jbf.sz)))] (jt k B.p++(planH B.p++F))
   (fun r H'=>(walkG B.p.g m.G=none∧r= .bool false∧H'=jt k B.p++(planH B.p++F))∨ ∃ (o:Option Nat) (G':GyP) (k':MkM),walkG B.p.g m.G=some (o,G')∧r= .bool true∧MkOk k' B.p∧MkTo k k'∧MkR k' B.p (wtM m i o G')∧H'=jt k' B.p++(planH B.p++F)):=by
 have okg:=ok.g
 have ho:=ok.o
 have hw:=fun A=>grWalk_K (w0:=w0) (F:=A) hG okg hR.G hm.G
 refine Call.enter2 (n:=22) (by rfl) Tryz.func240 rfl rfl rfl ?_;simp only[js];refine zav ?_;refine zF ?_;refine zdi ?_;refine zu fun T hT=>?_;refine(CallV.part (CallV.fn (hw _)) ja).mono ?_;rintro _ _ (⟨hq,rfl,rfl⟩|⟨o,G',g',hq,rfl,kg,gb,gl,gR,rfl⟩)
 ·refine ze ?_;clear hT T;refine zfv ?_;refine zba ?_;refine zm ?_;exact zsl
 ·cases o with
  |none=>
   unfold nxI;dsimp only[Option.isSome,Option.getD];refine ze ?_;clear hT T;refine zfv ?_;refine zba ?_;refine zm ?_;rw[←gb];exact KE.fin (H':=jt {k with g:=g'} B.p++(planH B.p++F)) je rfl jd (by simp only[js];exact ja)
    (.inr ⟨none,G',{k with g:=g'},hq,rfl,⟨ok.c,kg,ok.n,ok.o,ok.hs⟩,⟨⟨rfl,rfl,rfl,rfl,rfl,gl⟩,rfl,rfl,gb,rfl⟩,⟨hR.C,gR,hR.hs,hR.root,hR.act,hR.steps⟩,by grind[js]⟩)
  |some s=>
   unfold nxI;dsimp only[Option.isSome,Option.getD];refine ze ?_;clear hT T;refine zfv ?_;refine zak ?_;refine zbq ?_;refine jn (htake_K (s:=s) ho rfl hi) ja ?_;refine zeJ ?_;rw[←gb];exact KE.fin (H':=jt {k with g:=g',hs:=k.hs.set i ⟨(s:Nat),0,true⟩} B.p++(planH B.p++F)) je rfl jd (by simp only[js,List.length_set];exact ja)
    (.inr ⟨some s,G',{k with g:=g',hs:=k.hs.set i ⟨(s:Nat),0,true⟩},hq,rfl,⟨ok.c,kg,ok.n,ok.o.set _ _,by simpa using ok.hs⟩,⟨⟨rfl,rfl,rfl,rfl,by simp,gl⟩,rfl,rfl,gb,rfl⟩,⟨hR.C,gR,by show k.hs.set i _=m.hs.set i _;rw [hR.hs],hR.root,hR.act,hR.steps⟩,by grind[js]⟩)
def jdd:Value:= .agg [.bool false, .bool false, .nilFunc, .bool false, .bool true, .func (.func 235) #[] #[], .bool false, .bool false, .func (.func 236) #[] #[], .bool true, .bool false, .func (.func 239) #[] #[], .bool false, .bool false, .func (.func 240) #[] #[]].toArray
theorem micros_K {H:jb}:Call Tryz.prog w0 181 [] H (fun r H'=>r=jdd∧H'=H):=by
 unfold jdd;refine Call.enter0 (n:=6) (by rfl) Tryz.func181 rfl rfl rfl ?_;refine zbx ?_;intro b0;refine zal ?_;refine zbZ ?_;refine zbZ ?_;refine zfr ?_;exact zH
end
open Go.RowKit
set_option maxRecDepth 10000
structure FuI where
 i:Nat
theorem fullM_is {m:MaP} {i:Nat} (hi:i<m.hs.length) (h:(jai m i).is=true) (hno: ∀ j,j<i→(jai m j).is=false):fullM m=some i:=by
 simp_all[fullM,hi]
theorem fullM_no {m:MaP} (hno: ∀ j,j<m.hs.length→(jai m j).is=false):fullM m=none:=by
 grind[fullM]
section
variable {w0 : World} {F : jb} {k : MkM} {B : BoM} {T : TbM} {N : PiM} {W : MwP} {m : MaP}
theorem jll {H:jb} {b:Nat}:
  Call Tryz.prog w0 182 [.pointer (some ⟨b,0,none⟩)] H (fun u H'=> ∃ bl,u= .func (.func 242) #[] [.pointer (some ⟨bl,0,none⟩)].toArray∧H'=(bl,cells [.pointer (some ⟨b,0,none⟩)] 125)::H):=by
 refine Call.enter1 (n:=4) (by rfl) Tryz.func182 rfl rfl rfl ?_;refine zbN ?_;intro b1;refine za5 ?_;refine zm ?_;exact KE.fin je rfl jd ja ⟨b1,rfl,rfl⟩
theorem jkt {A0:jb} {bl:Nat} {yv:Value} (ok:MkOk k B.p) (hhs:k.hs=m.hs) (E:jb→Prop)
  (hy: ∀ i,fullM m=some i→CallV Tryz.prog w0 yv [.int .i64 (i:Nat)] (A0++((bl,cells [.pointer (some ⟨k.b,0,none⟩)] 125)::(jt k B.p++F))) (fun u H'=>u= .bool false∧E H')):
  Call Tryz.prog w0 242 [yv, .pointer (some ⟨bl,0,none⟩)] (A0++((bl,cells [.pointer (some ⟨k.b,0,none⟩)] 125)::(jt k B.p++F)))
   (fun _ H'=>(fullM m=none∧H'=A0++((bl,cells [.pointer (some ⟨k.b,0,none⟩)] 125)::(jt k B.p++F)))∨E H'):=by
 have ho:=ok.o
 have hh9:=ok.hs
 have hml:m.hs.length=k.hs.length:=by grind
 refine Call.enter2 (n:=24) (by rfl) Tryz.func242 rfl rfl rfl ?_;simp only[js];refine zG ?_;refine za0 ?_;refine zbn ?_;refine zhL ?_;refine zbj ?_;refine K.loopT (σ:=FuI) [(0,_),(8,_),(9,_)] (fun s kp_=>(10, .int .i64 (s.i:Nat))::kp_) (fun s=>A0++((bl,cells [.pointer (some ⟨k.b,0,none⟩)] 125)::(jt k B.p++F))) (fun s=>s.i≤k.hs.length∧ ∀ j,j<s.i→(jai m j).is=false) (fun s=>k.hs.length-s.i) (⟨0⟩) jc (by first|exact ja|(simp only[js];exact ja)) (⟨Nat.zero_le _,fun j h=>absurd h (Nat.not_lt_zero _)⟩) ?_;rintro⟨i⟩ ⟨hi,hno⟩;dsimp only at hi hno⊢;simp only[js]
 by_cases hlt:i<k.hs.length
 ·obtain⟨h,hh⟩:=jh hlt
  have hha:jai m i=h:=jbR (by grind)
  obtain⟨hsl,hfi,his⟩:=h
  cases his with
  |true=>
   have hf:=fullM_is (by omega) (by grind) hno
   refine zid ?_;refine zcc ?_;refine zky ?_;refine zbe ?_;intro b4;refine zt ?_;refine zeV ?_;refine zal ?_;refine zaa ?_;refine ze3 ?_;refine zu fun T hT=>?_;refine(CallV.part (hy i hf) (by first|exact ja|(simp only[js];exact ja))).mono ?_;rintro _ H' ⟨rfl,hE⟩;refine ze ?_;clear hT T;refine zeC ?_;refine zA ?_;refine zaR ?_;refine ziP ?_;refine zaS ?_;refine zef ?_;exact KE.fin je rfl jd ja (.inr hE)
  |false=>
   refine zid ?_;refine zcc ?_;refine zky ?_;refine zbe ?_;intro b4;refine zt ?_;refine zeV ?_;refine zal ?_;refine zaa ?_;refine zdT ?_;refine zx ?_;refine zpV ?_
   exact KE.again ⟨i+1⟩ jc (by first|exact ja|(simp only[js];exact ja)) ⟨hlt,fun j (hj:j<i+1)=>by
    grind⟩ (by grind)
 ·refine zfg ?_;refine zro ?_;exact KE.finN je rfl jd (by first|exact ja|(simp only[js];exact ja)) (.inl ⟨fullM_no fun j hj=>hno j (by omega),rfl⟩)
end
section
variable {w0 : World} {F : jb} {k : MkM} {B : BoM} {T : TbM} {N : PiM} {W : MwP} {m : MaP}
theorem mkDone_K (hG:ji w0) (hp:MpR k B T N W) (ok:MkOk k B.p) (hR:MkR k B.p m) (hm:jL B.p.g k.g.ring.length W m):
  Call Tryz.prog w0 177 [.pointer (some ⟨k.b,0,none⟩)] (jt k B.p++(planH B.p++(seenH B T N++F))) (fun r H'=>r= .bool (jaa B.p.g W m)∧H'=jt k B.p++(planH B.p++(seenH B T N++F))):=by
 have okg:=ok.g
 have hac:=fun A=>jeu (w0:=w0) (F:=A) (k:=k) (p:=B.p)
 have hact:=hR.act
 have hroots:=fun A=>jks (w0:=w0) (F:=A) hp ok
 have hem:=fun A=>grEmpty_K (w0:=w0) (F:=A) hG okg hR.G hm.G
 have hrt:=hm.root
 have hr:=hR.root
 rw[←hr] at hrt
 have hd:jaa B.p.g W m=(k.act&&((fullM m).isNone&&(decide (((k.root:Nat):Int)=((W.T.length+B.p.g.slots:Nat):Int))&&jb0 m.G))):=by
  grind[jaa]
 cases ha:k.act with
 |false=>
  have hdf:jaa B.p.g W m=false:=by grind
  rw[hdf];simp only[ha] at hac;refine Call.enter1 (n:=23) (by rfl) Tryz.func177 rfl rfl rfl ?_;refine zbx ?_;intro b2;refine zbu ?_;refine zn ?_;refine zl3 ?_;refine zaQ ?_;refine zdB ?_;refine zaS ?_;exact zsj
 |true=>
  simp only[ha] at hac;refine Call.enter1 (n:=23) (by rfl) Tryz.func177 rfl rfl rfl ?_;refine zbx ?_;intro b2;refine zbu ?_;refine zn ?_;refine zl3 ?_;refine zy ?_;refine za6 ?_;refine zn ?_;refine JY jll ?_;rintro _ _ ⟨bl,rfl,rfl⟩;refine zc1 ?_;refine K.rangeFunc (lb:=[.pointer (some ⟨bl,0,none⟩)]) rfl
   (fun D G=>fullM m=none∧G=(D, .deferred (some []))::(b2,cells [.bool false] 4)::(jt k B.p++(planH B.p++(seenH B T N++F))))
   (fun D c G=>c= .ret∧ ∃ i,fullM m=some i∧G=(D, .deferred (some []))::(b2,cells [.bool false] 4)::(jt k B.p++(planH B.p++(seenH B T N++F)))) ?_ ?_ ?_
  ·intro l D rc hyl
   refine(Call.part (jkt (F:=planH B.p++(seenH B T N++F)) (bl:=bl) ok hR.hs
    (fun H'=> ∃ i,fullM m=some i∧H'=(l, .loop (rc .done (some .ret)))::((D, .deferred (some []))::(b2,cells [.bool false] 4)::(bl,cells [.pointer (some ⟨k.b,0,none⟩)] 125)::(jt k B.p++(planH B.p++(seenH B T N++F)))))
    (A0:=(l, .loop (rc .ready none))::(D, .deferred (some []))::(b2,cells [.bool false] 4)::[]) ?_) (by simp only[List.cons_append,List.nil_append];exact ja)).mono ?_
   ·intro i hf;simp only[List.cons_append,List.nil_append];refine zou ?_;refine K.skip ?_;refine KE.begin ju ?_;refine K.block (K.seq (K.region ?_));refine zdB ?_;refine zef ?_;refine KE.part ((l, .loop (rc .busy none))::((D, .deferred (some []))::(b2,cells [.bool false] 4)::(bl,cells [.pointer (some ⟨k.b,0,none⟩)] 125)::(jt k B.p++(planH B.p++(seenH B T N++F))))) ja ?_;exact KE.roundR jI.head ⟨rfl,i,hf,rfl⟩
   ·rintro _ _ (⟨hno,rfl⟩|⟨i,hf,rfl⟩)
    ·refine .inl ⟨_,?_,hno,rfl⟩;exact zlk
    ·exact .inr ⟨.ret,_,ja,rfl,i,hf,rfl⟩
  ·rintro D G ⟨hf,rfl⟩
   by_cases hrr:((k.root:Nat):Int)=((W.T.length+B.p.g.slots:Nat):Int)
   ·have hdf:jaa B.p.g W m=jb0 m.G:=by rw[hd,ha,hf,decide_eq_true hrr];rfl
    rw[hdf];simp only[js,seenH_app];refine zaw ?_;refine zbC ?_;refine zsm ?_;refine zeP ?_;refine zl2 ?_;refine zaJ ?_;refine zd9 fun T hT=>?_;refine zot ?_;rintro _ _ ⟨rfl,rfl⟩;simp only[js,seenH_app];refine zi ?_;clear hT T;refine zkK ?_;refine zo ?_;refine zii ?_;refine zoi ?_;refine zbV ?_;refine zdR fun T hT=>?_;refine(CallV.part (CallV.fn (hem _)) (by first|exact ja|(simp only[js,seenH_app];exact ja))).mono ?_;rintro _ _ ⟨rfl,rfl⟩;refine zi ?_;clear hT T;refine zbD ?_;refine zcl ?_;refine zjY ?_;exact zsn
   ·have hdf:jaa B.p.g W m=false:=by rw[hd,ha,decide_eq_false hrr];simp
    rw[hdf];simp only[js,seenH_app];refine zaw ?_;refine zbC ?_;refine zsm ?_;refine zeP ?_;refine zl2 ?_;refine zaJ ?_;refine zd9 fun T hT=>?_;refine zot ?_;rintro _ _ ⟨rfl,rfl⟩;simp only[js,seenH_app];refine zi ?_;clear hT T;refine zkL ?_;refine zfl ?_;refine zse ?_;refine zcr ?_;refine zcl ?_;refine zjY ?_;exact zsn
  ·rintro D c G ⟨rfl,i,hf,rfl⟩
   have hdf:jaa B.p.g W m=false:=by rw[hd,hf];simp
   rw[hdf];refine ziP ?_;exact zH
end
end Go.Proofs.YtebiafomiemgbaaGreatDoor.Sw
