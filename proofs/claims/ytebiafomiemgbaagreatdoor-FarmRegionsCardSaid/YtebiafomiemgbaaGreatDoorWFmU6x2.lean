/-What the law needs of its own,part 2. -/
import Derived.Test.YtebiafomiemgbaaGreatDoorWFmU6x1
set_option linter.unusedVariables false set_option linter.unusedSimpArgs false set_option linter.unusedVariables false
set_option linter.unusedSimpArgs false
namespace Go.Proofs.YtebiafomiemgbaaGreatDoor.Sw
set_option maxHeartbeats 8000000
open Go.Proofs.YtebiafomiemgbaaGreatDoor renaming lo → qL, hi → qH
open Go.RowKit
set_option maxRecDepth 10000
structure FsG where
 i:Nat
 n:Nat
 f:FmM
 hf:List HpP
 rows:List (List Int)
 tv:Value
 D:jb
structure FsW where
 t:Nat
 ws:List SlV
 wo:Own
 D:jb
structure FsF where
 t:Nat
 n:Nat
 f:FmM
 hf:List HpP
structure FsH where
 n:Nat
 f:FmM
 hf:List HpP
 rows:List (List Int)
 tv:Value
 D:jb
 j:Int
section
variable {w0 : World} {F : jb} {c : Cfg} {vc vt v : Value} {l : List jM}
theorem FmZ.capT {b nf:Nat} {hs:List HpP} {f:FmM} {op:OpP} {i:Int} (z:FmZ b c hs nf f) (h0:(faDo c hs i op).1.1.h≠0): ∃ j:Nat,i=(j:Nat)∧capT (faDo c hs i op).1.1.h=j:=by
 rcases fa_cases hs i with⟨j,h,rfl,h1⟩|h1
 ·rw[JO h1] at h0⊢
  obtain⟨a,b⟩:=z.I h1
  exact⟨j,rfl,newW_T a (do_new a b h0)⟩
 ·rw[jao h1] at h0;exact zD
theorem jly: ∀ {R:List (List Int)} {t:Nat} {x:List Int},R[t]?=some x→x.length≤R.flatten.length
 | [],_,_,h=>by grind
 |a::R,0,x,h=>by grind
 |a::R,t+1,x,h=>by
  have:=jly (R:=R) (t:=t) (x:=x) h
  grind
theorem row_len {m:Ju} {t:Nat} {x:List Int} (ok:jak m) (h:m.R[t]?=some x):x.length≤4294967296:=by
 have hn:=ok.n
 have h1:=jly h
 omega
set_option maxHeartbeats 16000000 in
theorem farmRegions_K (hG:ji w0) (hR:Jc w0 F c vc vt) (q1:vc.oneCell'=true) (q2:vt.oneCell'=true) (hl:Sli w0 F faE v l) (hlo: ∀ x∈l,FActOk x):Call Tryz.prog w0 7 [jr c vc vt,v] F (fun r H'=>r= .bool true∧H'=F):=by
 have haw:=fun A=>jcp (w0:=w0) (F:=A) hG
 have hsm:=fun A (hp:Part A F)=>jcI (hR.part hp)
 have hn1:=fun A (hp:Part A F) (hok:jz c=true)=>zNew hG (hR.part hp) hok
 obtain⟨hS,hT',o1,o2,l1,l2⟩:=hR
 obtain⟨ok,hok⟩: ∃ ok,okF c=ok:=⟨_,rfl⟩
 simp only[hok] at hsm;simp only[jr,jG] at hsm hn1⊢
 cases ok with
 |false=>
  refine Call.enter2 (n:=155) (by kernel_rfl) Tryz.func7 rfl rfl rfl ?_;refine zeu ?_;intro b2;refine zaQ ?_;exact zdC
 |true=>
  have hc:=okF_cfg hok
  have ht8:=(Jf hc).tn
  refine Call.enter2 (n:=155) (by kernel_rfl) Tryz.func7 rfl rfl rfl ?_;refine zj4 ?_;intro b2;refine zK ?_;refine zb3 ?_;rintro _ _ ⟨bf,f0,zf,rfl,rfl⟩;refine zpS ?_;refine zK ?_;refine zd6 ?_;refine KL.e rfl (Eff.makeR (E:=toldE) (x0:=⟨none,0,0⟩) rfl rfl rfl rfl rfl rfl (by omega)) ?_;rintro _ _ ⟨o37,ok37,rfl,rfl⟩
  have ht0:=jb2 (w0:=w0) (F:=F) ok37 ht8.2
  refine zbs ?_;refine K.loopT (σ:=FsG) [(1,_),(2,_),(5,_)] (fun s kp_=>(8, .int .i64 (s.i:Nat))::(7,s.tv)::kp_) (fun s=>fmH s.f++(s.D++((b2,cells [vc, .int .i64 c.page,vt, .int .i64 c.workers, .int .i64 c.grey, .int .i64 c.gens] 25)::F))) (fun s=>s.i≤l.length∧s.i≤60∧s.n≤1+s.i*18∧FmZ bf c s.hf s.n s.f∧ToldR w0 (s.D++F) s.tv s.rows∧Jb s.rows s.i) (fun s=>l.length-s.i) (⟨0,1,f0,newHs c,List.replicate c.tn.length [],_,oH toldE 47 (List.replicate c.tn.length ⟨none,0,0⟩) o37⟩) jc ja (⟨Nat.zero_le _,Nat.zero_le _,by show 1≤1+0*18;omega,zf,ht0,Jb.rep _⟩) ?_;clear ht0 zf ok37;rintro⟨i,n,f,hf,rows,tv,D⟩ ⟨hi,hi8,hn,zf,hTo,hRo⟩;dsimp only at hi hi8 hn zf hTo hRo⊢
  have hlf:=zf.len
  by_cases hc1:i<l.length
  ·have hc1':((i:Nat):Int)<((l.length:Nat):Int):=by omega
   by_cases hcc:i<60
   ·have hc2':((i:Nat):Int)<60:=by omega
    obtain⟨x,hx⟩:=jh hc1
    have hxo:=hlo x (List.mem_of_getElem? hx)
    have hu:=hRo.of (t:=x.t)
    have hop:=fun A v (hS:Sli w0 A uE v (ofF rows x.t))=>jcf (w0:=w0) (F:=A) hxo hS hu
    have hzo:=jbX hxo hu
    obtain⟨z,hz⟩: ∃ z,opA x (ofF rows x.t)=z:=⟨_,rfl⟩
    rw[hz] at hop hzo;clear hz
    obtain⟨xt,xo,xH,xV,wk,xk,xp,xu⟩:=x
    have hxu:xu<256:=hxo.u
    dsimp only at hop;refine zrJ ?_;refine zbQ ?_;intro b9;refine zU ?_;refine K.cutT (σ:=FsW) [(1,_),(2,_),(5,_),(7,_),(8,_)] jc (fun s kp_=>(10,oV s.wo s.ws.length)::(9, .pointer (some ⟨s.t,0,none⟩))::kp_) (fun s=>fmH f++(oH toldE 47 s.ws s.wo++(s.D++((s.t,cells [.int .i64 xt, .int .u8 (xo.c:Nat), .int .u64 (xo.h:Nat), .int .i64 xo.a, .int .i64 xo.b, .int .u64 (xo.v:Nat), .int .i64 xH, .int .i64 xV, .bool wk, .int .i64 xk, .int .i64 xp, .int .u8 (xu:Nat)] 40)::(b2,cells [vc, .int .i64 c.page,vt, .int .i64 c.workers, .int .i64 c.grey, .int .i64 c.gens] 25)::F)))) (fun s=>s.ws.length=c.tn.length∧oOk toldE s.ws s.wo∧ToldR w0 (s.D++F) tv rows∧(∀ (k:Nat) (x1:SlV) (h:HpP),s.ws[k]?=some x1→hf[k]?=some h→Sli w0 s.D uE (.slice x1.a x1.n x1.c) h.s.W.x)) ?_ ?_
    ·skip
     refine zL ?_;refine zc1 ?_;refine K.loopT (σ:=FsW) [(1,_),(2,_),(5,_),(7,_),(8,_),(9,_)] (fun s kp_=>(11, .int .i64 (s.t:Nat))::(10,oV s.wo s.ws.length)::kp_) (fun s=>fmH f++(oH toldE 47 s.ws s.wo++(s.D++((b9,cells [.int .i64 xt, .int .u8 (xo.c:Nat), .int .u64 (xo.h:Nat), .int .i64 xo.a, .int .i64 xo.b, .int .u64 (xo.v:Nat), .int .i64 xH, .int .i64 xV, .bool wk, .int .i64 xk, .int .i64 xp, .int .u8 (xu:Nat)] 40)::(b2,cells [vc, .int .i64 c.page,vt, .int .i64 c.workers, .int .i64 c.grey, .int .i64 c.gens] 25)::F)))) (fun s=>s.t≤c.tn.length∧s.ws.length=s.t∧oOk toldE s.ws s.wo∧ToldR w0 (s.D++F) tv rows∧(∀ (k:Nat) (x1:SlV) (h:HpP),s.ws[k]?=some x1→hf[k]?=some h→Sli w0 s.D uE (.slice x1.a x1.n x1.c) h.s.W.x)) (fun s=>c.tn.length-s.t) (⟨0,[],none,D⟩) jc ja (⟨Nat.zero_le _,rfl,rfl,hTo,fun k x1 h a b=>(by cases a)⟩) ?_;clear hTo;rintro⟨t,ws,wo,D⟩ ⟨ht,hwl,kwo,hTo,hws⟩;dsimp only at ht hwl kwo hTo hws⊢
     by_cases ht1:t<c.tn.length
     ·have ht1':((t:Nat):Int)<((c.tn.length:Nat):Int):=by omega
      obtain⟨h,hh⟩:=jh (l:=hf) (k:=t) (by rw[zf.len];exact ht1)
      have hMm:=fun A=>zMem (w0:=w0) (F:=A) zf
      have hWd:=fun A=>zWords (w0:=w0) (F:=A) zf hh
      have hwb:ws.length+1≤4294967296:=by omega
      refine zff ?_;refine zfF ?_;refine zn ?_;refine jn (hMm _) ja ?_;refine zn ?_;refine jB (hWd _) ja ?_;rintro _ _ ⟨o,ko,rfl,rfl⟩
      obtain⟨x1,hx1⟩:=jb6 o h.s.W.x.length
      rw[hx1];refine zY ?_;refine zht ?_;refine zar ?_;intro b68;refine KL.e rfl (Eff.appZ (E:=toldE) (xs:=ws) (o:=wo) (ys:=[x1]) (zs:=ws++ [x1]) rfl rfl rfl rfl rfl rfl jj (by assumption) (by first|exact Sli.blk ju rfl (by first|decide|simp) (by first|decide|(unfold maxLen;omega)) rfl|exact Sli.old (by assumption)|exact Sli.own jj (by assumption) jF|assumption|exact Sli.part (by assumption) ja) (rfl) (by first|assumption|omega|(simp<;>fail)|(simp;omega)) rfl) ?_;rintro _ _ ⟨o',ok',rfl,rfl⟩;refine zf6 ?_
      exact KE.again ⟨t+1,ws++ [x1],o',oH uE 34 h.s.W.x o++D⟩ (by dsimp only;rw [List.length_append];exact jc) (by simp only[List.append_assoc];exact ja) ⟨ht1,by rw[List.length_append,hwl];rfl,ok',by simp only[List.append_assoc];exact hTo.part ja,fun k y1 g a b=>by
       by_cases hk:k<ws.length
       ·rw[List.getElem?_append_left hk] at a;exact(hws k y1 g a b).part ja
       ·have hkl:=jv a
        rw[List.length_append,List.length_cons,List.length_nil] at hkl
        obtain rfl:k=t:=by omega
        rw[List.getElem?_append_right (by omega),hwl,Nat.sub_self] at a
        cases a
        rw[hh] at b
        cases b
        rw[←hx1]
        exact Sli.own (by exact jj) ko rfl⟩ (by show c.tn.length-(t+1)<c.tn.length-t;omega)
     ·have ht1': ¬((t:Nat):Int)<((c.tn.length:Nat):Int):=by omega
      obtain rfl:c.tn.length=t:=by omega
      refine zkk ?_;exact KE.meet ⟨b9,ws,wo,D⟩ jc ja ⟨hwl,kwo,hTo,hws⟩
    ·clear hTo;rintro⟨b9,ws,wo,D⟩ ⟨hwl,kwo,hTo,hws⟩;dsimp only at hwl kwo hTo hws⊢;refine zG ?_;refine zN ?_;refine zU ?_;refine K.cutT (σ:=FsH) [(1,_),(2,_),(5,_),(8,_),(10,_)] jc (fun s kp_=>(7,s.tv)::(14, .int .i64 s.j)::kp_) (fun s=>fmH s.f++(oH toldE 47 ws wo++(s.D++((b2,cells [vc, .int .i64 c.page,vt, .int .i64 c.workers, .int .i64 c.grey, .int .i64 c.gens] 25)::F)))) (fun s=>FmZ bf c s.hf s.n s.f∧s.n≤1+(i+1)*18∧SameX hf s.hf s.j∧ToldR w0 (s.D++F) s.tv s.rows∧Jb s.rows (i+1)∧(∀ (k:Nat) (x1:SlV) (h:HpP),ws[k]?=some x1→hf[k]?=some h→Sli w0 s.D uE (.slice x1.a x1.n x1.c) h.s.W.x)) ?_ ?_
     ·skip
      cases wk with
      |true=>
       have hs1:=fun A=>zStep (w0:=w0) (F:=A) (p:=⟨xk,xp,xu⟩) hG zf (by omega) hxu rfl rfl
       simp only[pkV] at hs1;refine zG ?_;refine zdy ?_;refine zao ?_;refine zbE ?_;refine zsY ?_;refine zw ?_;refine zfi ?_;refine zj ?_;refine ziy ?_;rintro _ _ ⟨rfl,f1,zf1,rfl⟩;refine zR ?_;exact KE.meet ⟨n,f1,_,rows,tv,D,xp⟩ jc (by simp only[List.append_assoc];exact ja) ⟨zf1,by show n≤1+(i+1)*18;omega,SameX.step,hTo,hRo.mono (by show i≤i+1;omega),hws⟩
      |false=>
       have hlt:=zf.hlt (op:=z) (j:=xt)
       have hcap:=zf.capT (op:=z) (i:=xt)
       have hX:SameX hf (faDo c hf xt z).2 xt:= .do_
       have hdo1:=fun A=>zDo (w0:=w0) (F:=A) (i:=xt) hG zf (by omega) hzo rfl rfl
       obtain⟨⟨⟨e,hh,w,addr,us1,si,cy,ac⟩,er⟩,hs9,hv⟩: ∃ (q:SnP × Int) (h9:List HpP),faDo c hf xt z=(q,h9):=⟨_,_,rfl⟩
       rw[hv] at hlt hX hcap;simp only[hv] at hdo1;dsimp only at hlt hX hcap
       have hal:=fun A=>jbt (w0:=w0) (G:=A) (t:=xt) (w:=hh) hTo (hRo.le (by omega))
       obtain⟨zc,zh,za,zb,zv⟩:=z
       unfold opV snV at hdo1;unfold opV at hop;dsimp only at hdo1 hop;clear hv;refine zG ?_;refine zdy ?_;refine zlG ?_;refine K.cutT (σ:=FsE) [(1,_),(2,_),(5,_),(7,_),(8,_),(9,_),(10,_),(14,_)] jc (fun s kp_=>(15, .pointer (some ⟨s.b,0,none⟩))::kp_) (fun s=>(s.b,cells [.int .i64 e, .int .u64 (hh:Nat), .int .u64 w, .int .i64 addr, .int .i64 us1, .int .i64 si, .int .i64 cy, .bool ac] 43)::((b9,cells [.int .i64 xt, .int .u8 (xo.c:Nat), .int .u64 (xo.h:Nat), .int .i64 xo.a, .int .i64 xo.b, .int .u64 (xo.v:Nat), .int .i64 xH, .int .i64 xV, .bool false, .int .i64 xk, .int .i64 xp, .int .u8 (xu:Nat)] 40)::(fmH s.g++(oH toldE 47 ws wo++(D++((b2,cells [vc, .int .i64 c.page,vt, .int .i64 c.workers, .int .i64 c.grey, .int .i64 c.gens] 25)::F)))))) (fun s=>FmZ bf c hs9 (n+2) s.g) ?_ ?_
       ·skip
        refine zJ ?_;refine K.drawn ((b9,cells [.int .i64 xt, .int .u8 (xo.c:Nat), .int .u64 (xo.h:Nat), .int .i64 xo.a, .int .i64 xo.b, .int .u64 (xo.v:Nat), .int .i64 xH, .int .i64 xV, .bool false, .int .i64 xk, .int .i64 xp, .int .u8 (xu:Nat)] 40)::(oH toldE 47 ws wo++(D++((b2,cells [vc, .int .i64 c.page,vt, .int .i64 c.workers, .int .i64 c.grey, .int .i64 c.gens] 25)::F)))) [(0,1),(1,1),(2,1),(3,1),(4,1),(5,1),(6,1),(7,3),(8,3),(9,3),(10,1),(11,1),(12,1),(13,2),(14,2),(15,0)] (by kernel_rfl) (by kernel_rfl) (by kernel_rfl) (by kernel_rfl) (by kernel_rfl) (by kernel_rfl) ja ?_;refine zP ?_;refine zcP ?_;refine zf4 ?_;refine KD.fork2 (x:=7) (y:=13) (o1:=[(8,3),(9,3),(10,1),(11,1),(12,1),(13,2),(14,2),(15,0)]) (o2:=[(7,2),(8,2),(9,2),(10,0),(11,0),(12,1),(14,2),(15,0)]) (by kernel_rfl) rfl rfl (by kernel_rfl) (by kernel_rfl) ?_ ?_
        ·refine zT fun T hT=>?_;refine zcd ?_;rintro _ _ ⟨tv9,htv,rfl,rfl⟩;refine zi ?_;clear hT T;refine KD.fork2 (x:=8) (y:=13) (o1:=[(9,3),(10,1),(11,1),(12,1),(13,2),(14,2),(15,0)]) (o2:=[(8,2),(9,2),(10,0),(11,0),(12,1),(14,2),(15,0)]) (by kernel_rfl) rfl rfl (by kernel_rfl) (by kernel_rfl) ?_ ?_
         ·refine zT fun T hT=>?_;refine zaU ?_;rintro _ _ ⟨rfl,rfl⟩;refine zi ?_;clear hT T;refine KD.fork2 (x:=9) (y:=13) (o1:=[(10,1),(11,1),(12,1),(13,2),(14,2),(15,0)]) (o2:=[(9,2),(10,0),(11,0),(12,1),(14,2),(15,0)]) (by kernel_rfl) rfl rfl (by kernel_rfl) (by kernel_rfl) ?_ ?_
          ·refine zT fun T hT=>?_;refine zel ?_;rintro _ _ ⟨rfl,f1,zf1,rfl⟩;refine zi ?_;clear hT T;refine znx ?_;intro b15;exact zo9
          ·(refine jP.e rfl (Eff.alloc rfl) ?_;rintro _ _ ⟨b15,rfl,rfl⟩;refine⟨ja,?_⟩)
           refine zk fun T hT=>?_;refine zel ?_;rintro _ _ ⟨rfl,f1,zf1,rfl⟩;refine zi ?_;clear hT T;refine ze7 ?_;exact zo9
         ·(refine jP.e rfl (Eff.alloc rfl) ?_;rintro _ _ ⟨b15,rfl,rfl⟩;refine⟨ja,?_⟩)
          refine zk fun T hT=>?_;refine zaU ?_;rintro _ _ ⟨rfl,rfl⟩;refine zi ?_;clear hT T;refine zk fun T hT=>?_;refine zel ?_;rintro _ _ ⟨rfl,f1,zf1,rfl⟩;refine zi ?_;clear hT T;refine ze7 ?_;exact zo9
        ·(refine jP.e rfl (Eff.alloc rfl) ?_;rintro _ _ ⟨b15,rfl,rfl⟩;refine⟨ja,?_⟩)
         refine zk fun T hT=>?_;refine zcd ?_;rintro _ _ ⟨tv9,htv,rfl,rfl⟩;refine zi ?_;clear hT T;refine zk fun T hT=>?_;refine zaU ?_;rintro _ _ ⟨rfl,rfl⟩;refine zi ?_;clear hT T;refine zk fun T hT=>?_;refine zel ?_;rintro _ _ ⟨rfl,f1,zf1,rfl⟩;refine zi ?_;clear hT T;refine ze7 ?_;exact zo9
       ·rintro⟨b15,f1⟩ zf1;dsimp only at zf1⊢;refine zaH ?_;refine zrM fun T hT=>?_;refine zfM ?_;rintro tv2 _ ⟨_,D2,hTo2,rfl,rfl⟩;refine ze ?_;clear hT T;refine zah ?_;refine zh8 ?_;refine K.loopT (σ:=FsF) [(1,_),(2,_),(5,_),(7,_),(8,_),(9,_),(10,_),(14,_),(15,_)] (fun s kp_=>(17, .int .i64 (s.t:Nat))::kp_) (fun s=>fmH s.f++((b15,cells [.int .i64 e, .int .u64 (hh:Nat), .int .u64 w, .int .i64 addr, .int .i64 us1, .int .i64 si, .int .i64 cy, .bool ac] 43)::((b9,cells [.int .i64 xt, .int .u8 (xo.c:Nat), .int .u64 (xo.h:Nat), .int .i64 xo.a, .int .i64 xo.b, .int .u64 (xo.v:Nat), .int .i64 xH, .int .i64 xV, .bool false, .int .i64 xk, .int .i64 xp, .int .u8 (xu:Nat)] 40)::(oH toldE 47 ws wo++(D2++(D++((b2,cells [vc, .int .i64 c.page,vt, .int .i64 c.workers, .int .i64 c.grey, .int .i64 c.gens] 25)::F))))))) (fun s=>s.t≤c.tn.length∧FmZ bf c s.hf s.n s.f∧s.n≤3+i*18+s.t*2∧SameX hf s.hf xt) (fun s=>c.tn.length-s.t) (⟨0,n+2,f1,hs9⟩) jc (by simp only[List.append_assoc];exact ja) (⟨Nat.zero_le _,zf1,by show n+2≤3+i*18+0*2;omega,hX⟩) ?_;clear zf1 hX;rintro⟨t,m,f2,hs8⟩ ⟨ht,zf2,hm,hX⟩;dsimp only at ht zf2 hm hX⊢
        have hend:ToldR w0 (D2++D++F) tv2 (alsoF rows xt hh):=by rw[List.append_assoc];exact hTo2
        have hws2:(∀ (k:Nat) (x1:SlV) (h:HpP),ws[k]?=some x1→hf[k]?=some h→Sli w0 (D2++D) uE (.slice x1.a x1.n x1.c) h.s.W.x):=fun k x1 h a b=>(hws k x1 h a b).part ja
        by_cases ht1:t<c.tn.length
        ·have ht1':((t:Nat):Int)<((c.tn.length:Nat):Int):=by omega
         by_cases hh0:hh=0
         ·have hh0': ¬((hh:Nat):Int)≠0:=by omega
          refine zff ?_;refine ziw ?_;refine zaj ?_;refine zA ?_;refine zdx ?_;exact zsZ
         ·have hh0':((hh:Nat):Int)≠0:=by omega
          by_cases hxt:((t:Nat):Int)=xt
          ·refine K.seq ?_;refine zaH ?_;refine zaa ?_;refine zen ?_;refine ziw ?_;refine zM ?_;refine zA ?_;refine KL.nil (KE.next (K.condT rfl (K.skip (KE.next (K.seq (K.block (K.seq (K.seq (K.region ?_)))))))));refine zj ?_;refine zN ?_;refine zO ?_;refine zaR ?_;refine zix ?_;exact KE.again ⟨t+1,m,f2,hs8⟩ jc ja ⟨ht1,zf2,by show m≤3+i*18+(t+1)*2;omega,hX⟩ (by show c.tn.length-(t+1)<c.tn.length-t;omega)
          ·obtain⟨h,hh8⟩:=jh (l:=hs8) (k:=t) (by rw[zf2.len];exact ht1)
           obtain⟨j,rfl,hj⟩:=hcap hh0
           obtain⟨hfo,hfx⟩:=fold_other (c:=c) (w:=hh) (v:=0) (a:=0) (b:=0) hh8 (by omega)
           have hdo2:=fun A=>zDo (w0:=w0) (F:=A) (i:=((t:Nat):Int)) (op:=⟨7,hh,0,0,0⟩) hG zf2 (by omega) ⟨(by decide:7<256),hlt,(by decide:0<18446744073709551616)⟩ rfl rfl
           obtain⟨⟨⟨e2,hh2,w2,addr2,us2,si2,cy2,ac2⟩,er2⟩,hs7,hv2⟩: ∃ (q:SnP × Int) (h9:List HpP),faDo c hs8 ((t:Nat):Int) ⟨7,hh,0,0,0⟩=(q,h9):=⟨_,_,rfl⟩
           rw[hv2] at hfo hfx;simp only[hv2] at hdo2;dsimp only at hfo hfx;subst hfo;unfold opV snV at hdo2;dsimp only at hdo2
           have e7:((7:Nat):Int)=7:=rfl
           have e00:((0:Nat):Int)=0:=rfl
           rw[e7,e00] at hdo2;clear hv2;refine zff ?_;refine ziw ?_;refine zM ?_;refine zA ?_;refine KL.nil (KE.next (K.condT rfl (K.skip (KE.next (K.seq (K.block (K.seq (K.seq (K.region ?_)))))))));refine zj ?_;refine zN ?_;refine zC ?_;refine zK ?_;refine zB ?_;refine zae ?_;refine zdU ?_;refine jB (hdo2 _) ja ?_;rintro _ _ ⟨rfl,f3,zf3,rfl⟩;refine zhE ?_;intro b18;refine zN ?_;refine zaj ?_;refine zdD ?_;exact KE.again ⟨t+1,m+2,f3,hs7⟩ jc ja ⟨ht1,zf3,by show m+2≤3+i*18+(t+1)*2;omega,hX.trans (hfx _)⟩ (by show c.tn.length-(t+1)<c.tn.length-t;omega)
        ·have ht1': ¬((t:Nat):Int)<((c.tn.length:Nat):Int):=by omega
         refine znu ?_;refine zcy ?_;refine zbg ?_;refine zdx ?_;exact zsZ
     ·skip
      clear zf hn hTo hRo hws;rintro⟨n,f,hg,rows,tv,D,j⟩ ⟨zf,hn,hX,hTo,hRo,hws⟩;dsimp only at zf hn hX hTo hRo hws⊢;refine zL ?_;refine zc1 ?_;refine K.loopT (σ:=Nat) [(1,_),(2,_),(5,_),(7,_),(8,_),(10,_),(14,_)] (fun s kp_=>(20, .int .i64 (s:Nat))::kp_) (fun s=>fmH f++(oH toldE 47 ws wo++(D++((b2,cells [vc, .int .i64 c.page,vt, .int .i64 c.workers, .int .i64 c.grey, .int .i64 c.gens] 25)::F)))) (fun s=>s≤c.tn.length) (fun s=>c.tn.length-s) (0) jc ja (Nat.zero_le _) ?_;rintro t ht
      by_cases ht1:t<c.tn.length
      ·have ht1':((t:Nat):Int)<((c.tn.length:Nat):Int):=by omega
       obtain⟨h,hh⟩:=jh (l:=hf) (k:=t) (by rw[hlf];exact ht1)
       obtain⟨g,hg1⟩:=jh (l:=hg) (k:=t) (by rw[zf.len];exact ht1)
       obtain⟨x1,hx1⟩:=jh (l:=ws) (k:=t) (by rw[hwl];exact ht1)
       have hx1':ws[((t:Nat):Int).toNat]?=some x1:=hx1
       have hsl:=hws t x1 h hx1 hh
       have hMm:=fun A=>zMem (w0:=w0) (F:=A) zf
       have hWd:=fun A=>zWords (w0:=w0) (F:=A) zf hg1
       have hgl:g.s.W.x.length≤4294967296:=by
        have h1:=zf.mok
        have h2:f.m.R[t]?=some g.s.W.x:=by rw[zf.R,List.getElem?_map,hg1];rfl
        exact row_len h1 h2
       by_cases htj:((t:Nat):Int)=j
       ·have htj': ¬((t:Nat):Int)≠j:=fun e=>e htj
        refine zff ?_;refine zfF ?_;refine zn ?_;refine jn (hMm _) ja ?_;refine zn ?_;refine jB (hWd _) ja ?_;rintro _ _ ⟨o,ko,rfl,rfl⟩;refine ziF ?_;refine zaj ?_;refine zdJ ?_;refine zx ?_;refine zdD ?_;exact zq0
       ·have htj':((t:Nat):Int)≠j:=htj
        obtain⟨g',hg',hxx⟩:=hX.x t h hh htj
        rw[hg1] at hg'
        cases hg'
        refine zff ?_;refine zfF ?_;refine zn ?_;refine jn (hMm _) ja ?_;refine zn ?_;refine jB (hWd _) ja ?_;rintro _ _ ⟨o,ko,rfl,rfl⟩;refine ziF ?_;refine zM ?_;refine zkh ?_;refine zcK ?_;refine zl ?_;refine zn0 ?_;refine zl ?_;refine zu fun T hT=>?_;refine(CallV.fn (fSame_K (Sli.own jj ko rfl) (hsl.part ja) hgl)).mono ?_;rintro _ _ ⟨rfl,rfl⟩;rw[decide_eq_true hxx];refine ze ?_;clear hT T;refine zpI ?_;refine zA ?_;refine zdD ?_;exact zq0
      ·have ht1': ¬((t:Nat):Int)<((c.tn.length:Nat):Int):=by omega
       refine zkk ?_;refine zep ?_;exact KE.again ⟨i+1,n,f,hg,rows,tv,D⟩ jc ja ⟨hc1,hcc,hn,zf,hTo,hRo⟩ (by show l.length-(i+1)<l.length-i;omega)
   ·have hc2': ¬((i:Nat):Int)<60:=by omega
    refine zdV ?_;refine zh7 ?_;refine zA ?_;exact zgg
  ·have hc1': ¬((i:Nat):Int)<((l.length:Nat):Int):=by omega
   refine zce ?_;refine zcy ?_;refine zb1 ?_;exact zgg
end
end Go.Proofs.YtebiafomiemgbaaGreatDoor.Sw
