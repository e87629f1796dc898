/-What the law needs of its own,part 2. -/
import Derived.Test.YtebiafomiemgbaaGreatDoorWFmU4x1
set_option linter.unusedVariables false set_option linter.unusedSimpArgs false set_option linter.unusedVariables false
set_option linter.unusedSimpArgs false
namespace Go.Proofs.YtebiafomiemgbaaGreatDoor.Sw
set_option maxHeartbeats 8000000
open Go.Proofs.YtebiafomiemgbaaGreatDoor renaming lo → qL, hi → qH
open Go.RowKit
set_option maxRecDepth 10000
structure FsP where
 i:Nat
 n:Nat
 f:FmM
 hf:List HpP
 rows:List (List Int)
 tv:Value
 a:Nat
 m:Nat
 g:FmM
 hg:List HpP
 rows1:List (List Int)
 D:jb
 tv1:Value
structure FsQ where
 k:Nat
 a:Nat
 m:Nat
 g:FmM
 hg:List HpP
 rows1:List (List Int)
 D:jb
 tv1:Value
structure FsD where
 b:Nat
 g:FmM
section
variable {w0 : World} {F : jb} {c : Cfg} {vc vt v u : Value} {l lm : List jM}
set_option maxHeartbeats 16000000 in
theorem farmApart_K (hG:ji w0) (hR:Jc w0 F c vc vt) (hl:Sli w0 F faE v l) (hlo: ∀ x∈l,FActOk x) (hlm:Sli w0 F faE u lm) (hmo: ∀ x∈lm,FActOk x):Call Tryz.prog w0 3 [jr c vc vt,v,u] F (fun r H'=>r= .bool true∧H'=F):=by
 have haw:=fun A=>jcp (w0:=w0) (F:=A) hG
 have hsm:=fun A (hp:Part A F)=>jcI (hR.part hp)
 have hn1:=fun A (hp:Part A F) (hok:jz c=true)=>zNew hG (hR.part hp) hok
 obtain⟨hS,hT',o1,o2,l1,l2⟩:=hR
 obtain⟨ok,hok⟩: ∃ ok,okF c=ok:=⟨_,rfl⟩
 simp only[hok] at hsm;simp only[jr,jG] at hsm hn1⊢
 cases ok with
 |false=>
  refine Call.enter3 (n:=154) (by kernel_rfl) Tryz.func3 rfl rfl rfl ?_;refine zeu ?_;intro b3;refine zaQ ?_;exact zdC
 |true=>
  have hc:=okF_cfg hok
  have ht8:=(Jf hc).tn
  refine Call.enter3 (n:=154) (by kernel_rfl) Tryz.func3 rfl rfl rfl ?_;refine zj4 ?_;intro b3;refine zK ?_;refine zb3 ?_;rintro _ _ ⟨bf,f0,zf,rfl,rfl⟩;refine zcC ?_;refine zb3 ?_;rintro _ _ ⟨bg,g0,zg,rfl,rfl⟩;refine zhg ?_;refine zaX ?_;refine zd6 ?_;refine KL.e rfl (Eff.makeR (E:=toldE) (x0:=⟨none,0,0⟩) rfl rfl rfl rfl rfl rfl (by omega)) ?_;rintro _ _ ⟨o48,ok48,rfl,rfl⟩;refine zah ?_;refine zd6 ?_;refine KL.e rfl (Eff.makeR (E:=toldE) (x0:=⟨none,0,0⟩) rfl rfl rfl rfl rfl rfl (by omega)) ?_;rintro _ _ ⟨o52,ok52,rfl,rfl⟩
  have hE0:TnE c c 0 (newHs c) (newHs c):= .new hc hc (jc2.refl ht8.1)
  have ht0:=jb2 (w0:=w0) (F:=F) ok48 ht8.2
  have ht1:=jb2 (w0:=w0) (F:=F) ok52 ht8.2
  have ht0':ToldR w0 ((oH toldE 47 (List.replicate c.tn.length ⟨none,0,0⟩) o48++oH toldE 47 (List.replicate c.tn.length ⟨none,0,0⟩) o52)++F) (oV o48 c.tn.length) (List.replicate c.tn.length []):=by rw[List.append_assoc];exact ht0.part ja
  have ht1':ToldR w0 ((oH toldE 47 (List.replicate c.tn.length ⟨none,0,0⟩) o48++oH toldE 47 (List.replicate c.tn.length ⟨none,0,0⟩) o52)++F) (oV o52 c.tn.length) (List.replicate c.tn.length []):=by rw[List.append_assoc];exact ht1.part ja
  refine zah ?_;refine zbs ?_;refine K.loopT (σ:=FsP) [(1,_),(2,_),(7,_),(9,_)] (fun s kp_=>(14, .int .i64 (s.i:Nat))::(13, .int .i64 (s.a:Nat))::(11,s.tv)::(12,s.tv1)::kp_) (fun s=>fmH s.f++(fmH s.g++(s.D++F))) (fun s=>s.i≤l.length∧s.i≤80∧FmZ bf c s.hf s.n s.f∧s.n≤1+s.i*2∧s.a≤80∧FmZ bg c s.hg s.m s.g∧s.m≤1+(s.a+s.i)*2∧TnE c c 0 s.hf s.hg∧ToldR w0 (s.D++F) s.tv s.rows∧Jb s.rows s.i∧ToldR w0 (s.D++F) s.tv1 s.rows1∧Jb s.rows1 s.a) (fun s=>l.length-s.i) (⟨0,1,f0,newHs c,List.replicate c.tn.length [],_,0,1,g0,newHs c,List.replicate c.tn.length [],oH toldE 47 (List.replicate c.tn.length ⟨none,0,0⟩) o48++oH toldE 47 (List.replicate c.tn.length ⟨none,0,0⟩) o52,_⟩) jc (by simp only[List.append_assoc];exact ja) (⟨Nat.zero_le _,Nat.zero_le _,zf,by show 1≤1+0*2;omega,Nat.zero_le _,zg,by show 1≤1+(0+0)*2;omega,hE0,ht0',Jb.rep _,ht1',Jb.rep _⟩) ?_;clear hE0 ht0 ht1 ht0' ht1' zf zg ok48 ok52;rintro⟨i,n,f,hf,rows,tv,a,m,g,hg,rows1,D,tv1⟩ ⟨hi,hi8,zf,hn,ha8,zg,hm,hE,hTo,hRo,hTo1,hRo1⟩;dsimp only at hi hi8 zf hn ha8 zg hm hE hTo hRo hTo1 hRo1⊢
  by_cases hc1:i<l.length
  ·have hc1':((i:Nat):Int)<((l.length:Nat):Int):=by omega
   by_cases hcc:i<80
   ·have hc2':((i:Nat):Int)<80:=by omega
    skip
    refine zcB ?_;refine zqY ?_;refine zsP ?_;refine zj ?_;refine zku ?_
    (first|refine KL.skipG rfl rfl rfl ?_|refine KL.skipU rfl rfl rfl ?_|(refine KL.yes rfl rfl ?_;refine KL.v rfl (Val.isT (Val.lss rfl rfl) jO) ?_)|(refine KL.yes rfl rfl ?_;refine KL.v rfl (Val.isF (Val.lss rfl rfl) jO) ?_)|(refine KL.yes rfl rfl ?_;refine KL.v rfl (Val.lss rfl rfl) ?_))
    refine zr0 ?_;refine zR ?_;refine za4 ?_;refine byBlk ?_;refine K.cutT (σ:=FsQ) [(1,_),(2,_),(7,_),(9,_),(11,_),(14,_)] jc (fun s kp_=>(13, .int .i64 (s.a:Nat))::(12,s.tv1)::kp_) (fun s=>fmH f++(fmH s.g++(s.D++F))) (fun s=>s.a≤80∧FmZ bg c s.hg s.m s.g∧s.m≤1+(s.a+i)*2∧TnE c c 0 hf s.hg∧ToldR w0 (s.D++F) tv rows∧ToldR w0 (s.D++F) s.tv1 s.rows1∧Jb s.rows1 s.a) ?_ ?_
    ·skip
     refine zL ?_;refine zc1 ?_;refine K.loopT (σ:=FsQ) [(1,_),(2,_),(7,_),(9,_),(11,_),(14,_)] (fun s kp_=>(15, .int .i64 (s.k:Nat))::(13, .int .i64 (s.a:Nat))::(12,s.tv1)::kp_) (fun s=>fmH f++(fmH s.g++(s.D++F))) (fun s=>s.a≤80∧FmZ bg c s.hg s.m s.g∧s.m≤1+(s.a+i)*2∧TnE c c 0 hf s.hg∧ToldR w0 (s.D++F) tv rows∧ToldR w0 (s.D++F) s.tv1 s.rows1∧Jb s.rows1 s.a) (fun s=>2-s.k) (⟨0,a,m,g,hg,rows1,D,tv1⟩) jc ja (⟨ha8,zg,hm,hE,hTo,hTo1,hRo1⟩) ?_;clear ha8 zg hm hE hTo hTo1 hRo1;rintro⟨k,a,m,g,hg,rows1,D,tv1⟩ ⟨ha8,zg,hm,hE,hTo,hTo1,hRo1⟩;dsimp only at ha8 zg hm hE hTo hTo1 hRo1⊢
     by_cases hk2:k<2
     ·have hk2':((k:Nat):Int)<2:=by omega
      by_cases ha1:a<lm.length
      ·have ha1':((a:Nat):Int)<((lm.length:Nat):Int):=by omega
       by_cases ha2:a<80
       ·have ha2':((a:Nat):Int)<80:=by omega
        obtain⟨q,hq⟩:=jh ha1
        have hqo:=hmo q (List.mem_of_getElem? hq)
        have hu1:=hRo1.of (t:=q.t)
        have hop1:=fun A v (hS:Sli w0 A uE v (ofF rows1 q.t))=>jcf (w0:=w0) (F:=A) hqo hS hu1
        have hzo1:=jbX hqo hu1
        obtain⟨z,hz⟩: ∃ z,opA q (ofF rows1 q.t)=z:=⟨_,rfl⟩
        rw[hz] at hop1 hzo1;clear hz
        obtain⟨qt,qo,qH1,qV,qw,qk,qp,qu⟩:=q
        have hqu:qu<256:=hqo.u
        dsimp only at hop1
        cases qw with
        |true=>
         have hs1:=fun A=>zStep (w0:=w0) (F:=A) (p:=⟨qk,qp,qu⟩) hG zg (by omega) hqu rfl rfl
         simp only[pkV] at hs1;refine zaF ?_;refine zI ?_;refine zer ?_;refine zI ?_;refine zcx ?_;refine zI ?_;refine zpH ?_;refine zbQ ?_;intro b16;refine zeo ?_;refine zah ?_;refine zdy ?_;refine zak ?_;refine zj ?_;refine ziy ?_;rintro _ _ ⟨rfl,g1,zg1,rfl⟩;refine ziv ?_;exact KE.again ⟨k+1,a+1,m,g1,_,rows1,D,tv1⟩ jc ja ⟨ha2,zg1,by show m≤1+(a+1+i)*2;omega,hE.stepR,hTo,hTo1,hRo1.mono (by show a≤a+1;omega)⟩ (by show 2-(k+1)<2-k;omega)
        |false=>
         by_cases hq0:qt=0
         ·subst hq0;refine zaF ?_;refine zI ?_;refine zer ?_;refine zI ?_;refine zcx ?_;refine zI ?_;refine zpH ?_;refine zbQ ?_;intro b16;refine zeo ?_;refine zah ?_;refine zdy ?_;refine zp6 ?_;refine zN ?_;refine KL.v rfl (Val.neq rfl rfl) ?_;refine zdD ?_;exact KE.again ⟨k+1,a+1,m,g,hg,rows1,D,tv1⟩ jc ja ⟨ha2,zg,by show m≤1+(a+1+i)*2;omega,hE,hTo,hTo1,hRo1.mono (by show a≤a+1;omega)⟩ (by show 2-(k+1)<2-k;omega)
         ·have hq0':qt≠0:=hq0
          have hd2:=hE.doR (op:=z) (i:=qt) (by omega)
          have hlt:=zg.hlt (op:=z) (j:=qt)
          have hdo1:=fun A=>zDo (w0:=w0) (F:=A) (i:=qt) hG zg (by omega) hzo1 rfl rfl
          obtain⟨⟨⟨e,hh,w,addr,us,si,cy,ac⟩,er⟩,hs9,hv⟩: ∃ (q:SnP × Int) (h9:List HpP),faDo c hg qt z=(q,h9):=⟨_,_,rfl⟩
          rw[hv] at hd2 hlt;simp only[hv] at hdo1;dsimp only at hlt
          have hal:=fun A=>jbt (w0:=w0) (G:=A) (t:=qt) (w:=hh) hTo1 (hRo1.le (by omega))
          obtain⟨zc,zh,za,zb,zv⟩:=z
          unfold opV snV at hdo1;unfold opV at hop1;dsimp only at hdo1 hop1;clear hv;refine zaF ?_;refine zI ?_;refine zer ?_;refine zI ?_;refine zcx ?_;refine zI ?_;refine zpH ?_;refine zbQ ?_;intro b16;refine zeo ?_;refine zah ?_;refine zdy ?_;refine zp6 ?_;refine zN ?_;refine zM ?_;refine zaR ?_;refine K.cutT (σ:=FsD) [(1,_),(2,_),(7,_),(9,_),(11,_),(12,_),(13,_),(14,_),(15,_),(16,_)] jc (fun s kp_=>(17, .pointer (some ⟨s.b,0,none⟩))::kp_) (fun s=>(s.b,cells [.int .i64 e, .int .u64 (hh:Nat), .int .u64 w, .int .i64 addr, .int .i64 us, .int .i64 si, .int .i64 cy, .bool ac] 43)::(fmH s.g++(fmH f++((b16,cells [.int .i64 qt, .int .u8 (qo.c:Nat), .int .u64 (qo.h:Nat), .int .i64 qo.a, .int .i64 qo.b, .int .u64 (qo.v:Nat), .int .i64 qH1, .int .i64 qV, .bool false, .int .i64 qk, .int .i64 qp, .int .u8 (qu:Nat)] 40)::(D++F))))) (fun s=>FmZ bg c hs9 (m+2) s.g) ?_ ?_
          ·skip
           refine zJ ?_;refine K.drawn ((b16,cells [.int .i64 qt, .int .u8 (qo.c:Nat), .int .u64 (qo.h:Nat), .int .i64 qo.a, .int .i64 qo.b, .int .u64 (qo.v:Nat), .int .i64 qH1, .int .i64 qV, .bool false, .int .i64 qk, .int .i64 qp, .int .u8 (qu:Nat)] 40)::(D++F)) [(0,1),(1,1),(2,1),(3,1),(4,1),(5,1),(6,1),(7,3),(8,3),(9,3),(10,1),(11,1),(12,1),(13,2),(14,2),(15,0)] (by kernel_rfl) (by kernel_rfl) (by kernel_rfl) (by kernel_rfl) (by kernel_rfl) (by kernel_rfl) ja ?_;refine zP ?_;refine zcP ?_;refine zf4 ?_;refine KD.fork2 (x:=7) (y:=13) (o1:=[(8,3),(9,3),(10,1),(11,1),(12,1),(13,2),(14,2),(15,0)]) (o2:=[(7,2),(8,2),(9,2),(10,0),(11,0),(12,1),(14,2),(15,0)]) (by kernel_rfl) rfl rfl (by kernel_rfl) (by kernel_rfl) ?_ ?_
           ·refine zT fun T hT=>?_;refine(CallV.fn (of_K hTo1 ja)).mono ?_;rintro _ _ ⟨tv9,htv,rfl,rfl⟩;refine zi ?_;clear hT T;refine KD.fork2 (x:=8) (y:=13) (o1:=[(9,3),(10,1),(11,1),(12,1),(13,2),(14,2),(15,0)]) (o2:=[(8,2),(9,2),(10,0),(11,0),(12,1),(14,2),(15,0)]) (by kernel_rfl) rfl rfl (by kernel_rfl) (by kernel_rfl) ?_ ?_
            ·refine zT fun T hT=>?_;refine(CallV.fn (hop1 _ _ (htv.part ja))).mono ?_;rintro _ _ ⟨rfl,rfl⟩;refine zi ?_;clear hT T;refine KD.fork2 (x:=9) (y:=13) (o1:=[(10,1),(11,1),(12,1),(13,2),(14,2),(15,0)]) (o2:=[(9,2),(10,0),(11,0),(12,1),(14,2),(15,0)]) (by kernel_rfl) rfl rfl (by kernel_rfl) (by kernel_rfl) ?_ ?_
             ·refine zT fun T hT=>?_;refine zel ?_;rintro _ _ ⟨rfl,g1,zg1,rfl⟩;refine zi ?_;clear hT T;refine znx ?_;intro b17;exact zo2
             ·(refine jP.e rfl (Eff.alloc rfl) ?_;rintro _ _ ⟨b17,rfl,rfl⟩;refine⟨ja,?_⟩)
              refine zk fun T hT=>?_;refine zel ?_;rintro _ _ ⟨rfl,g1,zg1,rfl⟩;refine zi ?_;clear hT T;refine ze7 ?_;exact zo2
            ·(refine jP.e rfl (Eff.alloc rfl) ?_;rintro _ _ ⟨b17,rfl,rfl⟩;refine⟨ja,?_⟩)
             refine zk fun T hT=>?_;refine(CallV.fn (hop1 _ _ (htv.part ja))).mono ?_;rintro _ _ ⟨rfl,rfl⟩;refine zi ?_;clear hT T;refine zk fun T hT=>?_;refine zel ?_;rintro _ _ ⟨rfl,g1,zg1,rfl⟩;refine zi ?_;clear hT T;refine ze7 ?_;exact zo2
           ·(refine jP.e rfl (Eff.alloc rfl) ?_;rintro _ _ ⟨b17,rfl,rfl⟩;refine⟨ja,?_⟩)
            refine zk fun T hT=>?_;refine(CallV.fn (of_K hTo1 ja)).mono ?_;rintro _ _ ⟨tv9,htv,rfl,rfl⟩;refine zi ?_;clear hT T;refine zk fun T hT=>?_;refine(CallV.fn (hop1 _ _ (htv.part ja))).mono ?_;rintro _ _ ⟨rfl,rfl⟩;refine zi ?_;clear hT T;refine zk fun T hT=>?_;refine zel ?_;rintro _ _ ⟨rfl,g1,zg1,rfl⟩;refine zi ?_;clear hT T;refine ze7 ?_;exact zo2
          ·rintro⟨b17,g1⟩ zg1;dsimp only at zg1⊢;refine zeU ?_;refine ziz fun T hT=>?_;refine zfM ?_;rintro tv2 _ ⟨_,D2,hTo2,rfl,rfl⟩;refine ze ?_;clear hT T;refine zf6 ?_;exact KE.again ⟨k+1,a+1,m+2,g1,hs9,alsoF rows1 qt hh,D2++D,tv2⟩ jc (by simp only[List.append_assoc];exact ja) ⟨ha2,zg1,by show m+2≤1+(a+1+i)*2;omega,hd2,by simp only[List.append_assoc];exact hTo.part ja,by simp only[List.append_assoc];exact hTo2,hRo1.also hlt⟩ (by show 2-(k+1)<2-k;omega)
       ·have ha2': ¬((a:Nat):Int)<80:=by omega
        refine zaF ?_;refine zI ?_;refine zer ?_;refine zI ?_;refine zcx ?_;refine zW ?_;refine zA ?_;refine zdx ?_;exact zqZ
      ·have ha1': ¬((a:Nat):Int)<((lm.length:Nat):Int):=by omega
       refine zaF ?_;refine zI ?_;refine zer ?_;refine zW ?_;refine zA ?_;refine zb1 ?_;refine zdx ?_;exact zqZ
     ·have hk2': ¬((k:Nat):Int)<2:=by omega
      refine zaF ?_;refine zW ?_;refine zdT ?_;refine zx ?_;refine zb1 ?_;refine zdx ?_;exact zqZ
    ·skip
     clear ha8 zg hm hE hTo hTo1 hRo1;rintro⟨_,a,m,g,hg,rows1,D,tv1⟩ ⟨ha8,zg,hm,hE,hTo,hTo1,hRo1⟩;dsimp only at ha8 zg hm hE hTo hTo1 hRo1⊢
     obtain⟨x,hx⟩:=jh hc1
     have hxo:=hlo x (List.mem_of_getElem? hx)
     have hu:=hRo.of (t:=x.t)
     have hop:=fun A v (hS:Sli w0 A uE v (ofF rows x.t))=>jcf (w0:=w0) (F:=A) hxo hS hu
     have hzo:=jbX hxo hu
     obtain⟨z,hz⟩: ∃ z,opA x (ofF rows x.t)=z:=⟨_,rfl⟩
     rw[hz] at hop hzo;clear hz
     obtain⟨xt,xo,xH,xV,wk,xk,xp,xu⟩:=x
     have hxu:xu<256:=hxo.u
     dsimp only at hop
     cases wk with
     |true=>
      have hs1:=fun A=>zStep (w0:=w0) (F:=A) (p:=⟨xk,xp,xu⟩) hG zf (by omega) hxu rfl rfl
      simp only[pkV] at hs1;refine zg5 ?_;refine zj2 ?_;refine zpM ?_;intro b19;refine zbP ?_;refine ziy ?_;rintro _ _ ⟨rfl,f1,zf1,rfl⟩;refine za3 ?_;refine zix ?_;exact KE.again ⟨i+1,n,f1,_,rows,tv,a,m,g,hg,rows1,D,tv1⟩ jc ja ⟨hc1,hcc,zf1,by show n≤1+(i+1)*2;omega,ha8,zg,by show m≤1+(a+(i+1))*2;omega,hE.stepL,hTo,hRo.mono (by show i≤i+1;omega),hTo1,hRo1⟩ (by show l.length-(i+1)<l.length-i;omega)
     |false=>
      have hlt:=zf.hlt (op:=z) (j:=xt)
      have hdo1:=fun A=>zDo (w0:=w0) (F:=A) (i:=xt) hG zf (by omega) hzo rfl rfl
      by_cases h0:xt=0
      ·subst h0
       have hd:=hE.do_ (op:=z) hzo.v
       have hdo2:=fun A=>zDo (w0:=w0) (F:=A) (i:=0) hG zg (by omega) hzo hd.1 rfl
       have hd2:=hd.2
       have hd1:=hd.1
       have h00:((0:Nat):Int)=0:=rfl
       rw[h00] at hd1 hd2
       obtain⟨⟨⟨e,hh,w,addr,us,si,cy,ac⟩,er⟩,hs9,hv⟩: ∃ (q:SnP × Int) (h9:List HpP),faDo c hf 0 z=(q,h9):=⟨_,_,rfl⟩
       rw[hv] at hd1 hd2 hlt;simp only[hv] at hdo1;simp only[h00,hv] at hdo2;dsimp only at hlt
       have hal:=fun A=>jbt (w0:=w0) (G:=A) (t:=0) (w:=hh) hTo (hRo.le (by omega))
       obtain⟨zc,zh,za,zb,zv⟩:=z
       unfold opV snV at hdo1 hdo2;unfold opV at hop;dsimp only at hdo1 hdo2 hop;clear hv;refine zg5 ?_;refine zj2 ?_;refine zpM ?_;intro b19;refine zax ?_;refine K.cutT (σ:=FsC) [(1,_),(2,_),(7,_),(9,_),(11,_),(12,_),(13,_),(14,_),(19,_)] jc (fun s kp_=>(20, .pointer (some ⟨s.b,0,none⟩))::kp_) (fun s=>(s.b,cells [.int .u8 (zc:Nat), .int .u64 (zh:Nat), .int .i64 za, .int .i64 zb, .int .u64 (zv:Nat)] 36)::((b19,cells [.int .i64 0, .int .u8 (xo.c:Nat), .int .u64 (xo.h:Nat), .int .i64 xo.a, .int .i64 xo.b, .int .u64 (xo.v:Nat), .int .i64 xH, .int .i64 xV, .bool false, .int .i64 xk, .int .i64 xp, .int .u8 (xu:Nat)] 40)::(fmH f++(fmH g++(D++F))))) (fun s=>True) ?_ ?_
       ·skip
        refine zJ ?_;refine K.drawn ((b19,cells [.int .i64 0, .int .u8 (xo.c:Nat), .int .u64 (xo.h:Nat), .int .i64 xo.a, .int .i64 xo.b, .int .u64 (xo.v:Nat), .int .i64 xH, .int .i64 xV, .bool false, .int .i64 xk, .int .i64 xp, .int .u8 (xu:Nat)] 40)::(fmH f++(fmH g++(D++F)))) [(0,1),(1,1),(2,1),(3,1),(4,3),(5,3),(6,2),(7,2)] (by kernel_rfl) (by kernel_rfl) (by kernel_rfl) (by kernel_rfl) (by kernel_rfl) (by kernel_rfl) ja ?_;refine zf4 ?_;refine KD.fork2 (x:=4) (y:=6) (o1:=[(5,3),(6,2),(7,2)]) (o2:=[(4,2),(5,2),(7,2)]) (by kernel_rfl) rfl rfl (by kernel_rfl) (by kernel_rfl) ?_ ?_
        ·refine zT fun T hT=>?_;refine zcd ?_;rintro _ _ ⟨tv1,htv,rfl,rfl⟩;refine zi ?_;clear hT T;refine KD.fork2 (x:=5) (y:=6) (o1:=[(6,2),(7,2)]) (o2:=[(5,2),(7,2)]) (by kernel_rfl) rfl rfl (by kernel_rfl) (by kernel_rfl) ?_ ?_
         ·refine zT fun T hT=>?_;refine zaU ?_;rintro _ _ ⟨rfl,rfl⟩;refine zi ?_;clear hT T;refine zdd ?_;intro b20;exact zk4
         ·(refine jP.e rfl (Eff.alloc rfl) ?_;rintro _ _ ⟨b20,rfl,rfl⟩;refine⟨ja,?_⟩)
          refine zk fun T hT=>?_;refine zaU ?_;rintro _ _ ⟨rfl,rfl⟩;refine zi ?_;clear hT T;refine zbJ ?_;exact zk4
        ·(refine jP.e rfl (Eff.alloc rfl) ?_;rintro _ _ ⟨b20,rfl,rfl⟩;refine⟨ja,?_⟩)
         refine zk fun T hT=>?_;refine zcd ?_;rintro _ _ ⟨tv1,htv,rfl,rfl⟩;refine zi ?_;clear hT T;refine zk fun T hT=>?_;refine zaU ?_;rintro _ _ ⟨rfl,rfl⟩;refine zi ?_;clear hT T;refine zbJ ?_;exact zk4
       ·rintro⟨b20⟩ _;refine zkp ?_;rintro _ _ ⟨rfl,f1,zf1,rfl⟩;refine zbd ?_;intro b21;refine ziE ?_;refine zO ?_;refine zbP ?_;refine zcf ?_;refine jB (hdo2 _) ja ?_;rintro _ _ ⟨rfl,g1,zg1,rfl⟩;refine ziC ?_;intro b23;refine zR ?_;simp only[eq_self,decide_true,beq_self_eq_true,Bool.and_self,Bool.not_true];refine KE.next (K.condF rfl (K.skip (KE.next (K.region ?_))));refine ziz fun T hT=>?_;refine zfM ?_;rintro tv2 _ ⟨_,D2,hTo2,rfl,rfl⟩;refine ze ?_;clear hT T;refine zf6 ?_;exact KE.again ⟨i+1,n+2,f1,hs9,alsoF rows 0 hh,tv2,a,m+2,g1,_,rows1,D2++D,tv1⟩ jc (by simp only[List.append_assoc];exact ja) ⟨hc1,hcc,zf1,by show n+2≤1+(i+1)*2;omega,ha8,zg1,by show m+2≤1+(a+(i+1))*2;omega,hd2,by simp only[List.append_assoc];exact hTo2,hRo.also hlt,by simp only[List.append_assoc];exact hTo1.part ja,hRo1⟩ (by show l.length-(i+1)<l.length-i;omega)
      ·have hd2:=hE.doL (op:=z) (i:=xt) (by omega)
       obtain⟨⟨⟨e,hh,w,addr,us,si,cy,ac⟩,er⟩,hs9,hv⟩: ∃ (q:SnP × Int) (h9:List HpP),faDo c hf xt z=(q,h9):=⟨_,_,rfl⟩
       rw[hv] at hd2 hlt;simp only[hv] at hdo1;dsimp only at hlt
       have hal:=fun A=>jbt (w0:=w0) (G:=A) (t:=xt) (w:=hh) hTo (hRo.le (by omega))
       obtain⟨zc,zh,za,zb,zv⟩:=z
       unfold opV snV at hdo1;unfold opV at hop;dsimp only at hdo1 hop;clear hv;refine zg5 ?_;refine zj2 ?_;refine zpM ?_;intro b19;refine zax ?_;refine K.cutT (σ:=FsC) [(1,_),(2,_),(7,_),(9,_),(11,_),(12,_),(13,_),(14,_),(19,_)] jc (fun s kp_=>(20, .pointer (some ⟨s.b,0,none⟩))::kp_) (fun s=>(s.b,cells [.int .u8 (zc:Nat), .int .u64 (zh:Nat), .int .i64 za, .int .i64 zb, .int .u64 (zv:Nat)] 36)::((b19,cells [.int .i64 xt, .int .u8 (xo.c:Nat), .int .u64 (xo.h:Nat), .int .i64 xo.a, .int .i64 xo.b, .int .u64 (xo.v:Nat), .int .i64 xH, .int .i64 xV, .bool false, .int .i64 xk, .int .i64 xp, .int .u8 (xu:Nat)] 40)::(fmH f++(fmH g++(D++F))))) (fun s=>True) ?_ ?_
       ·skip
        refine zJ ?_;refine K.drawn ((b19,cells [.int .i64 xt, .int .u8 (xo.c:Nat), .int .u64 (xo.h:Nat), .int .i64 xo.a, .int .i64 xo.b, .int .u64 (xo.v:Nat), .int .i64 xH, .int .i64 xV, .bool false, .int .i64 xk, .int .i64 xp, .int .u8 (xu:Nat)] 40)::(fmH f++(fmH g++(D++F)))) [(0,1),(1,1),(2,1),(3,1),(4,3),(5,3),(6,2),(7,2)] (by kernel_rfl) (by kernel_rfl) (by kernel_rfl) (by kernel_rfl) (by kernel_rfl) (by kernel_rfl) ja ?_;refine zf4 ?_;refine KD.fork2 (x:=4) (y:=6) (o1:=[(5,3),(6,2),(7,2)]) (o2:=[(4,2),(5,2),(7,2)]) (by kernel_rfl) rfl rfl (by kernel_rfl) (by kernel_rfl) ?_ ?_
        ·refine zT fun T hT=>?_;refine zcd ?_;rintro _ _ ⟨tv1,htv,rfl,rfl⟩;refine zi ?_;clear hT T;refine KD.fork2 (x:=5) (y:=6) (o1:=[(6,2),(7,2)]) (o2:=[(5,2),(7,2)]) (by kernel_rfl) rfl rfl (by kernel_rfl) (by kernel_rfl) ?_ ?_
         ·refine zT fun T hT=>?_;refine zaU ?_;rintro _ _ ⟨rfl,rfl⟩;refine zi ?_;clear hT T;refine zdd ?_;intro b20;exact zk4
         ·(refine jP.e rfl (Eff.alloc rfl) ?_;rintro _ _ ⟨b20,rfl,rfl⟩;refine⟨ja,?_⟩)
          refine zk fun T hT=>?_;refine zaU ?_;rintro _ _ ⟨rfl,rfl⟩;refine zi ?_;clear hT T;refine zbJ ?_;exact zk4
        ·(refine jP.e rfl (Eff.alloc rfl) ?_;rintro _ _ ⟨b20,rfl,rfl⟩;refine⟨ja,?_⟩)
         refine zk fun T hT=>?_;refine zcd ?_;rintro _ _ ⟨tv1,htv,rfl,rfl⟩;refine zi ?_;clear hT T;refine zk fun T hT=>?_;refine zaU ?_;rintro _ _ ⟨rfl,rfl⟩;refine zi ?_;clear hT T;refine zbJ ?_;exact zk4
       ·rintro⟨b20⟩ _;refine zkp ?_;rintro _ _ ⟨rfl,f1,zf1,rfl⟩;refine zbd ?_;intro b21;refine ziE ?_;refine zC ?_;refine zdn ?_;refine ziz fun T hT=>?_;refine zfM ?_;rintro tv2 _ ⟨_,D2,hTo2,rfl,rfl⟩;refine ze ?_;clear hT T;refine zf6 ?_;exact KE.again ⟨i+1,n+2,f1,hs9,alsoF rows xt hh,tv2,a,m,g,hg,rows1,D2++D,tv1⟩ jc (by simp only[List.append_assoc];exact ja) ⟨hc1,hcc,zf1,by show n+2≤1+(i+1)*2;omega,ha8,zg,by show m≤1+(a+(i+1))*2;omega,hd2,by simp only[List.append_assoc];exact hTo2,hRo.also hlt,by simp only[List.append_assoc];exact hTo1.part ja,hRo1⟩ (by show l.length-(i+1)<l.length-i;omega)
   ·have hc2': ¬((i:Nat):Int)<80:=by omega
    refine zdV ?_;refine zh7 ?_;refine zA ?_;exact zgg
  ·have hc1': ¬((i:Nat):Int)<((l.length:Nat):Int):=by omega
   refine zce ?_;refine zcy ?_;refine zb1 ?_;exact zgg
end
end Go.Proofs.YtebiafomiemgbaaGreatDoor.Sw
