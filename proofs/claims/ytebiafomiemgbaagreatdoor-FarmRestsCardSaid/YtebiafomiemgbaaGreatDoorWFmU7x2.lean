/-What the law needs of its own,part 2. -/
import Derived.Test.YtebiafomiemgbaaGreatDoorWFmU7x1
set_option linter.unusedVariables false set_option linter.unusedSimpArgs false set_option linter.unusedVariables false
set_option linter.unusedSimpArgs false
namespace Go.Proofs.YtebiafomiemgbaaGreatDoor.Sw
set_option maxHeartbeats 8000000
open Go.Proofs.YtebiafomiemgbaaGreatDoor renaming lo → qL, hi → qH
open Go.RowKit
set_option maxRecDepth 10000
structure FsR where
 i:Nat
 n:Nat
 f:FmM
 hf:List HpP
 m:Nat
 g:FmM
 hg:List HpP
 rows:List (List Int)
 D:jb
 tv:Value
structure FsA where
 f:FmM
 hf:List HpP
structure FsT where
 f:FmM
 hf:List HpP
 n:Nat
section
variable {w0 : World} {F : jb} {c : Cfg} {vc vt v : Value} {l : List jM} {pk pt : Int} {pu : Nat}
set_option maxHeartbeats 16000000 in
theorem farmRests_K (hG:ji w0) (hR:Jc w0 F c vc vt) (q1:vc.oneCell'=true) (q2:vt.oneCell'=true) (hl:Sli w0 F faE v l) (hlo: ∀ x∈l,FActOk x) (hpu:pu<256):Call Tryz.prog w0 9 [jr c vc vt,v, .agg [.int .i64 pk, .int .i64 pt, .int .u8 (pu:Nat)].toArray] F (fun r H'=>r= .bool true∧H'=F):=by
 have haw:=fun A=>jcp (w0:=w0) (F:=A) hG
 have hsm:=fun A (hp:Part A F)=>jcI (hR.part hp)
 have hn1:=fun A (hp:Part A F) (hok:jz c=true)=>zNew hG (hR.part hp) hok
 obtain⟨hS,hT',o1,o2,l1,l2⟩:=hR
 obtain⟨ok,hok⟩: ∃ ok,okF c=ok:=⟨_,rfl⟩
 simp only[hok] at hsm;simp only[jr,jG] at hsm hn1⊢
 cases ok with
 |false=>
  refine Call.enter3 (n:=201) (by kernel_rfl) Tryz.func9 rfl rfl rfl ?_;refine zew ?_;intro b3 b5;refine zj0 ?_;refine zaQ ?_;exact zdC
 |true=>
  have hc:=okF_cfg hok
  have ht8:=(Jf hc).tn
  refine Call.enter3 (n:=201) (by kernel_rfl) Tryz.func9 rfl rfl rfl ?_;refine zew ?_;intro b3 b5;refine zj0 ?_;refine zy ?_;refine zK ?_;refine zb3 ?_;rintro _ _ ⟨bf,f0,zf,rfl,rfl⟩;refine zcC ?_;refine zb3 ?_;rintro _ _ ⟨bg,g0,zg,rfl,rfl⟩;refine zhg ?_;refine zaX ?_;refine zd6 ?_;refine KL.e rfl (Eff.makeR (E:=toldE) (x0:=⟨none,0,0⟩) rfl rfl rfl rfl rfl rfl (by omega)) ?_;rintro _ _ ⟨o48,ok48,rfl,rfl⟩
  have hE0:Jv c c (newHs c) (newHs c):= .new hc hc rfl fun t ht=>jc2.refl ht
  have hK0:jaF WkI c (newHs c):= .new hc fun _ _=>WkI.newK
  have ht0:=jb2 (w0:=w0) (F:=F) ok48 ht8.2
  refine zU ?_;refine za4 ?_;refine zU ?_;refine K.cutE (σ:=FsT) [(3,_),(5,_),(7,_)] jc (fun s kp_=>kp_) (fun s=>fmH s.f++((b3,cells [vc, .int .i64 c.page,vt, .int .i64 c.workers, .int .i64 c.grey, .int .i64 c.gens] 25)::((b5,cells [.int .i64 pk, .int .i64 pt, .int .u8 (pu:Nat)] 38)::F))) (fun s=>FmZ bf c s.hf s.n s.f∧s.n≤900000) ?_ ?_
  ·refine K.block ?_;refine K.loopT (σ:=FsR) [(1,_),(3,_),(5,_),(7,_),(9,_)] (fun s kp_=>(12, .int .i64 (s.i:Nat))::(11,s.tv)::kp_) (fun s=>fmH s.f++(fmH s.g++(s.D++((b3,cells [vc, .int .i64 c.page,vt, .int .i64 c.workers, .int .i64 c.grey, .int .i64 c.gens] 25)::((b5,cells [.int .i64 pk, .int .i64 pt, .int .u8 (pu:Nat)] 38)::F))))) (fun s=>s.i≤l.length∧s.i≤40∧FmZ bf c s.hf s.n s.f∧FmZ bg c s.hg s.m s.g∧s.n≤1+s.i*2∧s.m≤1+s.i*2∧Jv c c s.hf s.hg∧jaF WkI c s.hf∧ToldR w0 (s.D++F) s.tv s.rows∧Jb s.rows s.i) (fun s=>l.length-s.i) (⟨0,1,f0,newHs c,1,g0,newHs c,List.replicate c.tn.length [],oH toldE 47 (List.replicate c.tn.length ⟨none,0,0⟩) o48,_⟩) jc ja (⟨Nat.zero_le _,Nat.zero_le _,zf,zg,by show 1≤1+0*2;omega,by show 1≤1+0*2;omega,hE0,hK0,ht0,Jb.rep _⟩) ?_;clear hE0 hK0 ht0 zf zg ok48;rintro⟨i,n,f,hf,m,g,hg,rows,D,tv⟩ ⟨hi,hi8,zf,zg,hn,hm,hE,hK,hTo,hRo⟩;dsimp only at hi hi8 zf zg hn hm hE hK hTo hRo⊢
   by_cases hc1:i<l.length
   ·have hc1':((i:Nat):Int)<((l.length:Nat):Int):=by omega
    by_cases hcc:i<40
    ·have hc2':((i:Nat):Int)<40:=by omega
     obtain⟨x,hx⟩:=jh hc1
     have hxo:=hlo x (List.mem_of_getElem? hx)
     have hu:=hRo.of (t:=x.t)
     have hop:=fun A v (hS:Sli w0 A uE v (ofF rows x.t))=>jcf (w0:=w0) (F:=A) hxo hS hu
     have hzo:=jbX hxo hu
     obtain⟨z,hz⟩: ∃ z,opA x (ofF rows x.t)=z:=⟨_,rfl⟩
     rw[hz] at hop hzo;clear hz
     obtain⟨xt,xo,xH,xV,wk,xk,xp,xu⟩:=x
     have hxu:xu<256:=hxo.u
     dsimp only at hop
     cases wk with
     |true=>
      have hs1:=fun A=>zStep (w0:=w0) (F:=A) (p:=⟨xk,xp,xu⟩) hG zf (by omega) hxu rfl rfl
      have hs2:=fun A=>zStep (w0:=w0) (F:=A) (p:=⟨xk,xp,xu⟩) hG zg (by omega) hxu rfl rfl
      simp only[pkV] at hs1 hs2;refine zhe ?_;intro b13;refine zbP ?_;refine ziy ?_;rintro _ _ ⟨rfl,f1,zf1,rfl⟩;refine zcg ?_;refine zpN ?_;refine jB (hs2 _) ja ?_;rintro _ _ ⟨rfl,g1,zg1,rfl⟩;refine za3 ?_;refine zix ?_;exact KE.again ⟨i+1,n,f1,_,m,g1,_,rows,D,tv⟩ jc ja ⟨hc1,hcc,zf1,zg1,by show n≤1+(i+1)*2;omega,by show m≤1+(i+1)*2;omega,hE.stepL.stepR,hK.step jcb.wk,hTo,hRo.mono (by show i≤i+1;omega)⟩ (by show l.length-(i+1)<l.length-i;omega)
     |false=>
      refine zhe ?_;intro b13;refine zax ?_;refine K.cutT (σ:=FsA) [(1,_),(3,_),(5,_),(7,_),(9,_),(11,_),(12,_),(13,_)] jc (fun s kp_=>kp_) (fun s=>fmH s.f++((b13,cells [.int .i64 xt, .int .u8 (xo.c:Nat), .int .u64 (xo.h:Nat), .int .i64 xo.a, .int .i64 xo.b, .int .u64 (xo.v:Nat), .int .i64 xH, .int .i64 xV, .bool false, .int .i64 xk, .int .i64 xp, .int .u8 (xu:Nat)] 40)::(fmH g++(D++((b3,cells [vc, .int .i64 c.page,vt, .int .i64 c.workers, .int .i64 c.grey, .int .i64 c.gens] 25)::((b5,cells [.int .i64 pk, .int .i64 pt, .int .u8 (pu:Nat)] 38)::F)))))) (fun s=>FmZ bf c s.hf n s.f∧Jv c c s.hf hg∧jaF WkI c s.hf) ?_ ?_
      ·by_cases h3:((i:Nat):Int)%4=3
       ·have hrest:=fun A=>zRest (w0:=w0) (F:=A) (many:=200000) hG zf (by omega) (by decide) rfl rfl
        have hE1:Jv c c (faRest c (200000:Int).toNat hf).2 hg:=jhS (I:=fun q=>Jv c c q hg) (fun _ _ _ _ e=>e.stepL) _ _ hE
        have hK1:jaF WkI c (faRest c (200000:Int).toNat hf).2:=jhS (I:=fun q=>jaF WkI c q) (fun _ _ _ _ e=>e.step jcb.wk) _ _ hK
        have hend:oneT c (faRest c (200000:Int).toNat hf).2 0=none:=jk7 _ _ hK (mesS_le hok hK)
        obtain⟨⟨n1,h1⟩,hr⟩: ∃ q,faRest c (200000:Int).toNat hf=q:=⟨_,rfl⟩
        rw[hr] at hE1 hK1 hend;simp only[hr] at hrest;dsimp only at hE1 hK1 hend;clear hr
        skip
        refine zZ ?_;refine zlH ?_;refine zs0 ?_;refine zao ?_;refine zn ?_;refine jB (hrest _) ja ?_;rintro _ _ ⟨rfl,f1,zf1,rfl⟩
        by_cases hw:c.workers>0
        ·have hst:=fun A=>zStep (w0:=w0) (F:=A) (p:=⟨pk,pt,pu⟩) hG zf1 (by omega) hpu (rest_step hE1.len hend) rfl
         simp only[pkV] at hst;refine zal ?_;refine zby ?_;refine zaG ?_;refine zX ?_;refine zjW ?_;refine zp ?_;refine zqE ?_;rintro _ _ ⟨rfl,f2,zf2,rfl⟩;refine zA ?_;refine zat ?_;exact KE.meet ⟨f2,_⟩ jc ja ⟨zf2,hE1.stepL,hK1.step jcb.wk⟩
        ·refine zR ?_;refine zV ?_;refine zby ?_;refine zaA ?_;refine zbg ?_;refine zat ?_;exact KE.meet ⟨f1,h1⟩ jc ja ⟨zf1,hE1,hK1⟩
       ·skip
        refine zZ ?_;refine zlH ?_;refine zs0 ?_;refine zat ?_;exact KE.meet ⟨f,hf⟩ jc ja ⟨zf,hE,hK⟩
      ·clear zf hE hK;rintro⟨f,hf⟩ ⟨zf,hE,hK⟩;dsimp only at zf hE hK⊢
       obtain⟨hd1,hd2⟩:=hE.do_ (op:=z) (i:=xt) hzo.v
       have hK2:=hK.do_ jcb.wk (i:=xt) hzo.v
       have hlt:=zf.hlt (op:=z) (j:=xt)
       have hdo1:=fun A=>zDo (w0:=w0) (F:=A) (i:=xt) hG zf (by omega) hzo rfl rfl
       have hdo2:=fun A=>zDo (w0:=w0) (F:=A) (i:=xt) hG zg (by omega) hzo hd1 rfl
       obtain⟨⟨⟨e,hh,w,addr,us,si,cy,ac⟩,er⟩,hs9,hv⟩: ∃ (q:SnP × Int) (h9:List HpP),faDo c hf xt z=(q,h9):=⟨_,_,rfl⟩
       rw[hv] at hd1 hd2 hlt hK2;simp only[hv] at hdo1 hdo2;dsimp only at hlt hK2
       have hal:=fun A=>jbt (w0:=w0) (G:=A) (t:=xt) (w:=hh) hTo (hRo.le (by omega))
       obtain⟨zc,zh,za,zb,zv⟩:=z
       unfold opV snV at hdo1 hdo2;unfold opV at hop;dsimp only at hdo1 hdo2 hop;clear hv
       skip
       refine K.cutT (σ:=FsC) [(1,_),(3,_),(5,_),(7,_),(9,_),(11,_),(12,_),(13,_)] jc (fun s kp_=>(14, .pointer (some ⟨s.b,0,none⟩))::kp_) (fun s=>(s.b,cells [.int .u8 (zc:Nat), .int .u64 (zh:Nat), .int .i64 za, .int .i64 zb, .int .u64 (zv:Nat)] 36)::((b13,cells [.int .i64 xt, .int .u8 (xo.c:Nat), .int .u64 (xo.h:Nat), .int .i64 xo.a, .int .i64 xo.b, .int .u64 (xo.v:Nat), .int .i64 xH, .int .i64 xV, .bool false, .int .i64 xk, .int .i64 xp, .int .u8 (xu:Nat)] 40)::(fmH f++(fmH g++(D++((b3,cells [vc, .int .i64 c.page,vt, .int .i64 c.workers, .int .i64 c.grey, .int .i64 c.gens] 25)::((b5,cells [.int .i64 pk, .int .i64 pt, .int .u8 (pu:Nat)] 38)::F))))))) (fun s=>True) ?_ ?_
       ·skip
        refine zJ ?_;refine K.drawn ((b13,cells [.int .i64 xt, .int .u8 (xo.c:Nat), .int .u64 (xo.h:Nat), .int .i64 xo.a, .int .i64 xo.b, .int .u64 (xo.v:Nat), .int .i64 xH, .int .i64 xV, .bool false, .int .i64 xk, .int .i64 xp, .int .u8 (xu:Nat)] 40)::(fmH f++(fmH g++(D++((b3,cells [vc, .int .i64 c.page,vt, .int .i64 c.workers, .int .i64 c.grey, .int .i64 c.gens] 25)::((b5,cells [.int .i64 pk, .int .i64 pt, .int .u8 (pu:Nat)] 38)::F)))))) [(0,1),(1,1),(2,1),(3,1),(4,3),(5,3),(6,2),(7,2)] (by kernel_rfl) (by kernel_rfl) (by kernel_rfl) (by kernel_rfl) (by kernel_rfl) (by kernel_rfl) ja ?_;refine zf4 ?_;refine KD.fork2 (x:=4) (y:=6) (o1:=[(5,3),(6,2),(7,2)]) (o2:=[(4,2),(5,2),(7,2)]) (by kernel_rfl) rfl rfl (by kernel_rfl) (by kernel_rfl) ?_ ?_
        ·refine zT fun T hT=>?_;refine zcd ?_;rintro _ _ ⟨tv1,htv,rfl,rfl⟩;refine zi ?_;clear hT T;refine KD.fork2 (x:=5) (y:=6) (o1:=[(6,2),(7,2)]) (o2:=[(5,2),(7,2)]) (by kernel_rfl) rfl rfl (by kernel_rfl) (by kernel_rfl) ?_ ?_
         ·refine zT fun T hT=>?_;refine zaU ?_;rintro _ _ ⟨rfl,rfl⟩;refine zi ?_;clear hT T;refine zdd ?_;intro b14;exact KE.meet ⟨b14⟩ jc ja trivial
         ·(refine jP.e rfl (Eff.alloc rfl) ?_;rintro _ _ ⟨b14,rfl,rfl⟩;refine⟨ja,?_⟩)
          refine zk fun T hT=>?_;refine zaU ?_;rintro _ _ ⟨rfl,rfl⟩;refine zi ?_;clear hT T;refine zbJ ?_;exact KE.meet ⟨b14⟩ jc ja trivial
        ·(refine jP.e rfl (Eff.alloc rfl) ?_;rintro _ _ ⟨b14,rfl,rfl⟩;refine⟨ja,?_⟩)
         refine zk fun T hT=>?_;refine zcd ?_;rintro _ _ ⟨tv1,htv,rfl,rfl⟩;refine zi ?_;clear hT T;refine zk fun T hT=>?_;refine zaU ?_;rintro _ _ ⟨rfl,rfl⟩;refine zi ?_;clear hT T;refine zbJ ?_;exact KE.meet ⟨b14⟩ jc ja trivial
       ·rintro⟨b14⟩ _;refine zkp ?_;rintro _ _ ⟨rfl,f1,zf1,rfl⟩;refine zaO ?_;intro b15;refine zpQ ?_;refine jB (hdo2 _) ja ?_;rintro _ _ ⟨rfl,g1,zg1,rfl⟩;refine ziC ?_;intro b17;refine zpG ?_;refine zcz ?_;refine zdn ?_;refine ziz fun T hT=>?_;refine zfM ?_;rintro tv2 _ ⟨_,D2,hTo2,rfl,rfl⟩;refine ze ?_;clear hT T;refine zf6 ?_;exact KE.again ⟨i+1,n+2,f1,hs9,m+2,g1,_,alsoF rows xt hh,D2++D,tv2⟩ jc (by simp only[List.append_assoc];exact ja) ⟨hc1,hcc,zf1,zg1,by show n+2≤1+(i+1)*2;omega,by show m+2≤1+(i+1)*2;omega,hd2,hK2,by simp only[List.append_assoc];exact hTo2,hRo.also hlt⟩ (by show l.length-(i+1)<l.length-i;omega)
    ·have hc2': ¬((i:Nat):Int)<40:=by omega
     refine zdV ?_;refine zh7 ?_;refine zA ?_;refine zdx ?_;exact KE.meet ⟨f,hf,n⟩ jc ja ⟨zf,by show n≤_;omega⟩
   ·have hc1': ¬((i:Nat):Int)<((l.length:Nat):Int):=by omega
    refine zce ?_;refine zcy ?_;refine zb1 ?_;refine zdx ?_;exact KE.meet ⟨f,hf,n⟩ jc ja ⟨zf,by show n≤_;omega⟩
  ·clear hE0 hK0 ht0 zf zg ok48;rintro⟨f,hf,n⟩ ⟨zf,hn⟩;dsimp only at zf hn⊢
   have hno:=fun A i hi=>jig (w0:=w0) (F:=A) (i:=i) zf.ok hi
   have hfc:=zf.c
   simp only[zf.b,hfc] at hno
   have hno1:=fun A=>hno A (-1) (by omega)
   have hno2:=fun A=>hno A ((c.tn.length:Nat):Int) (by omega)
   clear hno
   have hnD:=fun A=>nDo_K (w0:=w0) (H:=A) (i:=0) (op:=op0)
   have hzD:=fun A b=>zfDo_K (w0:=w0) (H:=A) (b:=b) (i:=0) (op:=op0)
   have hnS:=fun A=>nStep_K (w0:=w0) (H:=A) (p:=⟨pk,pt,pu⟩)
   have hzS:=fun A b=>zfStep_K (w0:=w0) (H:=A) (b:=b) (p:=⟨pk,pt,pu⟩)
   unfold opV snV told op0 at hnD hzD;dsimp only at hnD hzD;simp only[pkV] at hnS hzS;unfold zfH at hzD hzS
   have hzR:=fun A b=>zfRest_K (w0:=w0) (H:=A) (b:=b) (many:=9) (by decide)
   have hzT:=fun A b=>jjv (w0:=w0) (H:=A) (b:=b)
   have hzM:=fun A b=>zfMem_K (w0:=w0) (H:=A) (b:=b)
   unfold zfH at hzR hzT hzM
   have e00:((0:Nat):Int)=0:=rfl
   rw[e00] at hnD;simp only[e00] at hzD;refine zav ?_;refine zci ?_;intro b123;refine zaN ?_;refine jp (hnD _) ?_;refine zbt ?_;intro b21;refine jn (hzD _ _) ja ?_;refine zaO ?_;intro b23;refine zg7 ?_;refine zO ?_;refine zcx ?_;refine zjW ?_;refine zp ?_;refine jp (hnS _) ?_;refine zeC ?_;refine zcx ?_;refine zjW ?_;refine zp ?_;refine jn (hzS _ _) ja ?_;refine zeC ?_;refine zit ?_;refine jp (nRest_K (by decide)) ?_;refine ziJ ?_;refine jn (hzR _ _) ja ?_;refine zl ?_;refine zbl ?_;refine ziJ ?_;refine jp (jjP) ?_;refine zl ?_;refine zbl ?_;refine ziJ ?_;refine jn (hzT _ _) ja ?_;refine zl ?_;refine zbl ?_;refine zfc ?_;refine zit ?_;refine jp (nHeap_K) ?_;refine zl ?_;refine zcq ?_;refine zit ?_;refine jn (hzM _ _) ja ?_;refine zl ?_;refine zcq ?_;refine zit ?_;refine jp (nConfig_K) ?_;refine zl ?_;refine zkW ?_;refine zl ?_;refine KL.v rfl (Val.lenS rfl rfl) ?_;refine zfc ?_;refine zit ?_;refine jn (hno1 _) ja ?_;refine zl ?_;refine zcq ?_;refine zcx ?_;refine ziD ?_;refine zp ?_;refine jn (hno2 _) ja ?_;refine zl ?_;refine zcq ?_;refine zbH ?_;exact zkq
end
end Go.Proofs.YtebiafomiemgbaaGreatDoor.Sw
