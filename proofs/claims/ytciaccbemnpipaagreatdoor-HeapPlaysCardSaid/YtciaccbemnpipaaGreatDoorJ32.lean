/-The walker and contracts, part 32.-/
import Derived.Test.YtciaccbemnpipaaGreatDoorJ26
set_option linter.all false
namespace Go.Proofs.YtciaccbemnpipaaGreatDoor.Sw
set_option maxHeartbeats 8000000
open Go.Proofs.YtciaccbemnpipaaGreatDoor renaming lo -> qL, hi -> qH
open Go.RowKit
set_option maxRecDepth 10000
structure StB where
 b:Nat
section
variable {w0 : World} {F : jb} {k : MkM} {B : BoM} {T : TbM} {N : PiM} {W : MwP} {m : MaP}
def jaV (k:MkM) (B:BoM) (T:TbM) (N:PiM) (F:jb) (m:MaP) (o:Option MaP) (r:Value) (H':jb):Prop:=
 r= .bool o.isSome/\ ∃ k',MkOk k' B.p/\MkTo k k'/\MkR k' B.p (o.getD m)/\H'=jr k' B.p++(planH B.p++(seenH B T N++F))
theorem mkStep1_K {i:Nat} (hG:ju w0) (hp:MpR k B T N W) (ok:MkOk k B.p) (hR:MkR k B.p m) (hm:jw B.p.g k.g.ring.length W m) (hst:m.steps<=1000000000) (hact:k.act=true) (hil:i<k.hs.length):
  Call Tryz.prog w0 102 [pt k.b, .int .i64 (i:Nat), .int .u8 1] (jr k B.p++(planH B.p++(seenH B T N++F))) (jaV k B T N F m ((Jo B.p.g k.g.ring.length W m i 1).map upM)):=by
 have okp:=hp.bo.p
 have ho:=ok.o
 obtain⟨h,hkh⟩:=jq hil
 have hmh:m.hs[i]?=some h:=by rw[<-hR.hs];exact hkh
 have hih:i<m.hs.length:=jl hmh
 have hac:=fun A=>jcZ (w0:=w0) (F:=A) (k:=k) (p:=B.p)
 simp only[hact] at hac
 have hge: ¬((i:Nat):Int)>=(k.hs.length:Nat):=by omega
 have hstp: ∀ m1:MaP,Jo B.p.g k.g.ring.length W m i 1=some m1->m1.steps<=1000000000:=fun m1 h=>by
  have:=(jcl okp.g hm hih h).2.2.1
  omega
 unfold jaV
 have hmc:Jo B.p.g k.g.ring.length W m i 1=rootM B.p.g k.g.ring.length W m:=rfl
 rw[hmc];refine zV ?_;refine yr10 ?_;refine zA ?_;simp only[js,seenH_app];refine yr27 ?_;refine K.cutT (σ:=StB) [(0,_)] jg (fun s kp_=>(7, .pointer (some (adr (oV k.o k.hs.length) (i*Jn.sz))))::(8,pt s.b)::kp_) (fun s=>jr k B.p++(planH B.p++(seenH B T N++((s.b,cells [.bool false, .bool true, .func (.func 262) #[] #[]] 294)::F)))) (fun s=>True) ?_ ?_
 ·skip
  refine zi ?_;refine za7 ?_;refine yr7 ?_;refine KD.fork2 (x:=6) (y:=9) (o1:=[(8,1),(9,2),(10,0),(11,2)]) (o2:=[(6,2),(8,0),(10,0),(11,2)]) bu rfl rfl bu bu ?_ ?_
  ·refine zk fun T hT=>?_;refine zZ ?_;rintro _ _ ⟨rfl,rfl⟩;unfold jb2;refine zf ?_;clear hT T;refine za8 ?_;refine yr1 ?_;intro b8;refine yr5 ?_;exact z3
  ·(refine jR.e rfl (Eff.alloc rfl) ?_;rintro _ _ ⟨b8,rfl,rfl⟩;refine⟨ja,?_⟩)
   refine zj fun T hT=>?_;refine zZ ?_;rintro _ _ ⟨rfl,rfl⟩;unfold jb2;refine zf ?_;clear hT T;refine za9 ?_;refine yr4 ?_;exact z3
 ·rintro⟨b8⟩ _;dsimp only
  have hsk:=fun A=>mkseek_K (w0:=w0) (F:=A) (hv:= .pointer (some (adr (oV k.o k.hs.length) (i*Jn.sz)))) hp ok hR hm
  cases hrm:rootM B.p.g k.g.ring.length W m with
  |none=>
   simp only[hrm,Option.isSome,Option.getD,Option.map] at hsk|-;refine yr2 ?_;refine z6 ?_;refine yr17 ?_;refine zo fun T hT=>?_;refine zcf ?_;rintro _ _ ⟨rfl,k',kok,kto,kR,rfl⟩;refine zf ?_;clear hT T;refine yr12 ?_;exact KE.fin (H':=jr k' B.p++(planH B.p++(seenH B T N++F))) jd rfl jc bj ⟨rfl,k',kok,kto,kR,by simp only[js,seenH_app]⟩
  |some m1=>
   have hst1:=hstp m1 (hmc.trans hrm)
   simp only[hrm,Option.isSome,Option.getD,Option.map] at hsk|-;refine yr2 ?_;refine z6 ?_;refine yr17 ?_;refine zo fun T hT=>?_;refine zcf ?_;rintro _ _ ⟨rfl,k',kok,kto,kR,rfl⟩;refine zf ?_;clear hT T;rw[<-kto.b]
   have e5:((k'.steps:Nat):Int)+1=((k'.steps+1:Nat):Int):=by omega
   have hks:k'.steps<=1000000000:=by rw[kR.steps];exact hst1
   simp only[js,seenH_app];refine yr25 ?_;rw[e5];exact KE.fin (H':=jr {k' with steps:=k'.steps+1} B.p++(planH B.p++(seenH B T N++F))) jd rfl jc bN
    ⟨rfl,{k' with steps:=k'.steps+1},⟨kok.c,kok.g,kok.n,kok.o,kok.hs⟩,⟨⟨kto.b,kto.bb,kto.tb,kto.nb,kto.n,kto.l⟩,kto.f,kto.cb,kto.gb,kto.o⟩,⟨kR.C,kR.G,kR.hs,kR.root,kR.act,by show k'.steps+1=_+1;rw [kR.steps]⟩,by simp only[js,seenH_app]⟩
theorem mkStep2_K {i:Nat} (hG:ju w0) (hp:MpR k B T N W) (ok:MkOk k B.p) (hR:MkR k B.p m) (hm:jw B.p.g k.g.ring.length W m) (hst:m.steps<=1000000000) (hact:k.act=true) (hil:i<k.hs.length):
  Call Tryz.prog w0 102 [pt k.b, .int .i64 (i:Nat), .int .u8 2] (jr k B.p++(planH B.p++(seenH B T N++F))) (jaV k B T N F m ((Jo B.p.g k.g.ring.length W m i 2).map upM)):=by
 have okp:=hp.bo.p
 have ho:=ok.o
 obtain⟨h,hkh⟩:=jq hil
 have hmh:m.hs[i]?=some h:=by rw[<-hR.hs];exact hkh
 have hih:i<m.hs.length:=jl hmh
 have hac:=fun A=>jcZ (w0:=w0) (F:=A) (k:=k) (p:=B.p)
 simp only[hact] at hac
 have hge: ¬((i:Nat):Int)>=(k.hs.length:Nat):=by omega
 have hstp: ∀ m1:MaP,Jo B.p.g k.g.ring.length W m i 2=some m1->m1.steps<=1000000000:=fun m1 h=>by
  have:=(jcl okp.g hm hih h).2.2.1
  omega
 unfold jaV
 have hmc:Jo B.p.g k.g.ring.length W m i 2=takeM m i:=rfl
 rw[hmc];refine zV ?_;refine yr10 ?_;refine zA ?_;simp only[js,seenH_app];refine yr27 ?_;refine K.cutT (σ:=StB) [(0,_)] jg (fun s kp_=>(7, .pointer (some (adr (oV k.o k.hs.length) (i*Jn.sz))))::(8,pt s.b)::kp_) (fun s=>jr k B.p++(planH B.p++(seenH B T N++((s.b,cells [.bool false, .bool false, .func (.func 263) #[] #[]] 294)::F)))) (fun s=>True) ?_ ?_
 ·skip
  refine zi ?_;refine za7 ?_;refine yr7 ?_;refine KD.fork2 (x:=6) (y:=9) (o1:=[(8,1),(9,2),(10,0),(11,2)]) (o2:=[(6,2),(8,0),(10,0),(11,2)]) bu rfl rfl bu bu ?_ ?_
  ·refine zk fun T hT=>?_;refine zZ ?_;rintro _ _ ⟨rfl,rfl⟩;unfold jb2;refine zf ?_;clear hT T;refine za8 ?_;refine yr1 ?_;intro b8;refine yr5 ?_;exact z3
  ·(refine jR.e rfl (Eff.alloc rfl) ?_;rintro _ _ ⟨b8,rfl,rfl⟩;refine⟨ja,?_⟩)
   refine zj fun T hT=>?_;refine zZ ?_;rintro _ _ ⟨rfl,rfl⟩;unfold jb2;refine zf ?_;clear hT T;refine za9 ?_;refine yr4 ?_;exact z3
 ·rintro⟨b8⟩ _;dsimp only
  obtain⟨hsl,hfi,hi⟩:=h
  cases hi with
  |true=>
   have hmn:takeM m i=none:=by unfold takeM;rw [jaG hmh];rfl
   rw[hmn];simp only[Option.isSome,Option.getD,Option.map];simp only[js,seenH_app];refine yr2 ?_;refine z6 ?_;refine yr30 ?_;exact zap
  |false=>
   simp only[js,seenH_app];refine yr2 ?_;refine z6 ?_;refine yr17 ?_;refine zo fun T hT=>?_;refine(CallV.part (CallV.fn (mktake_K ok hR hil)) bj).mono ?_;rintro _ _ (⟨hq,rfl,rfl⟩|⟨s,q,k',hq,rfl,kok,kto,kR,rfl⟩)
   ·have hmn:takeM m i=none:=by unfold takeM;rw [jaG hmh,if_neg bF,hq]
    refine zf ?_;clear hT T;rw[hmn];simp only[Option.isSome,Option.getD,Option.map];refine yr12 ?_;exact zap
   ·have hmn:takeM m i=some {m with G:={m.G with q:=q},hs:=m.hs.set i ⟨(s:Nat),0,true⟩}:=by unfold takeM;rw [jaG hmh,if_neg bF,hq]
    have hst1:=hstp _ (hmc.trans hmn)
    refine zf ?_;clear hT T;rw[hmn];simp only[Option.isSome,Option.getD,Option.map];rw[<-kto.b]
    have e5:((k'.steps:Nat):Int)+1=((k'.steps+1:Nat):Int):=by omega
    have hks:k'.steps<=1000000000:=by rw[kR.steps];exact hst1
    simp only[js,seenH_app];refine yr25 ?_;rw[e5];exact KE.fin (H':=jr {k' with steps:=k'.steps+1} B.p++(planH B.p++(seenH B T N++F))) jd rfl jc bN
     ⟨rfl,{k' with steps:=k'.steps+1},⟨kok.c,kok.g,kok.n,kok.o,kok.hs⟩,⟨⟨kto.b,kto.bb,kto.tb,kto.nb,kto.n,kto.l⟩,kto.f,kto.cb,kto.gb,kto.o⟩,⟨kR.C,kR.G,kR.hs,kR.root,kR.act,by show k'.steps+1=_+1;rw [kR.steps]⟩,by simp only[js,seenH_app]⟩
theorem mkStep3_K {i:Nat} (hG:ju w0) (hp:MpR k B T N W) (ok:MkOk k B.p) (hR:MkR k B.p m) (hm:jw B.p.g k.g.ring.length W m) (hst:m.steps<=1000000000) (hact:k.act=true) (hil:i<k.hs.length):
  Call Tryz.prog w0 102 [pt k.b, .int .i64 (i:Nat), .int .u8 3] (jr k B.p++(planH B.p++(seenH B T N++F))) (jaV k B T N F m ((Jo B.p.g k.g.ring.length W m i 3).map upM)):=by
 have okp:=hp.bo.p
 have ho:=ok.o
 obtain⟨h,hkh⟩:=jq hil
 have hmh:m.hs[i]?=some h:=by rw[<-hR.hs];exact hkh
 have hih:i<m.hs.length:=jl hmh
 have hac:=fun A=>jcZ (w0:=w0) (F:=A) (k:=k) (p:=B.p)
 simp only[hact] at hac
 have hge: ¬((i:Nat):Int)>=(k.hs.length:Nat):=by omega
 have hstp: ∀ m1:MaP,Jo B.p.g k.g.ring.length W m i 3=some m1->m1.steps<=1000000000:=fun m1 h=>by
  have:=(jcl okp.g hm hih h).2.2.1
  omega
 unfold jaV
 have hmc:Jo B.p.g k.g.ring.length W m i 3=scanM B.p.g k.g.ring.length W m i:=rfl
 rw[hmc];refine zV ?_;refine yr10 ?_;refine zA ?_;simp only[js,seenH_app];refine yr27 ?_;refine K.cutT (σ:=StB) [(0,_)] jg (fun s kp_=>(7, .pointer (some (adr (oV k.o k.hs.length) (i*Jn.sz))))::(8,pt s.b)::kp_) (fun s=>jr k B.p++(planH B.p++(seenH B T N++((s.b,cells [.bool true, .bool false, .func (.func 266) #[] #[]] 294)::F)))) (fun s=>True) ?_ ?_
 ·skip
  refine zi ?_;refine za7 ?_;refine yr7 ?_;refine KD.fork2 (x:=6) (y:=9) (o1:=[(8,1),(9,2),(10,0),(11,2)]) (o2:=[(6,2),(8,0),(10,0),(11,2)]) bu rfl rfl bu bu ?_ ?_
  ·refine zk fun T hT=>?_;refine zZ ?_;rintro _ _ ⟨rfl,rfl⟩;unfold jb2;refine zf ?_;clear hT T;refine za8 ?_;refine yr1 ?_;intro b8;refine yr5 ?_;exact z3
  ·(refine jR.e rfl (Eff.alloc rfl) ?_;rintro _ _ ⟨b8,rfl,rfl⟩;refine⟨ja,?_⟩)
   refine zj fun T hT=>?_;refine zZ ?_;rintro _ _ ⟨rfl,rfl⟩;unfold jb2;refine zf ?_;clear hT T;refine za9 ?_;refine yr4 ?_;exact z3
 ·rintro⟨b8⟩ _;dsimp only
  obtain⟨hsl,hfi,hi⟩:=h
  cases hi with
  |false=>
   have hmn:scanM B.p.g k.g.ring.length W m i=none:=by unfold scanM;rw [jaG hmh];rfl
   rw[hmn];simp only[Option.isSome,Option.getD,Option.map];simp only[js,seenH_app];refine yr2 ?_;refine z6 ?_;refine yr30 ?_;exact zap
  |true=>
   simp only[js,seenH_app];refine yr2 ?_;refine z6 ?_;refine yr17 ?_;refine zo fun T hT=>?_;refine(CallV.part (CallV.fn (mkscan_K hG hp ok hR hm hkh rfl)) bj).mono ?_;rintro _ _ ⟨rfl,m1,k',hmn,kok,kto,kR,rfl⟩
   have hst1:=hstp _ (hmc.trans hmn)
   refine zf ?_;clear hT T;rw[hmn];simp only[Option.isSome,Option.getD,Option.map];rw[<-kto.b]
   have e5:((k'.steps:Nat):Int)+1=((k'.steps+1:Nat):Int):=by omega
   have hks:k'.steps<=1000000000:=by rw[kR.steps];exact hst1
   simp only[js,seenH_app];refine yr25 ?_;rw[e5];exact KE.fin (H':=jr {k' with steps:=k'.steps+1} B.p++(planH B.p++(seenH B T N++F))) jd rfl jc bN
    ⟨rfl,{k' with steps:=k'.steps+1},⟨kok.c,kok.g,kok.n,kok.o,kok.hs⟩,⟨⟨kto.b,kto.bb,kto.tb,kto.nb,kto.n,kto.l⟩,kto.f,kto.cb,kto.gb,kto.o⟩,⟨kR.C,kR.G,kR.hs,kR.root,kR.act,by show k'.steps+1=_+1;rw [kR.steps]⟩,by simp only[js,seenH_app]⟩
theorem mkStep4_K {i:Nat} (hG:ju w0) (hp:MpR k B T N W) (ok:MkOk k B.p) (hR:MkR k B.p m) (hm:jw B.p.g k.g.ring.length W m) (hst:m.steps<=1000000000) (hact:k.act=true) (hil:i<k.hs.length):
  Call Tryz.prog w0 102 [pt k.b, .int .i64 (i:Nat), .int .u8 4] (jr k B.p++(planH B.p++(seenH B T N++F))) (jaV k B T N F m ((Jo B.p.g k.g.ring.length W m i 4).map upM)):=by
 have okp:=hp.bo.p
 have ho:=ok.o
 obtain⟨h,hkh⟩:=jq hil
 have hmh:m.hs[i]?=some h:=by rw[<-hR.hs];exact hkh
 have hih:i<m.hs.length:=jl hmh
 have hac:=fun A=>jcZ (w0:=w0) (F:=A) (k:=k) (p:=B.p)
 simp only[hact] at hac
 have hge: ¬((i:Nat):Int)>=(k.hs.length:Nat):=by omega
 have hstp: ∀ m1:MaP,Jo B.p.g k.g.ring.length W m i 4=some m1->m1.steps<=1000000000:=fun m1 h=>by
  have:=(jcl okp.g hm hih h).2.2.1
  omega
 unfold jaV
 have hmc:Jo B.p.g k.g.ring.length W m i 4=walkM B.p.g m i:=rfl
 rw[hmc];refine zV ?_;refine yr10 ?_;refine zA ?_;simp only[js,seenH_app];refine yr27 ?_;refine K.cutT (σ:=StB) [(0,_)] jg (fun s kp_=>(7, .pointer (some (adr (oV k.o k.hs.length) (i*Jn.sz))))::(8,pt s.b)::kp_) (fun s=>jr k B.p++(planH B.p++(seenH B T N++((s.b,cells [.bool false, .bool false, .func (.func 267) #[] #[]] 294)::F)))) (fun s=>True) ?_ ?_
 ·skip
  refine zi ?_;refine za7 ?_;refine yr7 ?_;refine KD.fork2 (x:=6) (y:=9) (o1:=[(8,1),(9,2),(10,0),(11,2)]) (o2:=[(6,2),(8,0),(10,0),(11,2)]) bu rfl rfl bu bu ?_ ?_
  ·refine zk fun T hT=>?_;refine zZ ?_;rintro _ _ ⟨rfl,rfl⟩;unfold jb2;refine zf ?_;clear hT T;refine za8 ?_;refine yr1 ?_;intro b8;refine yr5 ?_;exact z3
  ·(refine jR.e rfl (Eff.alloc rfl) ?_;rintro _ _ ⟨b8,rfl,rfl⟩;refine⟨ja,?_⟩)
   refine zj fun T hT=>?_;refine zZ ?_;rintro _ _ ⟨rfl,rfl⟩;unfold jb2;refine zf ?_;clear hT T;refine za9 ?_;refine yr4 ?_;exact z3
 ·rintro⟨b8⟩ _;dsimp only
  obtain⟨hsl,hfi,hi⟩:=h
  cases hi with
  |true=>
   have hmn:walkM B.p.g m i=none:=by unfold walkM;rw [jaG hmh];rfl
   rw[hmn];simp only[Option.isSome,Option.getD,Option.map];simp only[js,seenH_app];refine yr2 ?_;refine z6 ?_;refine yr30 ?_;exact zap
  |false=>
   simp only[js,seenH_app];refine yr2 ?_;refine z6 ?_;refine yr17 ?_;refine zo fun T hT=>?_;refine(CallV.part (CallV.fn (mkwalk_K hG ok hR hm hil)) bj).mono ?_;rintro _ _ (⟨hq,rfl,rfl⟩|⟨o,G',k',hq,rfl,kok,kto,kR,rfl⟩)
   ·have hmn:walkM B.p.g m i=none:=jiX hq
    refine zf ?_;clear hT T;rw[hmn];simp only[Option.isSome,Option.getD,Option.map];refine yr12 ?_;exact zap
   ·have hmn:walkM B.p.g m i=some (wtM m i o G'):=jhS (by rw[jaG hmh]) hq
    have hst1:=hstp _ (hmc.trans hmn)
    refine zf ?_;clear hT T;rw[hmn];simp only[Option.isSome,Option.getD,Option.map];rw[<-kto.b]
    have e5:((k'.steps:Nat):Int)+1=((k'.steps+1:Nat):Int):=by omega
    have hks:k'.steps<=1000000000:=by rw[kR.steps];exact hst1
    simp only[js,seenH_app];refine yr25 ?_;rw[e5];exact KE.fin (H':=jr {k' with steps:=k'.steps+1} B.p++(planH B.p++(seenH B T N++F))) jd rfl jc bN
     ⟨rfl,{k' with steps:=k'.steps+1},⟨kok.c,kok.g,kok.n,kok.o,kok.hs⟩,⟨⟨kto.b,kto.bb,kto.tb,kto.nb,kto.n,kto.l⟩,kto.f,kto.cb,kto.gb,kto.o⟩,⟨kR.C,kR.G,kR.hs,kR.root,kR.act,by show k'.steps+1=_+1;rw [kR.steps]⟩,by simp only[js,seenH_app]⟩
theorem mkStep_no {hd:Int} {u:Nat} (ok:MkOk k B.p) (hR:MkR k B.p m) (hu:u<256) (hno: ¬(k.act=true/\0<=hd/\hd<(k.hs.length:Nat)/\1<=u/\u<=4)):
  Call Tryz.prog w0 102 [pt k.b, .int .i64 hd, .int .u8 (u:Nat)] (jr k B.p++(planH B.p++(seenH B T N++F))) (jaV k B T N F m none):=by
 have ho:=ok.o
 have hac:=fun A=>jcZ (w0:=w0) (F:=A) (k:=k) (p:=B.p)
 unfold jaV;simp only[Option.isSome,Option.getD]
 cases ha:k.act with
 |false=>
  simp only[ha] at hac;refine zV ?_;refine yr10 ?_;refine zA ?_;simp only[js,seenH_app];refine yr32 ?_;exact zaI
 |true=>
  simp only[ha] at hac
  have hno':hd<0\/(¬hd<0/\hd>=(k.hs.length:Nat))\/(¬hd<0/\ ¬hd>=(k.hs.length:Nat)/\((u:Nat):Int)<1)\/(¬hd<0/\ ¬hd>=(k.hs.length:Nat)/\ ¬((u:Nat):Int)<1/\((u:Nat):Int)>4):=by
   by_cases c1:hd<0
   ·exact .inl c1
   ·by_cases c2:hd>=(k.hs.length:Nat)
    ·exact .inr (.inl ⟨c1,c2⟩)
    ·by_cases c3:((u:Nat):Int)<1
     ·exact .inr (.inr (.inl ⟨c1,c2,c3⟩))
     ·exact .inr (.inr (.inr ⟨c1,c2,c3,by have: ¬u<=4:=fun h=>hno ⟨ha,by omega,by omega,by omega,h⟩;omega⟩))
  rcases hno' with c1|⟨c1,c2⟩|⟨c1,c2,c3⟩|⟨c1,c2,c3,c4⟩
  ·refine zV ?_;refine yr10 ?_;refine zA ?_;simp only[js,seenH_app];refine yr32 ?_;exact zaI
  ·refine zV ?_;refine yr10 ?_;refine zA ?_;simp only[js,seenH_app];refine yr32 ?_;exact zaI
  ·refine zV ?_;refine yr10 ?_;refine zA ?_;simp only[js,seenH_app];refine yr32 ?_;exact zaI
  ·refine zV ?_;refine yr10 ?_;refine zA ?_;simp only[js,seenH_app];refine yr32 ?_;exact zaI
theorem mkStep_K {hd:Int} {u:Nat} (hG:ju w0) (hp:MpR k B T N W) (ok:MkOk k B.p) (hR:MkR k B.p m) (hm:jw B.p.g k.g.ring.length W m) (hst:m.steps<=1000000000) (hu:u<256):
  Call Tryz.prog w0 102 [pt k.b, .int .i64 hd, .int .u8 (u:Nat)] (jr k B.p++(planH B.p++(seenH B T N++F))) (jaV k B T N F m (stepM B.p.g k.g.ring.length W m hd (u:Nat))):=by
 have hact:=hR.act
 have hhs:=hR.hs
 by_cases hy:k.act=true/\0<=hd/\hd<(k.hs.length:Nat)/\1<=u/\u<=4
 ·obtain⟨h1,h2,h3,h4,h5⟩:=hy
  obtain⟨i,rfl⟩: ∃ i:Nat,hd=i:=⟨hd.toNat,by omega⟩
  have hs: ∀ q:Int,stepM B.p.g k.g.ring.length W m (i:Nat) q=(Jo B.p.g k.g.ring.length W m i q).map upM:=fun q=>by
   unfold stepM;rw[if_pos ⟨by rw[<-hact];exact h1,by omega,by rw[<-hhs];exact h3⟩,Int.toNat_natCast]
  rw[hs]
  rcases(show u=1\/u=2\/u=3\/u=4 by omega) with rfl|rfl|rfl|rfl
  ·exact mkStep1_K hG hp ok hR hm hst h1 bc
  ·exact mkStep2_K hG hp ok hR hm hst h1 bc
  ·exact mkStep3_K hG hp ok hR hm hst h1 bc
  ·exact mkStep4_K hG hp ok hR hm hst h1 bc
 ·have hs:stepM B.p.g k.g.ring.length W m hd (u:Nat)=none:=by
   unfold stepM
   split
   ·rename_i hc
    have:Jo B.p.g k.g.ring.length W m hd.toNat (u:Nat)=none:=by
     unfold Jo;rw[<-hact,<-hhs] at hc
     have: ¬(1<=u/\u<=4):=fun h=>hy ⟨hc.1,hc.2.1,hc.2.2,h.1,h.2⟩
     rw[if_neg bc,if_neg bc,if_neg bc,if_neg bc]
    rw[this];rfl
   ·rfl
  rw[hs];exact mkStep_no ok hR hu hy
end
section
variable {w0 : World} {F : jb} {k : MkM} {B : BoM} {T : TbM} {N : PiM} {W : MwP} {m : MaP}
theorem jiC {hd v:Int} (hG:ju w0) (hp:MpR k B T N W) (ok:MkOk k B.p) (hR:MkR k B.p m) (hm:jw B.p.g k.g.ring.length W m) (hst:m.steps<=1000000000) (hv:0<=v/\v<256):
  Call Tryz.prog w0 102 [pt k.b, .int .i64 hd, .int .u8 v] (jr k B.p++(planH B.p++(seenH B T N++F))) (jaV k B T N F m (stepM B.p.g k.g.ring.length W m hd v)):=by
 obtain⟨u,rfl⟩: ∃ u:Nat,v=u:=⟨v.toNat,by omega⟩
 exact mkStep_K hG hp ok hR hm hst bc
theorem mkHelp_K (hG:ju w0) (hp:MpR k B T N W) (ok:MkOk k B.p) (hR:MkR k B.p m) (hm:jw B.p.g k.g.ring.length W m) (hst:m.steps<=1000000000):
  Call Tryz.prog w0 103 [pt k.b] (jr k B.p++(planH B.p++(seenH B T N++F))) (jaV k B T N F m (JK B.p.g k.g.ring.length W m)):=by
 have hac:=fun A=>jcZ (w0:=w0) (F:=A) (k:=k) (p:=B.p)
 have hact:=hR.act
 have hhs:=hR.hs
 have hl9:=ok.hs
 have ho:=ok.o
 have hml:m.hs.length=k.hs.length:=by rw[hhs]
 have hstep:=fun A (k':MkM) (i:Nat) (u:Int) (hu:0<=u/\u<256) (kok:MkOk k' B.p) (kto:MkTo k k') (kR:MkR k' B.p m)=>jiC (w0:=w0) (F:=A) (hd:=(i:Nat)) hG (hp.to kto) kok kR (by rw[kto.l];exact hm) hst hu
 have hlen: ∀ k':MkM,MkTo k k'->k'.g.ring.length=k.g.ring.length:=fun k' h=>h.l
 unfold jaV at hstep|-
 cases ha:k.act with
 |false=>
  have hn:JK B.p.g k.g.ring.length W m=none:=help_idle (by rw[<-hact];exact ha)
  rw[hn];simp only[Option.isSome,Option.getD];simp only[ha] at hac;refine en1 33 Tryz.func103 ?_;refine yr3 ?_;intro b1;refine yr1 ?_;intro b2;refine yr7 ?_;refine zA ?_;refine yr11 ?_;exact KE.fin (H':=jr k B.p++(planH B.p++(seenH B T N++F))) jd rfl jc bj ⟨rfl,k,ok,MkTo.refl k,hR,rfl⟩
 |true=>
  simp only[ha] at hac
  have hown:((k.hs.length:Nat):Int)-1=((k.hs.length-1:Nat):Int):=by omega
  obtain⟨own,hod⟩: ∃ own:Nat,own=k.hs.length-1:=⟨_,rfl⟩
  rw[<-hod] at hown
  have hhm:JK B.p.g k.g.ring.length W m=match fullM m with
   |some i=>stepM B.p.g k.g.ring.length W m (i:Nat) 3
   |none=>match stepM B.p.g k.g.ring.length W m (own:Nat) 2 with
    |some m'=>some m'
    |none=>match stepM B.p.g k.g.ring.length W m (own:Nat) 1 with
     |some m'=>some m'
     |none=>stepM B.p.g k.g.ring.length W m (own:Nat) 4:=by
   rw[hod,<-hml];rfl
  refine en1 33 Tryz.func103 ?_;refine yr3 ?_;intro b1;refine yr1 ?_;intro b2;refine yr7 ?_;refine zA ?_;refine yr11 ?_;refine Jx jjB ?_;rintro _ _ ⟨bl,rfl,rfl⟩;refine yr3 ?_;refine K.rangeFunc (lb:=[pt bl]) rfl
   (fun D G=>fullM m=none/\G=(D, .deferred (some []))::(b2,cells [.bool false] 4)::(b1,cells [pt k.b] 150)::(jr k B.p++(planH B.p++(seenH B T N++F))))
   (fun D c G=>c= .ret/\ ∃ i k',fullM m=some i/\MkOk k' B.p/\MkTo k k'/\MkR k' B.p ((stepM B.p.g k.g.ring.length W m (i:Nat) 3).getD m)/\G=(D, .deferred (some []))::(b2,cells [.bool (stepM B.p.g k.g.ring.length W m (i:Nat) 3).isSome] 4)::(b1,cells [pt k.b] 150)::(jr k' B.p++(planH B.p++(seenH B T N++F)))) ?_ ?_ ?_
  ·intro l D rc hyl
   refine(Call.part (jiB (F:=planH B.p++(seenH B T N++F)) (bl:=bl) ok hR.hs
    (fun H'=> ∃ i k',fullM m=some i/\MkOk k' B.p/\MkTo k k'/\MkR k' B.p ((stepM B.p.g k.g.ring.length W m (i:Nat) 3).getD m)/\H'=(l, .loop (rc .done (some .ret)))::((D, .deferred (some []))::(b2,cells [.bool (stepM B.p.g k.g.ring.length W m (i:Nat) 3).isSome] 4)::(b1,cells [pt k.b] 150)::(bl,cells [pt k.b] 150)::(jr k' B.p++(planH B.p++(seenH B T N++F)))))
    (A0:=(l, .loop (rc .ready none))::(D, .deferred (some []))::(b2,cells [.bool false] 4)::(b1,cells [pt k.b] 150)::[]) ?_) bM).mono ?_
   ·intro i hf
    have hs3:=fun A=>hstep A k i 3 bn ok (MkTo.refl k) hR
    simp only[List.cons_append,List.nil_append];refine za0 ?_;refine zg ?_;refine yr2 ?_;refine KE.begin jK ?_;refine yr6 ?_;refine je (hs3 _) ja ?_;rintro _ _ ⟨rfl,k',kok,kto,kR,rfl⟩;refine yr5 ?_;refine KE.part ((l, .loop (rc .busy none))::((D, .deferred (some []))::(b2,cells [.bool (stepM B.p.g k.g.ring.length W m (i:Nat) 3).isSome] 4)::(b1,cells [pt k.b] 150)::(bl,cells [pt k.b] 150)::(jr k' B.p++(planH B.p++(seenH B T N++F))))) ja ?_;exact KE.roundR jx.head ⟨rfl,i,k',hf,kok,kto,kR,rfl⟩
   ·rintro _ _ (⟨hno,rfl⟩|⟨i,k',hf,kok,kto,kR,rfl⟩)
    ·refine .inl ⟨_,?_,hno,rfl⟩;exact zaw
    ·exact .inr ⟨.ret,_,ja,rfl,i,k',hf,kok,kto,kR,rfl⟩
  ·rintro D G ⟨hf,rfl⟩;rw[hf] at hhm;dsimp only at hhm
   have hs2:=fun A=>hstep A k own 2 bn ok (MkTo.refl k) hR
   rw[hhm];simp only[js,seenH_app];refine yr13 ?_;rw[hown]
   cases h2:stepM B.p.g k.g.ring.length W m (own:Nat) 2 with
   |some m2=>
    simp only[h2,Option.isSome,Option.getD] at hs2|-;refine yr5 ?_;refine je (hs2 _) bj ?_;rintro _ _ ⟨rfl,k2,kok,kto,kR,rfl⟩;refine yr14 ?_;exact KE.fin (H':=jr k2 B.p++(planH B.p++(seenH B T N++F))) jd rfl jc bj ⟨rfl,k2,kok,kto,kR,by simp only[js,seenH_app]⟩
   |none=>
    simp only[h2,Option.isSome,Option.getD] at hs2|-;refine yq4 fun T hT=>?_;refine(CallV.part (CallV.fn (hs2 _)) bj).mono ?_;rintro _ _ ⟨rfl,k2,kok2,kto2,kR2,rfl⟩
    have hs1:=fun A=>hstep A k2 own 1 bn kok2 kto2 kR2
    simp only[hlen k2 kto2,kto2.b] at hs1;refine ze ?_;clear hT T
    cases h1:stepM B.p.g k.g.ring.length W m (own:Nat) 1 with
    |some m1=>
     simp only[h1,Option.isSome,Option.getD] at hs1|-;refine yr4 ?_;refine je (hs1 _) bj ?_;rintro _ _ ⟨rfl,k1,kok,kto,kR,rfl⟩;refine yr10 ?_;exact KE.fin (H':=jr k1 B.p++(planH B.p++(seenH B T N++F))) jd rfl jc bj ⟨rfl,k1,kok,kto2.trans kto,kR,by simp only[js,seenH_app]⟩
    |none=>
     simp only[h1,Option.isSome,Option.getD] at hs1|-;refine yr3 ?_;refine zC fun T hT=>?_;refine(CallV.part (CallV.fn (hs1 _)) bj).mono ?_;rintro _ _ ⟨rfl,k1,kok1,kto1,kR1,rfl⟩
     have kto12:=kto2.trans kto1
     have hs4:=fun A=>hstep A k1 own 4 bn kok1 kto12 kR1
     simp only[hlen k1 kto12,kto12.b] at hs4;refine ze ?_;clear hT T;refine yr5 ?_;refine je (hs4 _) bj ?_;rintro _ _ ⟨rfl,k4,kok,kto,kR,rfl⟩;refine yr5 ?_;exact KE.fin (H':=jr k4 B.p++(planH B.p++(seenH B T N++F))) jd rfl jc bj ⟨rfl,k4,kok,kto12.trans kto,kR,by simp only[js,seenH_app]⟩
  ·rintro D c G ⟨rfl,i,k',hf,kok,kto,kR,rfl⟩;rw[hf] at hhm;dsimp only at hhm;rw[hhm];refine yr3 ?_;exact KE.fin jd rfl jc ja ⟨rfl,k',kok,kto,kR,rfl⟩
theorem jlI {s:Nat} {c:Int} {g:FuncId} {fi:List Value} {R:jb->Prop} (ok:MkOk k B.p) (hc:(tiC k.c)[s]?=some c)
  (hdo:k.act=true->CallV Tryz.prog w0 (.func (.func g) fi.toArray #[]) [.int .i64 (s:Nat)] (jr k B.p++F) (fun r H'=>r= .tuple #[]/\R H')):
  Call Tryz.prog w0 359 [pt k.b, .int .i64 (s:Nat), .func (.func g) fi.toArray #[]] (jr k B.p++F) (fun r H'=>r= .int .i64 0/\(k.act=true->R H')/\(k.act=false->H'=jr k B.p++F)):=by
 cases ha:k.act with
 |true=>
  have h1:=hdo ha
  refine en3 27 Tryz.func359 ?_;refine yr10 ?_;refine jj (jcM ok hc) ?_;rw[js,ha];refine yr25 ?_;refine(CallV.part h1 Bf).mono ?_;rintro _ H' ⟨rfl,hR⟩;refine yr9 ?_;exact KE.fin jd rfl jc ja ⟨rfl,fun _=>hR,fun h=>by cases h⟩
 |false=>
  refine en3 27 Tryz.func359 ?_;refine yr10 ?_;refine jj (jcM ok hc) ?_;rw[js,ha];refine yr30 ?_;exact KE.fin (H':=jr k B.p++F) jd rfl jc Bf ⟨rfl,fun h=>(by cases h),fun _=>by rw[js,ha]⟩
theorem mkShade_K {s:Nat} (ok:MkOk k B.p) (hR:MkR k B.p m) (hs:s<B.p.g.slots):
  Call Tryz.prog w0 303 [pt k.b, .int .i64 (s:Nat)] (jr k B.p++(planH B.p++F))
   (fun r H'=>r= .int .i64 0/\ ∃ k',MkOk k' B.p/\MkTo k k'/\MkR k' B.p (ja3 B.p.g k.g.ring.length m (s:Nat))/\H'=jr k' B.p++(planH B.p++F)):=by
 obtain⟨c,hc⟩:=jdD ok hs
 have hact:=hR.act
 unfold ja3;rw[<-hact];refine en2 10 Tryz.func303 ?_;refine yq11 fun T hT=>?_;refine(CallV.fn (jlI (fi:=[pt k.b]) (R:=fun H'=> ∃ k',MkOk k' B.p/\MkTo k k'/\MkR k' B.p (Jt B.p.g k.g.ring.length m (s:Nat))/\H'=jr k' B.p++(planH B.p++F)) ok hc fun _=>CallV.bound (first:=[pt k.b]) (jgg ok hR hs))).mono ?_;rintro _ H' ⟨rfl,h1,h2⟩
 cases ha:k.act with
 |true=>
  obtain⟨k',kok,kto,kR,rfl⟩:=h1 ha
  refine ze ?_;clear hT T;rw[ha];refine yr4 ?_;exact KE.fin jd rfl jc ja ⟨rfl,k',kok,kto,kR,rfl⟩
 |false=>
  obtain rfl:=h2 ha
  refine ze ?_;clear hT T;rw[ha];refine yr4 ?_;exact KE.fin jd rfl jc ja ⟨rfl,k,ok,MkTo.refl k,hR,rfl⟩
theorem mkStop_K (ha:k.act=true):Call Tryz.prog w0 381 [pt k.b] (jr k B.p++F) (fun r H'=>r= .int .i64 0/\H'=jr {k with act:=false} B.p++F):=by
 refine en1 5 Tryz.func381 ?_;refine yr9 ?_;refine jj (jjA (p:=B.p) (v:=false) ha) ?_;refine yr4 ?_;exact zd
end
theorem nil_R {k:MkM} {p:jQ} {nw:Nat} {b:Bool} (h:MkNil k p) (hr:1<=k.g.ring.length) (ha:k.act=b) (hl:k.hs.length=nw+1):MkR k p (JW p.g nw b):=
 ⟨h.c,⟨h.g.ow,h.g.di,by rw[h.g.first,h.g.many];exact⟨rfl,Nat.zero_le _,hr,fun i hi=>absurd hi (Nat.not_lt_zero _)⟩,by show k.g.at_=k.g.end_;rw [h.g.at_,h.g.end_],by rw[h.g.end_];exact Nat.zero_le _⟩,by rw[h.hs,hl];rfl,h.root,ha,h.steps⟩
