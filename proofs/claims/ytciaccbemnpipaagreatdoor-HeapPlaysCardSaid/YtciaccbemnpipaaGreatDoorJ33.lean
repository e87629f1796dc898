/-The walker and contracts, part 33.-/
import Derived.Test.YtciaccbemnpipaaGreatDoorJ28
import Derived.Test.YtciaccbemnpipaaGreatDoorJ31
set_option linter.all false
namespace Go.Proofs.YtciaccbemnpipaaGreatDoor.Sw
set_option maxHeartbeats 8000000
open Go.Proofs.YtciaccbemnpipaaGreatDoor renaming lo -> qL, hi -> qH
open Go.RowKit
set_option maxRecDepth 10000
section
variable {w0 : World} {D F : jb} {v : PlV} {g : PlG} {long : Nat} {q : KmV} {m : MaP} {W : MwP} {z : KwV}
theorem rkDone_K (ok:jh g) (hK:KmD w0 D q m) (hm:jw g long W m) (hlg:long<=64) (hW:KwD w0 D v g z W):
  Cs w0 187 [.agg (kmL v g long q m).toArray, .agg (kwL v g z).toArray] (D++F) (.bool (JB g W m)):=by
 have hP:=hW.B.p
 have q1:=hP.oL
 have q2:=hP.oF
 have q3:=hP.oM
 have q4:=hP.oC
 have q5:=hK.G.o1
 have q6:=hK.G.o2
 have q7:=hK.G.o3
 have q8:=hK.oc
 have q9:=hK.oh
 have r5:=hW.B.m.o
 have r6:=hW.oT
 have r7:=hW.oN
 have hH:=hK.H
 have h9:=hm.hs
 have hroots:=fun A=>jis (w0:=w0) (D:=D) (F:=A) hW
 have hem:=fun A=>jmn (w0:=w0) (D:=D) (F:=A) hP hK.G hm.G ok
 unfold gyL at hem;unfold kwL at hroots;unfold kmL kwL;refine en2 33 Tryz.func187 ?_;refine yr3 ?_;intro b2;refine yr1 ?_;intro b3;refine yr10 ?_;refine K.loopT (σ:=HpI) [(2,_),(3,_)] (fun s kp_=>(5, .int .i64 (s.i:Nat))::kp_) (fun s=>D++((b3,cells [z.vr, .int .i64 (v.t:Nat),v.L,v.F,v.M, .int .i64 (g.words:Nat),v.C,z.vt, .int .i64 z.gens,z.vn] 47)::(b2,cells [q.c,v.L,v.F,v.M, .int .i64 (g.words:Nat),v.C, .int .i64 (long:Nat),q.u.Q,q.u.ow,q.u.di, .int .i64 (pgI m.G), .int .i64 (m.G.at_:Nat),q.h, .int .i64 (m.root:Nat), .bool m.act, .int .i64 (m.steps:Nat)] 53)::F)) (fun s=>s.i<=m.hs.length/\ ∀ j,j<s.i->(JU m j).is=false) (fun s=>m.hs.length-s.i) (⟨0⟩) jg ja (⟨Nat.zero_le _,fun j h=>absurd h (Nat.not_lt_zero _)⟩) ?_;rintro⟨i⟩ ⟨hi,hno⟩;dsimp only at hi hno|-
 by_cases hlt:i<m.hs.length
 ·obtain⟨h,hh⟩:=jq hlt
  have hha:=jaG hh
  obtain⟨hsl,hfi,his⟩:=h
  cases his with
  |true=>
   have hf:=jgK hlt (by rw[hha]) hno
   have hd:JB g W m=false:=by unfold JB;rw [hf];simp
   rw[hd];refine yr37 ?_;exact zd
  |false=>
   refine yr34 ?_
   exact KE.again ⟨i+1⟩ jg ja ⟨hlt,fun j (hj:j<i+1)=>by
    rcases Nat.lt_or_ge j i with h|h
    ·exact hno j h
    ·have:j=i:=by omega
     subst this;rw [hha]⟩ (by show m.hs.length-(i+1)<m.hs.length-i;omega)
 ·have hf:fullM m=none:=jgJ fun j hj=>hno j bc
  have hd:JB g W m=(m.act&&(decide (W.T.length+g.slots<=m.root)&&J8 m.G)):=by unfold JB;rw [hf];rfl
  rw[hd];clear hno hd
  cases ha:m.act with
  |false=>
   refine yr17 ?_;refine zbz ?_;refine yr18 ?_;exact zd
  |true=>
   by_cases hr:W.T.length+g.slots<=m.root
   ·have hr':((m.root:Nat):Int)>=((W.T.length+g.slots:Nat):Int):=by omega
    rw[decide_eq_true hr];refine yr17 ?_;refine zbz ?_;refine yr6 ?_;refine zo fun T hT=>?_;refine(CallV.part (CallV.fn (hroots _)) ja).mono ?_;rintro _ _ ⟨rfl,rfl⟩;refine zf ?_;clear hT T;refine yr5 ?_;refine zo fun T hT=>?_;refine(CallV.part (CallV.fn (hem _)) ja).mono ?_;rintro _ _ ⟨rfl,rfl⟩;refine zf ?_;clear hT T;refine yr5 ?_;exact zd
   ·have hr': ¬((m.root:Nat):Int)>=((W.T.length+g.slots:Nat):Int):=by omega
    rw[decide_eq_false hr];refine yr17 ?_;refine zbz ?_;refine yr6 ?_;refine zo fun T hT=>?_;refine(CallV.part (CallV.fn (hroots _)) ja).mono ?_;rintro _ _ ⟨rfl,rfl⟩;refine zf ?_;clear hT T;refine yr11 ?_;exact zd
theorem jkA {nw:Nat} (ok:jh g) (hW:KwD w0 D v g z W) (hnw:nw<=8):
  Call Tryz.prog w0 49 [.agg (kwL v g z).toArray, .int .i64 (nw:Nat), .int .i64 (long:Nat)] (D++F) (KmG w0 D F v g long (JW g nw false) id):=by
 have hP:=hW.B.p
 have hL:=hP.L
 have q1:=hP.oL
 have q2:=hP.oF
 have q3:=hP.oM
 have q4:=hP.oC
 have r5:=hW.B.m.o
 have r6:=hW.oT
 have r7:=hW.oN
 have hLl:=jak (g:=g)
 have hsl:=ok.slots
 have he:((nw:Nat):Int)+1=((nw+1:Nat):Int):=by omega
 have hnew:=fun A=>ryNew_K (w0:=w0) (D:=D) (F:=A) (long:=long) hP ok
 unfold gyL plL at hnew;unfold KmG id kwL;refine en3 22 Tryz.func49 ?_;refine yr3 ?_;intro b3;refine yr1 ?_;intro b6;refine yr3 ?_;refine zi ?_;refine K.dr ((b3,cells [z.vr, .int .i64 (v.t:Nat),v.L,v.F,v.M, .int .i64 (g.words:Nat),v.C,z.vt, .int .i64 z.gens,z.vn] 47)::D) [(0,1),(1,1),(2,1),(3,1),(4,1),(6,1),(7,1),(8,1),(9,1),(11,1),(12,1),(5,3),(10,3),(13,2),(14,0),(15,2)] ja ?_;refine yr11 ?_;refine KD.fork3 (x:=5) (y:=10) (z:=13) (o1:=[(10,3),(13,2),(14,0),(15,2)]) (o2:=[(5,3),(13,2),(14,0),(15,2)]) (o3:=[(5,3),(10,2),(14,0),(15,2)]) bu rfl rfl rfl bu bu bu ?_ ?_ ?_
 ·(refine jR.e rfl (Eff.makeR (E := bE) (x0 := 0) rfl rfl rfl rfl rfl rfl be) ?_; rintro _ _ ⟨o12, ok12, rfl, rfl⟩; refine ⟨ja, ?_⟩)
  refine KD.fork2 (x:=10) (y:=13) (o1:=[(13,2),(14,0),(15,2)]) (o2:=[(10,2),(14,0),(15,2)]) bu rfl rfl bu bu ?_ ?_
  ·refine zk fun T hT=>?_;refine(CallV.part (CallV.fn (hnew _)) ja).mono ?_;rintro _ _ ⟨u',N,hG',rfl,rfl⟩
   have p5:=hG'.o1
   have p6:=hG'.o2
   have p7:=hG'.o3
   refine zf ?_;clear hT T;refine KD.e rfl rfl (Eff.makeR (n:=nw+1) (E:=Jn) (x0:=jO) (congrArg (fun q=>some (Value.int .i64 q)) he) (congrArg (fun q=>some (Value.int .i64 q)) he) rfl rfl rfl rfl bc) ?_;rintro _ _ ⟨o20,ok20,rfl,rfl⟩;refine⟨ja,?_⟩;refine yr4 ?_;refine zg ?_;refine KE.fin (H':=(oH bE 5 (List.replicate g.L.length 0) o12++(oH Jn 306 (List.replicate (nw+1) jO) o20++N))++(D++F)) jd rfl jc bf ⟨⟨oV o12 (List.replicate g.L.length (0:Int)).length,u',oV o20 (List.replicate (nw+1) jO).length⟩,oH bE 5 (List.replicate g.L.length 0) o12++(oH Jn 306 (List.replicate (nw+1) jO) o20++N),⟨by show Sli _ _ _ _ (List.replicate g.slots 0);rw [<-hLl];exact Sli.own bp ok12 rfl,hG'.part bf,Sli.own bp ok20 rfl,jJ _ _,jJ _ _⟩,rfl,rfl⟩
  ·(refine jR.e rfl (Eff.makeR (n:=nw+1) (E:=Jn) (x0:=jO) (congrArg (fun q=>some (Value.int .i64 q)) he) (congrArg (fun q=>some (Value.int .i64 q)) he) rfl rfl rfl rfl bc) ?_;rintro _ _ ⟨o20,ok20,rfl,rfl⟩;refine⟨ja,?_⟩)
   refine yr1 ?_;refine je (hnew _) ja ?_;rintro _ _ ⟨u',N,hG',rfl,rfl⟩
   have p5:=hG'.o1
   have p6:=hG'.o2
   have p7:=hG'.o3
   refine yr5 ?_;refine zg ?_;refine KE.fin (H':=(oH bE 5 (List.replicate g.L.length 0) o12++(oH Jn 306 (List.replicate (nw+1) jO) o20++N))++(D++F)) jd rfl jc bf ⟨⟨oV o12 (List.replicate g.L.length (0:Int)).length,u',oV o20 (List.replicate (nw+1) jO).length⟩,oH bE 5 (List.replicate g.L.length 0) o12++(oH Jn 306 (List.replicate (nw+1) jO) o20++N),⟨by show Sli _ _ _ _ (List.replicate g.slots 0);rw [<-hLl];exact Sli.own bp ok12 rfl,hG'.part bf,Sli.own bp ok20 rfl,jJ _ _,jJ _ _⟩,rfl,rfl⟩
 ·refine zk fun T hT=>?_;refine(CallV.part (CallV.fn (hnew _)) ja).mono ?_;rintro _ _ ⟨u',N,hG',rfl,rfl⟩
  have p5:=hG'.o1
  have p6:=hG'.o2
  have p7:=hG'.o3
  refine zf ?_;clear hT T;refine KD.fork2 (x:=5) (y:=13) (o1:=[(13,2),(14,0),(15,2)]) (o2:=[(5,2),(14,0),(15,2)]) bu rfl rfl bu bu ?_ ?_
  ·(refine jR.e rfl (Eff.makeR (E:=bE) (x0:=0) rfl rfl rfl rfl rfl rfl be) ?_;rintro _ _ ⟨o12,ok12,rfl,rfl⟩;refine⟨ja,?_⟩)
   refine KD.e rfl rfl (Eff.makeR (n:=nw+1) (E:=Jn) (x0:=jO) (congrArg (fun q=>some (Value.int .i64 q)) he) (congrArg (fun q=>some (Value.int .i64 q)) he) rfl rfl rfl rfl bc) ?_;rintro _ _ ⟨o20,ok20,rfl,rfl⟩;refine⟨ja,?_⟩;refine yr4 ?_;refine zg ?_;refine KE.fin (H':=(oH bE 5 (List.replicate g.L.length 0) o12++(oH Jn 306 (List.replicate (nw+1) jO) o20++N))++(D++F)) jd rfl jc bf ⟨⟨oV o12 (List.replicate g.L.length (0:Int)).length,u',oV o20 (List.replicate (nw+1) jO).length⟩,oH bE 5 (List.replicate g.L.length 0) o12++(oH Jn 306 (List.replicate (nw+1) jO) o20++N),⟨by show Sli _ _ _ _ (List.replicate g.slots 0);rw [<-hLl];exact Sli.own bp ok12 rfl,hG'.part bf,Sli.own bp ok20 rfl,jJ _ _,jJ _ _⟩,rfl,rfl⟩
  ·(refine jR.e rfl (Eff.makeR (n:=nw+1) (E:=Jn) (x0:=jO) (congrArg (fun q=>some (Value.int .i64 q)) he) (congrArg (fun q=>some (Value.int .i64 q)) he) rfl rfl rfl rfl bc) ?_;rintro _ _ ⟨o20,ok20,rfl,rfl⟩;refine⟨ja,?_⟩)
   refine KD.e rfl rfl (Eff.makeR (E:=bE) (x0:=0) rfl rfl rfl rfl rfl rfl be) ?_;rintro _ _ ⟨o12,ok12,rfl,rfl⟩;refine⟨ja,?_⟩;refine yr4 ?_;refine zg ?_;refine KE.fin (H':=(oH bE 5 (List.replicate g.L.length 0) o12++(oH Jn 306 (List.replicate (nw+1) jO) o20++N))++(D++F)) jd rfl jc bf ⟨⟨oV o12 (List.replicate g.L.length (0:Int)).length,u',oV o20 (List.replicate (nw+1) jO).length⟩,oH bE 5 (List.replicate g.L.length 0) o12++(oH Jn 306 (List.replicate (nw+1) jO) o20++N),⟨by show Sli _ _ _ _ (List.replicate g.slots 0);rw [<-hLl];exact Sli.own bp ok12 rfl,hG'.part bf,Sli.own bp ok20 rfl,jJ _ _,jJ _ _⟩,rfl,rfl⟩
 ·(refine jR.e rfl (Eff.makeR (n := nw + 1) (E := Jn) (x0 := jO) (congrArg (fun q => some (Value.int .i64 q)) he) (congrArg (fun q => some (Value.int .i64 q)) he) rfl rfl rfl rfl bc) ?_; rintro _ _ ⟨o20, ok20, rfl, rfl⟩; refine ⟨ja, ?_⟩)
  refine KD.fork2 (x:=5) (y:=10) (o1:=[(10,2),(14,0),(15,2)]) (o2:=[(5,2),(14,0),(15,2)]) bu rfl rfl bu bu ?_ ?_
  ·(refine jR.e rfl (Eff.makeR (E:=bE) (x0:=0) rfl rfl rfl rfl rfl rfl be) ?_;rintro _ _ ⟨o12,ok12,rfl,rfl⟩;refine⟨ja,?_⟩)
   refine yr1 ?_;refine je (hnew _) ja ?_;rintro _ _ ⟨u',N,hG',rfl,rfl⟩
   have p5:=hG'.o1
   have p6:=hG'.o2
   have p7:=hG'.o3
   refine yr5 ?_;refine zg ?_;refine KE.fin (H':=(oH bE 5 (List.replicate g.L.length 0) o12++(oH Jn 306 (List.replicate (nw+1) jO) o20++N))++(D++F)) jd rfl jc bf ⟨⟨oV o12 (List.replicate g.L.length (0:Int)).length,u',oV o20 (List.replicate (nw+1) jO).length⟩,oH bE 5 (List.replicate g.L.length 0) o12++(oH Jn 306 (List.replicate (nw+1) jO) o20++N),⟨by show Sli _ _ _ _ (List.replicate g.slots 0);rw [<-hLl];exact Sli.own bp ok12 rfl,hG'.part bf,Sli.own bp ok20 rfl,jJ _ _,jJ _ _⟩,rfl,rfl⟩
  ·refine zk fun T hT=>?_;refine(CallV.part (CallV.fn (hnew _)) ja).mono ?_;rintro _ _ ⟨u',N,hG',rfl,rfl⟩
   have p5:=hG'.o1
   have p6:=hG'.o2
   have p7:=hG'.o3
   refine zf ?_;clear hT T;refine KD.e rfl rfl (Eff.makeR (E:=bE) (x0:=0) rfl rfl rfl rfl rfl rfl be) ?_;rintro _ _ ⟨o12,ok12,rfl,rfl⟩;refine⟨ja,?_⟩;refine yr4 ?_;refine zg ?_;refine KE.fin (H':=(oH bE 5 (List.replicate g.L.length 0) o12++(oH Jn 306 (List.replicate (nw+1) jO) o20++N))++(D++F)) jd rfl jc bf ⟨⟨oV o12 (List.replicate g.L.length (0:Int)).length,u',oV o20 (List.replicate (nw+1) jO).length⟩,oH bE 5 (List.replicate g.L.length 0) o12++(oH Jn 306 (List.replicate (nw+1) jO) o20++N),⟨by show Sli _ _ _ _ (List.replicate g.slots 0);rw [<-hLl];exact Sli.own bp ok12 rfl,hG'.part bf,Sli.own bp ok20 rfl,jJ _ _,jJ _ _⟩,rfl,rfl⟩
theorem jmy (ok:jh g) (hK:KmD w0 D q m) (hm:jw g long W m) (hW:KwD w0 D v g z W):
  Call Tryz.prog w0 323 [.agg (kmL v g long q m).toArray, .agg (kwL v g z).toArray] (D++F) (KmG w0 D F v g long (jcK g m) id):=by
 have hP:=hW.B.p
 have q1:=hP.oL
 have q2:=hP.oF
 have q3:=hP.oM
 have q4:=hP.oC
 have q5:=hK.G.o1
 have q6:=hK.G.o2
 have q7:=hK.G.o3
 have q8:=hK.oc
 have q9:=hK.oh
 have r5:=hW.B.m.o
 have r6:=hW.oT
 have r7:=hW.oN
 have hH:=hK.H
 have h9:=hm.hs
 obtain⟨nw,hnw⟩: ∃ nw:Nat,nw=m.hs.length-1:=⟨_,rfl⟩
 have he:((m.hs.length:Nat):Int)-1=((nw:Nat):Int):=by omega
 have hnew:=fun A=>jkA (w0:=w0) (D:=D) (F:=A) (long:=long) (nw:=nw) ok hW bc
 unfold jcK;rw[<-hnw];unfold KmG id at*;unfold kwL at hnew;unfold kmL at*;unfold kwL;refine en2 17 Tryz.func323 ?_
 (iterate 10 first|refine yS ?_|intro _)
 refine zg ?_;refine yr5 ?_;rw[he];refine yr4 ?_;refine je (hnew _) ja ?_;rintro _ _ ⟨q',N,hK',rfl,rfl⟩
 have p5:=hK'.G.o1
 have p6:=hK'.G.o2
 have p7:=hK'.G.o3
 have p8:=hK'.oc
 have p9:=hK'.oh
 refine yr1 ?_;intro b5;refine yr16 ?_;exact KE.fin jd rfl jc ja ⟨q',N,⟨hK'.C,hK'.G,hK'.H,p8,p9⟩,rfl,rfl⟩
end
section
variable {w0 : World} {g : PlG}
theorem KwD.put {v:PlV} {z:KwV} {W:MwP} {D D':jb} {vr':Value} {R':List RwD} {x':List Int} (h:KwD w0 D v g z W) (hB:BoD w0 D' v vr' g R') (hY:rwX R'=(rwX z.R).set v.t x') (hw:Jv g {W with x:=x'}) (hr:jaD g x') (hp:Part D' D):
  KwD w0 D' v g ⟨vr',z.vt,z.vn,R',z.gens⟩ {W with x:=x'}:=
 ⟨hB,h.f.next hY (hw.x.trans h.w.x.symm) hw.w,h.T.part hp,h.N.part hp,h.oT,h.oN,hw,hr,h.st⟩
theorem KwD.tab {v:PlV} {z:KwV} {W:MwP} {D D':jb} {vt':Value} {T':List jk} (h:KwD w0 D v g z W) (hT:Sli w0 D' wE vt' (T'.map j5)) (ho:vt'.oneCell'=true) (hw:Jv g {W with T:=T'}) (hst:StOk T') (hp:Part D' D):
  KwD w0 D' v g ⟨z.vr,vt',z.vn,z.R,z.gens⟩ {W with T:=T'}:=
 ⟨h.B.part hp,h.f,hT,h.N.part hp,ho,h.oN,hw,h.rf,hst⟩
theorem KwD.pin {v:PlV} {z:KwV} {W:MwP} {D D':jb} {vn':Value} {N':List Int} (h:KwD w0 D v g z W) (hN:Sli w0 D' iE vn' N') (ho:vn'.oneCell'=true) (hw:Jv g {W with N:=N'}) (hp:Part D' D):
  KwD w0 D' v g ⟨z.vr,z.vt,vn',z.R,z.gens⟩ {W with N:=N'}:=
 ⟨h.B.part hp,h.f,h.T.part hp,hN,h.oT,ho,hw,h.rf,h.st⟩
end
structure CyV where
 va:Value
 z:KwV
 q:KmV
 vd:Value
def cyL (v:PlV) (g:PlG) (long:Nat) (d:CyV) (s:CyP):List Value:=v.L::v.F::v.M:: .int .i64 (g.words:Nat)::v.C::d.va::d.z.vr:: .int .i64 (v.t:Nat)::v.L::v.F::v.M:: .int .i64 (g.words:Nat)::v.C::d.z.vt:: .int .i64 d.z.gens::d.z.vn::d.q.c::v.L::v.F::v.M:: .int .i64 (g.words:Nat)::v.C:: .int .i64 (long:Nat)::d.q.u.Q::d.q.u.ow::d.q.u.di:: .int .i64 (pgI s.m.G):: .int .i64 (s.m.G.at_:Nat)::d.q.h:: .int .i64 (s.m.root:Nat):: .bool s.m.act:: .int .i64 (s.m.steps:Nat):: .bool s.sa:: .int .i64 (s.at_:Nat)::d.vd:: .int .u8 (s.ph:Nat):: .int .i64 (s.st:Nat)::[]
def cy0:List Value:= .slice none 0 0:: .slice none 0 0:: .slice none 0 0:: .int .i64 0:: .slice none 0 0:: .slice none 0 0:: .slice none 0 0:: .int .i64 0:: .slice none 0 0:: .slice none 0 0:: .slice none 0 0:: .int .i64 0:: .slice none 0 0:: .slice none 0 0:: .int .i64 0:: .slice none 0 0:: .slice none 0 0:: .slice none 0 0:: .slice none 0 0:: .slice none 0 0:: .int .i64 0:: .slice none 0 0:: .int .i64 0:: .slice none 0 0:: .slice none 0 0:: .slice none 0 0:: .int .i64 0:: .int .i64 0:: .slice none 0 0:: .int .i64 0:: .bool false:: .int .i64 0:: .bool false:: .int .i64 0:: .slice none 0 0:: .int .u8 0:: .int .i64 0::[]
structure CyD (R0:List (List Int)) (gn:Int) (w0:World) (D:jb) (v:PlV) (g:PlG) (d:CyV) (s:CyP):Prop where
 A:ArD w0 D v d.va g s.A
 W:KwD w0 D v g d.z s.W
 K:KmD w0 D d.q s.m
 o:d.vd.oneCell'=true
 S:s.sa=true->Sli w0 D boE d.vd s.D
 N:s.sa=false->d.vd= .slice none 0 0
 m:rwX d.z.R=R0.set v.t s.W.x
 ge:d.z.gens=gn
theorem CyD.part {R0:List (List Int)} {gn:Int} {w0:World} {D D':jb} {v:PlV} {g:PlG} {d:CyV} {s:CyP} (h:CyD R0 gn w0 D v g d s) (hp:Part D' D):CyD R0 gn w0 D' v g d s:=⟨h.A.part hp,h.W.part hp,h.K.part hp,h.o,fun e=>(h.S e).part hp,h.N,h.m,h.ge⟩
def CyG (R0:List (List Int)) (gn:Int) (w0:World) (D F:jb) (v:PlV) (g:PlG) (long:Nat) (s':CyP) (f:Value->Value) (r:Value) (H':jb):Prop:=
 ∃ (d':CyV) (N:jb),CyD R0 gn w0 (N++D) v g d' s'/\r=f (.agg (cyL v g long d' s').toArray)/\H'=N++(D++F)
structure CyO (v:PlV) (d:CyV):Prop where
 q1:v.L.oneCell'=true
 q2:v.F.oneCell'=true
 q3:v.M.oneCell'=true
 q4:v.C.oneCell'=true
 q5:d.z.vr.oneCell'=true
 q6:d.z.vt.oneCell'=true
 q7:d.z.vn.oneCell'=true
 q8:d.q.c.oneCell'=true
 q9:d.q.u.Q.oneCell'=true
 r1:d.q.u.ow.oneCell'=true
 r2:d.q.u.di.oneCell'=true
 r3:d.q.h.oneCell'=true
 r4:d.va.oneCell'=true
 r5:d.vd.oneCell'=true
section
variable {R0 : List (List Int)} {gn : Int} {w0 : World} {D F : jb} {v : PlV} {g : PlG} {long : Nat} {d : CyV} {s : CyP}
theorem CyD.c (h:CyD R0 gn w0 D v g d s):CyO v d:=⟨h.A.p.oL,h.A.p.oF,h.A.p.oM,h.A.p.oC,h.W.B.m.o,h.W.oT,h.W.oN,h.K.oc,h.K.G.o1,h.K.G.o2,h.K.G.o3,h.K.oh,h.A.o,h.o⟩
theorem rcgoes_K (h:CyD R0 gn w0 D v g d s) (ok:jh g) (hlg:long<=64) (hi:CyPre g long s):
  Call Tryz.prog w0 112 [.agg (cyL v g long d s).toArray] (D++F) (CyG R0 gn w0 D F v g long (jP g s) id):=by
 obtain⟨q1,q2,q3,q4,q5,q6,q7,q8,q9,r1,r2,r3,r4,r5⟩:=h.c
 have hsl:=ok.slots
 have hdone:=fun A=>rkDone_K (F:=A) ok h.K hi.m hlg h.W
 have hAa:=h.A.a
 have hAl:=hi.A
 have hDl:=hi.D
 unfold CyG id;unfold kmL kwL at hdone;unfold cyL
 by_cases h1:s.ph=1
 ·obtain⟨p1,p2,p3,p4⟩:=hi.p1 h1
  cases hd:JB g s.W s.m with
  |true=>
   have hg:jP g s={s with sa:=true,ph:=2}:=by
    unfold jP;rw [if_pos ⟨h1,hd⟩,if_neg bc]
   rw[hg];simp only[hd] at hdone
   have hst:=fun A=>jmp (w0:=w0) (F:=A) (n:=s.A.length) bc
   have hD: ∀ (vd:Value) (N:jb),Sli w0 N boE vd (List.replicate s.A.length false)->vd.oneCell'=true->CyD R0 gn w0 (N++D) v g ⟨d.va,d.z,d.q,vd⟩ {s with sa:=true,ph:=2}:=fun vd N hS ho=>
    ⟨h.A.part ja,h.W.part ja,h.K.part ja,ho,fun _=>by show Sli _ _ _ _ s.D;rw [p4,<-hAl];exact hS.part ja,fun e=>bO,h.m,h.ge⟩
   have hne: ¬(((s.at_:Nat):Int)=((List.replicate s.A.length false).length:Nat)):=by rw[List.length_replicate];omega
   obtain⟨W,m,A,sa,at_,Ds,ph,st⟩:=s
   obtain⟨va,z,q,vd⟩:=d
   dsimp only at*;subst h1 p2;refine en1 35 Tryz.func112 ?_
   (iterate 20 first|refine yS ?_|intro _)
   refine ji (hdone _) ja ?_;refine yq10 fun T hT=>?_;refine(CallV.fn (hst _)).mono ?_;rintro _ _ ⟨vd',N,hS,ho,rfl,rfl⟩;unfold ksL;refine ze ?_;clear hT T;subst p3;refine yr37 ?_;exact KE.fin (H':=N++(D++F)) jd rfl jc ja ⟨⟨va,z,q,vd'⟩,N,hD vd' N hS ho,rfl,rfl⟩
  |false=>
   have hg:jP g s=s:=by
    unfold jP;rw [if_neg (by rw[hd];simp),if_neg bc]
   rw[hg];simp only[hd] at hdone
   obtain⟨W,m,A,sa,at_,Ds,ph,st⟩:=s
   obtain⟨va,z,q,vd⟩:=d
   dsimp only at*;subst h1;refine en1 35 Tryz.func112 ?_
   (iterate 20 first|refine yS ?_|intro _)
   refine ji (hdone _) ja ?_;refine yr34 ?_;exact zbA
 ·by_cases h2:s.ph=2
  ·obtain⟨p1,p2,p3⟩:=hi.p2 h2
   have hS:=h.S p2
   by_cases ha:s.at_=g.slots
   ·have hg:jP g s={s with ph:=3}:=by
     unfold jP;rw [if_neg bc,if_pos ⟨h2,ha⟩]
    rw[hg]
    have he:((s.at_:Nat):Int)=(s.D.length:Nat):=by omega
    have hD:CyD R0 gn w0 D v g d {s with ph:=3}:=⟨h.A,h.W,h.K,h.o,h.S,h.N,h.m,h.ge⟩
    obtain⟨W,m,A,sa,at_,Ds,ph,st⟩:=s
    obtain⟨va,z,q,vd⟩:=d
    dsimp only at*;subst h2;refine en1 35 Tryz.func112 ?_
    (iterate 57 first|refine yS ?_|intro _)
    exact KE.fin (H':=D++F) jd rfl jc ja ⟨⟨va,z,q,vd⟩,[],hD,rfl,rfl⟩
   ·have hg:jP g s=s:=by
     unfold jP;rw [if_neg bc,if_neg bc]
    rw[hg]
    have he: ¬((s.at_:Nat):Int)=(s.D.length:Nat):=by omega
    obtain⟨W,m,A,sa,at_,Ds,ph,st⟩:=s
    obtain⟨va,z,q,vd⟩:=d
    dsimp only at*;subst h2;refine en1 35 Tryz.func112 ?_
    (iterate 54 first|refine yS ?_|intro _)
    exact zbA
  ·have hg:jP g s=s:=by
    unfold jP;rw [if_neg bc,if_neg bc]
   rw[hg]
   have h1': ¬((s.ph:Nat):Int)=1:=by omega
   have h2': ¬((s.ph:Nat):Int)=2:=by omega
   obtain⟨va,z,q,vd⟩:=d
   dsimp only at*;refine en1 35 Tryz.func112 ?_
   (iterate 54 first|refine yS ?_|intro _)
   exact zbA
end
section
variable {R0 : List (List Int)} {gn : Int} {w0 : World} {D F : jb} {v : PlV} {g : PlG} {long : Nat} {d d0 : CyV} {s s0 : CyP}
theorem jeZ (h:CyD R0 gn w0 D v g d s) (o0:CyO v d0) (ok:jh g) (hlg:long<=64) (hi:CyPre g long s) (hst:s.st<=100000000):
  Call Tryz.prog w0 55 [.agg (cyL v g long d0 s0).toArray, .agg (cyL v g long d s).toArray, .bool true] (D++F) (CyG R0 gn w0 D F v g long (madeC g s) (fun a=> .tuple [a, .bool true].toArray)):=by
 obtain⟨q1,q2,q3,q4,q5,q6,q7,q8,q9,r1,r2,r3,r4,r5⟩:=h.c
 obtain⟨_,_,_,_,t5,t6,t7,t8,t9,u1,u2,u3,u4,u5⟩:=o0
 have h':CyD R0 gn w0 D v g d {s with st:=s.st+1}:=⟨h.A,h.W,h.K,h.o,h.S,h.N,h.m,h.ge⟩
 have hi':CyPre g long {s with st:=s.st+1}:=⟨hi.w,hi.rf,hi.m,hi.i,hi.A,hi.D,hi.p0,hi.p1,hi.p2,hi.p3,hi.ph,hi.dn⟩
 have hgo:=fun A=>rcgoes_K (F:=A) h' ok hlg hi'
 have e2:((s.st:Nat):Int)+1=((s.st+1:Nat):Int):=by omega
 obtain⟨q,hq⟩: ∃ q,madeC g s=q:=⟨_,rfl⟩
 have hq':jP g {s with st:=s.st+1}=q:=hq
 rw[hq'] at hgo;rw[hq];unfold CyG id at hgo;unfold CyG;unfold cyL at*;refine en3 17 Tryz.func55 ?_
 (iterate 8 first|refine yS ?_|intro _);refine yq25 fun T hT=>?_
 rw[e2];refine(CallV.part (CallV.fn (hgo _)) ja).mono ?_;rintro _ _ ⟨d',N,hd',rfl,rfl⟩
 obtain⟨_,_,_,_,v5,v6,v7,v8,v9,x1,x2,x3,x4,x5⟩:=hd'.c
 refine ze ?_;clear hT T;refine yr5 ?_;exact KE.fin (H':=N++(D++F)) jd rfl jc ja ⟨d',N,hd',rfl,rfl⟩
theorem jjk {H:jb} (o0:CyO v d0) (o1:CyO v d):
  Cs w0 55 [.agg (cyL v g long d0 s0).toArray, .agg (cyL v g long d s).toArray, .bool false] H (.tuple [.agg (cyL v g long d0 s0).toArray, .bool false].toArray):=by
 obtain⟨q1,q2,q3,q4,t5,t6,t7,t8,t9,u1,u2,u3,u4,u5⟩:=o0
 obtain⟨_,_,_,_,v5,v6,v7,v8,v9,x1,x2,x3,x4,x5⟩:=o1
 unfold cyL;refine en3 17 Tryz.func55 ?_
 (iterate 28 first|refine yS ?_|intro _)
 exact zd
theorem jhZ (h:CyD R0 gn w0 D v g d s) (ok:jh g) (hi:jp g long s) (h2:s.ph=2):
  ∃ s',sweepC g s=some s'/\ ∀ F,Call Tryz.prog w0 56 [.agg (cyL v g long d s).toArray] (D++F) (CyG R0 gn w0 D F v g long s' (fun a=> .tuple [a, .bool true].toArray)):=by
 obtain⟨q1,q2,q3,q4,q5,q6,q7,q8,q9,r1,r2,r3,r4,r5⟩:=h.c
 obtain⟨p1,p2,p3⟩:=hi.p2 h2
 have hlt:=hi.lt h2
 obtain⟨y,hy⟩:=Je hlt
 have hyA:=jY hy
 obtain⟨a,ha⟩:=jq (l:=s.A) (k:=s.at_) (by rw[hi.A];exact hlt)
 obtain⟨c,hc⟩:=jq (l:=s.m.C) (k:=s.at_) (by rw[hi.m.C];exact hlt)
 have hstep:=fun F=>rsStep_K (F:=F) h.W.B h.W.f hy h.A h.K.C (h.S p2) q8 r5 ha hc hi.D
 obtain⟨w1,w2,w3⟩:=hi.toCyPre.wipe ok h2 hlt
 rw[hyA] at w1 w2
 have hfin: ∃ s',sweepC g s=some s'/\s'.W.T=s.W.T/\s'={s with W:={s.W with x:=s'.W.x},D:=s'.D,at_:=s.at_+1}/\(if (a&&decide (c=0))=true then(rwX d.z.R).set v.t (JH s.W.x y) else rwX d.z.R)=(rwX d.z.R).set v.t s'.W.x/\(if (a&&decide (c=0))=true then s.D.set s.at_ true else s.D)=s'.D/\Jv g {s.W with x:=s'.W.x}/\jaD g s'.W.x:=by
  unfold sweepC;rw[if_pos ⟨p2,hlt⟩,ha,hc,hyA]
  by_cases hg:a=true/\c=0
  ·obtain⟨rfl,rfl⟩:=hg
   rw[if_pos ⟨rfl,rfl⟩];exact⟨_,rfl,rfl,rfl,rfl,rfl,w1,w2⟩
  ·rw[if_neg (by rintro⟨e1,e2⟩;cases e1;cases e2;exact hg ⟨rfl,rfl⟩),if_neg Bt,if_neg Bt];refine⟨_,rfl,rfl,rfl,?_,rfl,hi.w,hi.rf⟩
   have hs:=h.W.f.self
   dsimp only;exact hs
 obtain⟨s',hs',eT,e0,eX,eD,eW,eR⟩:=hfin
 simp only[eX,eD] at hstep;refine⟨s',hs',fun F=>?_⟩
 have hD: ∀ (vd' vr':Value) (R':List RwD) (N:jb),BoD w0 (N++D) v vr' g R'->rwX R'=(rwX d.z.R).set v.t s'.W.x->Sli w0 (N++D) boE vd' s'.D->vd'.oneCell'=true->CyD R0 gn w0 (N++D) v g ⟨d.va,⟨vr',d.z.vt,d.z.vn,R',d.z.gens⟩,d.q,vd'⟩ s':=fun vd' vr' R' N hB hX hS ho=>by
  rw[e0];exact⟨h.A.part ja,h.W.put hB hX eW eR ja,h.K.part ja,ho,fun _=>hS,fun e=>(by rw[show s.sa=false from e] at p2;cases p2),by rw[hX,h.m,List.set_set],h.ge⟩
 unfold CyG;unfold ksL arL boL at hstep;unfold cyL;rw[p2];refine en1 29 Tryz.func56 ?_
 (iterate 22 first|refine yS ?_|intro _)
 refine je (hstep _) ja ?_;rintro _ _ ⟨vd',vr',R',N,hB,hX,hS,ho,rfl,rfl⟩
 have hD':=hD vd' vr' R' N hB hX hS ho
 have ho':=hB.m.o
 (iterate 37 first|refine yS ?_|intro _)
 exact KE.fin (H':=N++(D++F)) jd rfl jc ja ⟨⟨d.va,⟨vr',d.z.vt,d.z.vn,R',d.z.gens⟩,d.q,vd'⟩,N,hD',by rw[e0];dsimp only;rw [p2];rfl,rfl⟩
def CyS (R0:List (List Int)) (gn:Int) (w0:World) (D F:jb) (v:PlV) (g:PlG) (long:Nat) (s:CyP) (o:Option CyP) (r:Value) (H':jb):Prop:=CyG R0 gn w0 D F v g long (o.getD s) (fun a=> .tuple [a, .bool o.isSome].toArray) r H'
theorem CyD.mark {q':KmV} {N:jb} {m':MaP} (h:CyD R0 gn w0 D v g d s) (hK:KmD w0 (N++D) q' m'):CyD R0 gn w0 (N++D) v g ⟨d.va,d.z,q',d.vd⟩ {s with m:=m'}:=⟨h.A.part ja,h.W.part ja,hK,h.o,fun e=>(h.S e).part ja,h.N,h.m,h.ge⟩
theorem jjl (h:CyD R0 gn w0 D v g d s) (ok:jh g) (hlg:long<=64) (hi:jp g long s) (hle:j0 g s):
  Call Tryz.prog w0 234 [.agg (cyL v g long d s).toArray] (D++F) (CyS R0 gn w0 D F v g long s (jM g long s)):=by
 have hoo:=h.c
 obtain⟨q1,q2,q3,q4,q5,q6,q7,q8,q9,r1,r2,r3,r4,r5⟩:=h.c
 have hls:=hle.s
 have hlm:=hle.m
 have hst:s.st<=100000000:=by omega
 unfold CyS
 by_cases h1:s.ph=1
 ·have hss:jM g long s=(JK g long s.W s.m).map fun m'=>madeC g {s with m:=m'}:=by unfold jM;rw [if_pos h1]
  have hstep:=fun A=>rkHelp_K (F:=A) ok h.K hi.m hlg h.W bc
  unfold KmO kmL kwL at hstep
  cases hm:JK g long s.W s.m with
  |some m'=>
   obtain⟨hk,hu,hm'⟩:=jcg hm
   rw[hss];simp only[hm,Option.map_some,Option.isSome_some,Option.getD_some] at hstep|-
   have hmk:=fun A q' N hK'=>jeZ (F:=A) (s0:=s) (CyD.mark (q':=q') (N:=N) (m':=m') h hK') hoo ok hlg (jco ok hi h1 hm') hst
   unfold CyG at*
   obtain⟨s',hs'⟩: ∃ s',madeC g {s with m:=m'}=s':=⟨_,rfl⟩
   simp only[hs'] at hmk|-;unfold cyL at*;refine en1 44 Tryz.func234 ?_
   (iterate 33 first|refine yS ?_|intro _)
   refine je (hstep _) ja ?_;rintro _ _ ⟨q',N,hK',rfl,rfl⟩
   have p1:=hK'.oc
   have p2:=hK'.G.o1
   have p3:=hK'.G.o2
   have p4:=hK'.G.o3
   have p5:=hK'.oh
   (iterate 22 first|refine yS ?_|intro _)
   refine je (hmk _ q' N hK') bf ?_;rintro _ _ ⟨d',N',hd',rfl,rfl⟩
   obtain⟨_,_,_,_,v5,v6,v7,v8,v9,x1,x2,x3,x4,x5⟩:=hd'.c
   refine yr8 ?_;exact zba
  |none=>
   rw[hss];simp only[hm,Option.map_none,Option.isSome_none,Option.getD_none] at hstep|-
   have hmk:=fun A q' N (hK':KmD w0 (N++D) q' s.m)=>jjk (w0:=w0) (H:=A) (s0:=s) (s:=s) (g:=g) (long:=long) hoo (CyD.mark (m':=s.m) h hK').c
   unfold CyG;unfold cyL at*;refine en1 44 Tryz.func234 ?_
   (iterate 33 first|refine yS ?_|intro _)
   refine je (hstep _) ja ?_;rintro _ _ ⟨q',N,hK',rfl,rfl⟩
   have p1:=hK'.oc
   have p2:=hK'.G.o1
   have p3:=hK'.G.o2
   have p4:=hK'.G.o3
   have p5:=hK'.oh
   (iterate 22 first|refine yS ?_|intro _)
   refine jj (hmk _ q' N hK') ?_;refine yr8 ?_;exact z7
 ·by_cases h2:s.ph=2
  ·have h1': ¬((s.ph:Nat):Int)=1:=by omega
   have h2':((s.ph:Nat):Int)=2:=by omega
   obtain⟨s',hs',hcall⟩:=jhZ (w0:=w0) h ok hi h2
   have hss:jM g long s=some (madeC g s'):=by unfold jM;rw [if_neg h1,if_pos h2,hs'];rfl
   have hcy:=jbw ok hi h2 hs'
   rw[hss];simp only[Option.isSome_some,Option.getD_some]
   have hmk:=fun A d' N (hd:CyD R0 gn w0 (N++D) v g d' s')=>jeZ (F:=A) (s0:=s) hd hoo ok hlg hcy.1 Bd
   unfold CyG at*
   obtain⟨s2,hs2⟩: ∃ s2,madeC g s'=s2:=⟨_,rfl⟩
   simp only[hs2] at hmk|-;unfold cyL at*;refine en1 44 Tryz.func234 ?_
   (iterate 33 first|refine yS ?_|intro _)
   refine je (hcall _) ja ?_;rintro _ _ ⟨d1,N,hd1,rfl,rfl⟩
   obtain⟨_,_,_,_,p5,p6,p7,p8,p9,o1,o2,o3,o4,o5⟩:=hd1.c
   (iterate 15 first|refine yS ?_|intro _)
   refine je (hmk _ d1 N hd1) bf ?_;rintro _ _ ⟨d',N',hd',rfl,rfl⟩
   obtain⟨_,_,_,_,v5,v6,v7,v8,v9,x1,x2,x3,x4,x5⟩:=hd'.c
   refine yr8 ?_;exact zba
  ·have hss:jM g long s=none:=by unfold jM;rw [if_neg h1,if_neg h2]
   rw[hss];simp only[Option.isSome_none,Option.getD_none]
   have h1': ¬((s.ph:Nat):Int)=1:=by omega
   have h2': ¬((s.ph:Nat):Int)=2:=by omega
   unfold CyG;unfold cyL;refine en1 44 Tryz.func234 ?_
   (iterate 39 first|refine yS ?_|intro _)
   exact z7
theorem rcStep_K {hd u:Int} {nw:Nat} (h:CyD R0 gn w0 D v g d s) (ok:jh g) (hlg:long<=64) (hi:jp g long s) (hle:j0 g s) (hv:0<=u/\u<256) (hnw:s.m.hs.length=nw+1):
  Call Tryz.prog w0 26 [.agg (cyL v g long d s).toArray, .int .i64 hd, .int .u8 u] (D++F) (CyS R0 gn w0 D F v g long s (stepC g long nw s hd u)):=by
 have hoo:=h.c
 obtain⟨q1,q2,q3,q4,q5,q6,q7,q8,q9,r1,r2,r3,r4,r5⟩:=h.c
 have hls:=hle.s
 have hlm:=hle.m
 have hst:s.st<=100000000:=by omega
 unfold CyS
 by_cases h1:s.ph=1
 ·have hss:stepC g long nw s hd u=(stepM g long s.W s.m hd u).map fun m'=>madeC g {s with m:=m'}:=by unfold stepC;rw [if_pos h1]
  have hstep:=fun A=>jjf (F:=A) (hd:=hd) (v0:=u) ok h.K hi.m hlg h.W bc hv
  unfold KmO kmL kwL at hstep
  cases hm:stepM g long s.W s.m hd u with
  |some m'=>
   have hm':=hm
   rw[hss];simp only[hm,Option.map_some,Option.isSome_some,Option.getD_some] at hstep|-
   have hmk:=fun A q' N hK'=>jeZ (F:=A) (s0:=s) (CyD.mark (q':=q') (N:=N) (m':=m') h hK') hoo ok hlg (jco ok hi h1 hm') hst
   unfold CyG at*
   obtain⟨s',hs'⟩: ∃ s',madeC g {s with m:=m'}=s':=⟨_,rfl⟩
   simp only[hs'] at hmk|-;unfold cyL at*;refine en3 66 Tryz.func26 ?_
   (iterate 35 first|refine yS ?_|intro _)
   refine je (hstep _) ja ?_;rintro _ _ ⟨q',N,hK',rfl,rfl⟩
   have p1:=hK'.oc
   have p2:=hK'.G.o1
   have p3:=hK'.G.o2
   have p4:=hK'.G.o3
   have p5:=hK'.oh
   (iterate 22 first|refine yS ?_|intro _)
   refine je (hmk _ q' N hK') bf ?_;rintro _ _ ⟨d',N',hd',rfl,rfl⟩
   obtain⟨_,_,_,_,v5,v6,v7,v8,v9,x1,x2,x3,x4,x5⟩:=hd'.c
   refine yr8 ?_;exact zba
  |none=>
   rw[hss];simp only[hm,Option.map_none,Option.isSome_none,Option.getD_none] at hstep|-
   have hmk:=fun A q' N (hK':KmD w0 (N++D) q' s.m)=>jjk (w0:=w0) (H:=A) (s0:=s) (s:=s) (g:=g) (long:=long) hoo (CyD.mark (m':=s.m) h hK').c
   unfold CyG;unfold cyL at*;refine en3 66 Tryz.func26 ?_
   (iterate 35 first|refine yS ?_|intro _)
   refine je (hstep _) ja ?_;rintro _ _ ⟨q',N,hK',rfl,rfl⟩
   have p1:=hK'.oc
   have p2:=hK'.G.o1
   have p3:=hK'.G.o2
   have p4:=hK'.G.o3
   have p5:=hK'.oh
   (iterate 22 first|refine yS ?_|intro _)
   refine jj (hmk _ q' N hK') ?_;refine yr8 ?_;exact z7
 ·by_cases h2:s.ph=2
  ·have h1': ¬((s.ph:Nat):Int)=1:=by omega
   have h2':((s.ph:Nat):Int)=2:=by omega
   have hH:=h.K.H
   by_cases h5:u=5
   ·subst h5
    by_cases h0:hd>=0
    ·by_cases h9:hd<((s.m.hs.length:Nat):Int)
     ·obtain⟨s',hs',hcall⟩:=jhZ (w0:=w0) h ok hi h2
      have hss:stepC g long nw s hd 5=some (madeC g s'):=by unfold stepC;rw [if_neg h1,if_pos ⟨h2,rfl,h0,by omega⟩,hs'];rfl
      have hcy:=jbw ok hi h2 hs'
      rw[hss];simp only[Option.isSome_some,Option.getD_some]
      have hmk:=fun A d' N (hd:CyD R0 gn w0 (N++D) v g d' s')=>jeZ (F:=A) (s0:=s) hd hoo ok hlg hcy.1 Bd
      unfold CyG at*
      obtain⟨s2,hs2⟩: ∃ s2,madeC g s'=s2:=⟨_,rfl⟩
      simp only[hs2] at hmk|-;unfold cyL at*;refine en3 66 Tryz.func26 ?_
      (iterate 49 first|refine yS ?_|intro _)
      refine je (hcall _) ja ?_;rintro _ _ ⟨d1,N,hd1,rfl,rfl⟩
      obtain⟨_,_,_,_,p5,p6,p7,p8,p9,o1,o2,o3,o4,o5⟩:=hd1.c
      (iterate 15 first|refine yS ?_|intro _)
      refine je (hmk _ d1 N hd1) bf ?_;rintro _ _ ⟨d',N',hd',rfl,rfl⟩
      obtain⟨_,_,_,_,v5,v6,v7,v8,v9,x1,x2,x3,x4,x5⟩:=hd'.c
      refine yr8 ?_;exact zba
     ·have hss:stepC g long nw s hd 5=none:=by unfold stepC;rw [if_neg h1,if_neg (fun e=>by omega)]
      rw[hss];simp only[Option.isSome_none,Option.getD_none];unfold CyG;unfold cyL;refine en3 66 Tryz.func26 ?_
      (iterate 55 first|refine yS ?_|intro _)
      exact z7
    ·have hss:stepC g long nw s hd 5=none:=by unfold stepC;rw [if_neg h1,if_neg (fun e=>h0 e.2.2.1)]
     rw[hss];simp only[Option.isSome_none,Option.getD_none];unfold CyG;unfold cyL;refine en3 66 Tryz.func26 ?_
     (iterate 55 first|refine yS ?_|intro _)
     exact z7
   ·have hss:stepC g long nw s hd u=none:=by unfold stepC;rw [if_neg h1,if_neg (fun e=>h5 e.2.1)]
    rw[hss];simp only[Option.isSome_none,Option.getD_none];unfold CyG;unfold cyL;refine en3 66 Tryz.func26 ?_
    (iterate 55 first|refine yS ?_|intro _)
    exact z7
  ·have hss:stepC g long nw s hd u=none:=by unfold stepC;rw [if_neg h1,if_neg (fun e=>h2 e.1)]
   rw[hss];simp only[Option.isSome_none,Option.getD_none]
   have h1': ¬((s.ph:Nat):Int)=1:=by omega
   have h2': ¬((s.ph:Nat):Int)=2:=by omega
   unfold CyG;unfold cyL;refine en3 66 Tryz.func26 ?_
   (iterate 55 first|refine yS ?_|intro _)
   exact z7
end
section
variable {R0 : List (List Int)} {gn : Int} {w0 : World} {D F : jb} {v : PlV} {g : PlG} {long : Nat} {d : CyV} {s : CyP}
theorem jmA {q:KmV} {m:MaP} {W:MwP} {t:Nat} (hP:jad w0 D v g) (ok:jh g) (hK:KmD w0 D q m) (hm:jw g long W m) (ht:t<g.slots):
  Call Tryz.prog w0 229 [.agg (kmL v g long q m).toArray, .int .i64 (t:Nat)] (D++F) (KmG w0 D F v g long (Jd m t) id):=by
 have q1:=hP.oL
 have q2:=hP.oF
 have q3:=hP.oM
 have q4:=hP.oC
 have q5:=hK.G.o1
 have q6:=hK.G.o2
 have q7:=hK.G.o3
 have q8:=hK.oc
 have q9:=hK.oh
 have hsl:=ok.slots
 have hbl:=fun A=>jiq (w0:=w0) (F:=A) hK.C (s:=t) (by rw[hm.C];exact ht) (by rw[hm.C];omega)
 unfold KmG id kmL
 cases ha:m.act with
 |true=>
  have e:Jd m t={m with C:=m.C.set t 2}:=by unfold Jd;rw [if_pos ha]
  have hK': ∀ vc' N,Sli w0 (N++D) bE vc' (m.C.set t 2)->vc'.oneCell'=true->KmD w0 (N++D) ⟨vc',q.u,q.h⟩ (Jd m t):=fun vc' N hC ho=>by
   rw[e];exact⟨hC,hK.G.part ja,hK.H.part ja,ho,q9⟩
  obtain⟨C,G,hs,root,act,steps⟩:=m
  dsimp only at*;subst ha;refine en2 18 Tryz.func229 ?_
  (iterate 25 first|refine yS ?_|intro _)
  refine je (hbl _) ja ?_;rintro _ _ ⟨vc',N,hC,ho,rfl,rfl⟩;refine yr14 ?_;exact KE.fin (H':=N++(D++F)) jd rfl jc ja ⟨⟨vc',q.u,q.h⟩,N,hK' vc' N hC ho,by rw[e];rfl,rfl⟩
 |false=>
  have e:Jd m t=m:=by unfold Jd;rw [if_neg Bp]
  rw[e]
  obtain⟨C,G,hs,root,act,steps⟩:=m
  dsimp only at*;subst ha;refine en2 18 Tryz.func229 ?_
  (iterate 25 first|refine yS ?_|intro _)
  exact KE.fin (H':=D++F) jd rfl jc ja ⟨q,[],hK,rfl,rfl⟩
theorem jmC {t:Nat} (h:CyD R0 gn w0 D v g d s) (ok:jh g) (hi:jp g long s) (ht:t<g.slots):
  Call Tryz.prog w0 131 [.agg (cyL v g long d s).toArray, .int .i64 (t:Nat)] (D++F) (CyG R0 gn w0 D F v g long {s with m:=Jd s.m t} id):=by
 obtain⟨q1,q2,q3,q4,q5,q6,q7,q8,q9,r1,r2,r3,r4,r5⟩:=h.c
 have hbl:=fun A=>jmA (w0:=w0) (F:=A) h.A.p ok h.K hi.m ht
 unfold CyG id;unfold KmG id kmL at hbl;unfold cyL
 have hD:=fun q' N hK'=>CyD.mark (q':=q') (N:=N) (m':=Jd s.m t) h hK'
 refine en2 11 Tryz.func131 ?_
 (iterate 14 first|refine yS ?_|intro _)
 refine je (hbl _) ja ?_;rintro _ _ ⟨q',N,hK',rfl,rfl⟩
 have p1:=hK'.oc
 have p2:=hK'.G.o1
 have p3:=hK'.G.o2
 have p4:=hK'.G.o3
 have p5:=hK'.oh
 refine yr11 ?_;exact zbB
theorem jeG {t:Nat} (h:CyD R0 gn w0 D v g d s) (ok:jh g) (hlg:long<=64) (hi:jp g long s) (ht:t<g.slots):
  Call Tryz.prog w0 71 [.agg (cyL v g long d s).toArray, .int .i64 (t:Nat)] (D++F) (CyG R0 gn w0 D F v g long (shdC g long s (t:Nat)) id):=by
 obtain⟨q1,q2,q3,q4,q5,q6,q7,q8,q9,r1,r2,r3,r4,r5⟩:=h.c
 have hsh:=fun A=>jmz (w0:=w0) (F:=A) h.A.p ok h.K hi.m hlg ht
 unfold CyG id;unfold KmG id kmL at hsh
 by_cases h1:s.ph=1
 ·have e:shdC g long s (t:Nat)={s with m:=ja3 g long s.m (t:Nat)}:=by
   unfold shdC jZ;rw [if_pos h1,if_pos ⟨by omega,by omega⟩]
  rw[e]
  have hD:=fun q' N hK'=>CyD.mark (q':=q') (N:=N) (m':=ja3 g long s.m (t:Nat)) h hK'
  unfold cyL
  have h1':((s.ph:Nat):Int)=1:=by omega
  refine en2 14 Tryz.func71 ?_
  (iterate 22 first|refine yS ?_|intro _)
  refine je (hsh _) ja ?_;rintro _ _ ⟨q',N,hK',rfl,rfl⟩
  have p1:=hK'.oc
  have p2:=hK'.G.o1
  have p3:=hK'.G.o2
  have p4:=hK'.G.o3
  have p5:=hK'.oh
  refine yr11 ?_;exact zbB
 ·have e:shdC g long s (t:Nat)=s:=by unfold shdC;rw [if_neg h1]
  rw[e]
  have h1': ¬((s.ph:Nat):Int)=1:=by omega
  unfold cyL;refine en2 14 Tryz.func71 ?_
  (iterate 26 first|refine yS ?_|intro _)
  exact z7
theorem jmD (h:CyD R0 gn w0 D v g d s) (ok:jh g) (hi:jp g long s) (h0:s.ph=0):
  Call Tryz.prog w0 236 [.agg (cyL v g long d s).toArray] (D++F) (CyG R0 gn w0 D F v g long (beginC g s) (fun a=> .tuple [a, .int .i64 0].toArray)):=by
 obtain⟨q1,q2,q3,q4,q5,q6,q7,q8,q9,r1,r2,r3,r4,r5⟩:=h.c
 have hst:=fun A=>jmy (w0:=w0) (F:=A) ok h.K hi.m h.W
 have h0':((s.ph:Nat):Int)=0:=by omega
 unfold CyG;unfold KmG id kmL kwL at hst
 have hD: ∀ q' N,KmD w0 (N++D) q' (jcK g s.m)->CyD R0 gn w0 (N++D) v g ⟨d.va,d.z,q',d.vd⟩ (beginC g s):=fun q' N hK=>⟨h.A.part ja,h.W.part ja,hK,h.o,fun e=>(h.S e).part ja,h.N,h.m,h.ge⟩
 unfold cyL;refine en1 17 Tryz.func236 ?_
 (iterate 27 first|refine yS ?_|intro _)
 refine je (hst _) ja ?_;rintro _ _ ⟨q',N,hK',rfl,rfl⟩
 have p1:=hK'.oc
 have p2:=hK'.G.o1
 have p3:=hK'.G.o2
 have p4:=hK'.G.o3
 have p5:=hK'.oh
 refine yr24 ?_;exact zbB
structure RfnS where
 n:Nat
 s:CyP
 d:CyV
 N:jb
 is:Bool
theorem jlA {z:CyP} (h:CyD R0 gn w0 D v g d z) (ok:jh g) (hlg:long<=64) (hi:jp g long z) (hle:j0 g z) (h0:z.ph≠0):
  Call Tryz.prog w0 238 [.agg (cyL v g long d z).toArray] (D++F) (fun r H'=> ∃ (n:Nat) (s':CyP),jaC g long z n s'/\jM g long s'=none/\s'.ph=3/\CyG R0 gn w0 D F v g long s' (fun a=> .tuple [a, .int .i64 (n:Nat), .int .i64 0].toArray) r H'):=by
 have hoo:=h.c
 obtain⟨q1,q2,q3,q4,q5,q6,q7,q8,q9,r1,r2,r3,r4,r5⟩:=h.c
 have h0': ¬((z.ph:Nat):Int)=0:=by omega
 have hh:=fun(D' A:jb) d' s' (h:CyD R0 gn w0 D' v g d' s') hi hle=>jjl (w0:=w0) (F:=A) (long:=long) h ok hlg hi hle
 have hnil:[]++D=D:=rfl
 unfold CyG;unfold cyL;refine en1 22 Tryz.func238 ?_;refine yr3 ?_;intro b1;refine yr1 ?_;intro b2;refine yr27 ?_;refine K.loopT (σ:=RfnS) [(1,_),(2,_)] (fun s kp_=>(5, .int .i64 (s.n:Nat))::(6, .bool s.is)::kp_) (fun s=>(b1,cells (cyL v g long s.d s.s) 57)::(b2,cells cy0 57)::(s.N++(D++F))) (fun s=>CyD R0 gn w0 (s.N++D) v g s.d s.s/\jaC g long z s.n s.s/\(s.is=false->jM g long s.s=none)) (fun s=>(Jg g s.s+(if s.is=true then 1 else 0))) (⟨0,z,d,[],true⟩) jg ja (⟨h, .refl,fun e=>by cases e⟩) ?_;rintro⟨n,z1,d1,N1,is⟩ ⟨hD1,hp,hf⟩;dsimp only at hD1 hp hf|-
 have ho1:=hp.ok ok hi
 have hle1:=ho1.le hle
 have hst1:=ho1.st
 have hls1:=hle1.s
 have hn8:n<=100000000:=by omega
 obtain⟨_,_,_,_,t5,t6,t7,t8,t9,u1,u2,u3,u4,u5⟩:=hD1.c
 cases is with
 |true=>
  have hh1:=fun A=>hh _ A d1 z1 hD1 ho1.ok hle1
  unfold CyS CyG at hh1
  cases hs:jM g long z1 with
  |some z2=>
   rw[hs] at hh1;simp only[Option.isSome_some,Option.getD_some] at hh1
   have hm:=jcm ok ho1.ok hs
   unfold cyL at hh1|-;refine yr14 ?_;refine je (hh1 _) bf ?_;rintro _ _ ⟨d2,N2,hD2,rfl,rfl⟩
   obtain⟨_,_,_,_,v5,v6,v7,v8,v9,x1,x2,x3,x4,x5⟩:=hD2.c
   refine yr19 ?_;exact KE.again ⟨n+1,z2,d2,N2++N1,true⟩ jg bf ⟨by dsimp only;rw [List.append_assoc];exact hD2, .snoc hp hs,fun e=>by cases e⟩ (by show Jg g z2+1<Jg g z1+1;omega)
  |none=>
   rw[hs] at hh1;simp only[Option.isSome_none,Option.getD_none] at hh1;unfold cyL at hh1|-;refine yr14 ?_;refine je (hh1 _) bf ?_;rintro _ _ ⟨d2,N2,hD2,rfl,rfl⟩
   obtain⟨_,_,_,_,v5,v6,v7,v8,v9,x1,x2,x3,x4,x5⟩:=hD2.c
   refine yr15 ?_;exact KE.again ⟨n,z1,d2,N2++N1,false⟩ jg bf ⟨by dsimp only;rw [List.append_assoc];exact hD2,hp,fun _=>hs⟩ (by show Jg g z1+0<Jg g z1+1;omega)
 |false=>
  have hs:=hf rfl
  have h3:=jgk ok ho1.ok (by have:=ho1.ph;omega) hs
  unfold cyL;refine yr22 ?_;exact KE.fin (H':=N1++(D++F)) jd rfl jc ja ⟨n,z1,hp,hs,h3,d1,N1,hD1,rfl,rfl⟩
theorem jk9 (h:CyD R0 gn w0 D v g d s) (ok:jh g) (hi:jp g long s) (h3:s.ph=3) (hg:1<=d.z.gens/\d.z.gens<=2147483648) (hT: ∀ e∈s.W.T,1<=e.gen/\e.gen<=2147483648):
  Call Tryz.prog w0 239 [.agg (cyL v g long d s).toArray] (D++F) (CyG R0 gn w0 D F v g long (publishC g d.z.gens s) (fun a=> .tuple [a, .int .i64 (s.D.count true:Nat), .int .i64 (recyN d.z.gens s.W.T:Nat), .int .i64 0].toArray)):=by
 obtain⟨q1,q2,q3,q4,q5,q6,q7,q8,q9,r1,r2,r3,r4,r5⟩:=h.c
 obtain⟨p1,p2,p3⟩:=hi.p3 h3
 have hsl:=ok.slots
 have h3': ¬((s.ph:Nat):Int)≠3:=by omega
 have hstop:=fun A=>rsStop_K (F:=A) (ka:=true) (kat:=s.at_) h.A (h.S p2) r5 (hi.D.trans hi.A.symm) (by rw[hi.A];omega)
 have hrec:=fun(N:jb) A=>jk7 (w0:=w0) (D:=N++D) (F:=A) (h.W.T.part ja) q6 (by rw[List.length_map];exact h.W.st.1) hg (fun e he=>by
  obtain⟨y,hy,rfl⟩:=List.mem_map.1 he
  rw[(jbn y).1,(jbn y).2]
  exact⟨h.W.st.2 y hy,hT y hy⟩)
 simp only[recT_doc,recN_doc] at hrec
 have hw:=jfR hi h3 d.z.gens
 have hD: ∀ va' vt' N,ArD w0 (N++D) v va' g (jah s.A s.D).2->Sli w0 (N++D) wE vt' ((Jq d.z.gens s.W.T).map j5)->vt'.oneCell'=true->CyD R0 gn w0 (N++D) v g ⟨va',⟨d.z.vr,vt',d.z.vn,d.z.R,d.z.gens⟩,d.q, .slice none 0 0⟩ (publishC g d.z.gens s):=fun va' vt' N hA hT' ho=>
  ⟨hA,h.W.tab hT' ho hw.w ⟨by unfold Jq;rw [List.length_map];exact h.W.st.1,rec_st h.W.st.2⟩ ja,⟨h.K.C.part ja,h.K.G.part ja,h.K.H.part ja,h.K.oc,h.K.oh⟩,rfl,fun e=>bO,fun _=>rfl,h.m,h.ge⟩
 unfold CyG;unfold ksL arL at hstop;unfold cyL;rw[p2];refine en1 44 Tryz.func239 ?_
 (iterate 29 first|refine yS ?_|intro _)
 refine je (hstop _) ja ?_;rintro _ _ ⟨va',N1,hA',rfl,rfl⟩
 have t1:=hA'.o
 (iterate 8 first|refine yS ?_|intro _);refine yq10 fun T hT=>?_
 refine(CallV.part (CallV.fn (hrec N1 _)) bf).mono ?_;rintro _ _ ⟨vt',N2,hT',t2,rfl,rfl⟩
 have hD':=hD va' vt' (N2++N1) (by rw[List.append_assoc];exact hA'.part ja) (by rw[List.append_assoc];exact hT') t2
 refine ze ?_;clear hT T
 (iterate 56 first|refine yS ?_|intro _)
 exact KE.fin (H':=(N2++N1)++(D++F)) jd rfl jc bf ⟨_,N2++N1,hD',rfl,rfl⟩
