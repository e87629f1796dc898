/-The walker and contracts, part 26.-/
import Derived.Test.YtciaccbemnpipaaGreatDoorJ25
set_option linter.all false
namespace Go.Proofs.YtciaccbemnpipaaGreatDoor.Sw
set_option maxHeartbeats 8000000
open Go.Proofs.YtciaccbemnpipaaGreatDoor renaming lo -> qL, hi -> qH
open Go.RowKit
set_option maxRecDepth 10000
structure GvS where
 i:Nat
 l:List Bool
theorem jfT {A D:List Bool} {i:Nat} {a d:Bool} (ha:A[i]?=some a) (hd:D[i]?=some d):(jbd A D i).set i (a&&!d)=jbd A D (i+1):=by
 apply List.ext_getElem?
 intro j
 have hi:=jl ha
 by_cases hj:j<A.length
 ·rw[jcf hj]
  by_cases hij:j=i
  ·subst hij;rw[List.getElem?_set_self (by rw[jdv];exact hj),ha,hd];simp
  ·rw[List.getElem?_set_ne bc,jcf hj]
   have e:decide (j<i)=decide (j<i+1):=decide_eq_decide.2 bc
   rw[e]
 ·rw[List.getElem?_eq_none (by simp[jdv];omega),List.getElem?_eq_none Bk]
theorem jlL {A D:List Bool} (hl:D.length=A.length):jbd A D A.length=ja1 A D:=by
 apply List.ext_getElem?
 intro j
 by_cases hj:j<A.length
 ·rw[jcf hj,jd4 j hl.symm,List.getElem?_eq_getElem hj];simp[hj]
 ·rw[List.getElem?_eq_none Bk,List.getElem?_eq_none (by rw[je7];omega)]
section
variable {w0 : World} {D F : jb} {v : PlV} {va vd : Value} {g : PlG} {A R : List Bool}
theorem jlC (hA:ArD w0 D v va g A) (hR: ∀ H,Part H (D++F)->Sli w0 H boE vd R) (hd1:vd.oneCell'=true) (hl:R.length=A.length) (hb:A.length<=65536):
  Call Tryz.prog w0 373 [.agg (arL v g va).toArray,vd] (D++F) (fun r H'=> ∃ (va':Value) (N:jb),ArD w0 (N++D) v va' g (jah A R).2/\r= .tuple [.agg (arL v g va').toArray, .int .i64 (jah A R).1].toArray/\H'=N++(D++F)):=by
 have haA:=hA.a
 have hRR:=hR _ Part.all
 have q1:=hA.p.oL
 have q2:=hA.p.oF
 have q3:=hA.p.oM
 have q4:=hA.p.oC
 have q5:=hA.o
 have hgp:jah A R=if jbC A R then(0,ja1 A R) else(9,A):=by unfold jah;rw [if_pos hl]
 have hne: ¬((R.length:Nat):Int)≠((A.length:Nat):Int):=by omega
 unfold arL;refine en2 55 Tryz.func373 ?_;refine yr3 ?_;intro b2;refine yr1 ?_;intro b4;refine yr20 ?_;intro b15;refine yr2 ?_;refine KL.e rfl (Eff.appLit (E:=boE) (ys:=A) rfl rfl rfl rfl rfl rfl rfl jK ba be rfl) ?_;rintro _ _ ⟨o',ok',rfl,rfl⟩;refine yr10 ?_;refine K.loopT (σ:=GvS) [(1,_),(2,_),(4,_),(6,_)] (fun s kp_=>(7, .int .i64 (s.i:Nat))::kp_) (fun s=>(oH boE 4 s.l o'++((b2,cells [v.L,v.F,v.M, .int .i64 (g.words:Nat),v.C,va] 37)::(b4,cells [.slice none 0 0, .slice none 0 0, .slice none 0 0, .int .i64 0, .slice none 0 0, .slice none 0 0] 37)::(D++F)))) (fun s=>s.i<=A.length/\s.l=jbd A R s.i/\oOk boE s.l o'/\ ∀ j:Nat,j<s.i->R[j]?=some true->A[j]?=some true) (fun s=>A.length-s.i) (⟨0,A⟩) jg ja (⟨Nat.zero_le _,(jh2 A R).symm,ok',fun j h=>by simp at h⟩) ?_;rintro⟨i,l⟩ ⟨hi,hl2,okl,hno⟩;dsimp only at hi hl2 okl hno|-
 have hll:l.length=A.length:=by rw[hl2,jdv]
 by_cases hlt:i<A.length
 ·have hill:i<l.length:=by omega
  obtain⟨a,ha⟩:=jq hlt
  obtain⟨d,hd⟩:=jq (l:=R) (k:=i) bc
  have hli:l[i]?=some a:=by rw[hl2,jcf hlt,ha];simp
  have hno1:(d=true->a=true)-> ∀ j:Nat,j<i+1->R[j]?=some true->A[j]?=some true:=fun h j h1 h2=>by
   by_cases hj:j=i
   ·subst hj;rw [hd] at h2;rw [ha];cases h2;rw [h rfl]
   ·exact hno j bc h2
  cases d with
  |true=>
   cases a with
   |false=>
    have hoa:jbC A R=false:=jhz ha hd
    rw[hoa] at hgp;simp only[Bool.false_eq_true,if_false] at hgp;rw[hgp];refine yr45 ?_;exact KE.fin (H':=D++F) jd rfl jc ja ⟨va,[],hA,rfl,rfl⟩
   |true=>
    refine yr57 ?_;exact KE.again ⟨i+1,l.set i (true&&!true)⟩ jg ja ⟨hlt,by show l.set i (true&&!true)=_;rw [hl2];exact jfT ha hd,okl.set i _,hno1 (by intro _;rfl)⟩ bI
  |false=>
   cases a with
   |false=>
    refine yr57 ?_;exact KE.again ⟨i+1,l.set i (false&&!false)⟩ jg ja ⟨hlt,by show l.set i (false&&!false)=_;rw [hl2];exact jfT ha hd,okl.set i _,hno1 (by intro h;cases h)⟩ bI
   |true=>
    refine yr57 ?_;exact KE.again ⟨i+1,l.set i (true&&!false)⟩ jg ja ⟨hlt,by show l.set i (true&&!false)=_;rw [hl2];exact jfT ha hd,okl.set i _,hno1 (by intro h;cases h)⟩ bI
 ·have hie:i=A.length:=by omega
  subst hie
  have hoa:jbC A R=true:=jfA fun j hj=>hno j (by have:=jl hj;omega) hj
  rw[hoa] at hgp;simp only[if_true] at hgp;rw[jlL hl] at hl2;rw[hgp,<-hl2];refine yr26 ?_;exact KE.fin (H':=oH boE 4 l o'++(D++F)) jd rfl jc ja ⟨oV o' l.length,_,⟨hA.p.part ja,Sli.own jt okl rfl,jJ _ _⟩,by rw[hll];rfl,rfl⟩
end
def ksL (ka:Bool) (kat:Nat) (vd:Value):List Value:=[.bool ka, .int .i64 (kat:Nat),vd]
theorem jmp {w0:World} {F:jb} {n:Nat} (hn:n<=65536):
  Call Tryz.prog w0 188 [.int .i64 (n:Nat)] F (fun r H'=> ∃ (vd:Value) (N:jb),Sli w0 N boE vd (List.replicate n false)/\vd.oneCell'=true/\r= .agg (ksL true 0 vd).toArray/\H'=N++F):=by
 refine en1 6 Tryz.func188 ?_
 (iterate 9 first|refine yS ?_|intro _)
 refine KL.e rfl (Eff.makeR (E:=boE) (x0:=false) rfl rfl rfl rfl rfl rfl be) ?_;rintro _ _ ⟨o4,ok4,rfl,rfl⟩;refine yr5 ?_;exact KE.fin (H':=oH boE 4 (List.replicate n false) o4++F) jd rfl jc ja ⟨oV o4 (List.replicate n false).length,_,Sli.own jt ok4 rfl,jJ _ _,rfl,rfl⟩
structure SkA where
 b11:Nat
 o:Own
theorem jlY {bs:List Bool} {k:Nat} {b:Bool} (h:bs[k]?=some b):(bs.take (k+1)).count true=(bs.take k).count true+(if b then 1 else 0):=by
 rw[ja6 h,List.count_append];cases b<;>simp
structure SpQ where
 i:Nat
theorem rsStop_K {w0:World} {D F:jb} {v:PlV} {va vd:Value} {g:PlG} {A R:List Bool} {ka:Bool} {kat:Nat} (hA:ArD w0 D v va g A) (hR:Sli w0 D boE vd R) (hd1:vd.oneCell'=true) (hl:R.length=A.length) (hb:A.length<=65536):
  Call Tryz.prog w0 324 [.agg (ksL ka kat vd).toArray, .agg (arL v g va).toArray] (D++F) (fun r H'=> ∃ (va':Value) (N:jb),ArD w0 (N++D) v va' g (jah A R).2/\r= .tuple [.agg (ksL false 0 (.slice none 0 0)).toArray, .agg (arL v g va').toArray, .int .i64 (R.count true:Nat)].toArray/\H'=N++(D++F)):=by
 have haA:=hA.a
 have hRR:=hR
 have q1:=hA.p.oL
 have q2:=hA.p.oF
 have q3:=hA.p.oM
 have q4:=hA.p.oC
 have q5:=hA.o
 have hga:=fun F'=>jlC (w0:=w0) (F:=F') (vd:=vd) hA (fun H hp=>(hR.part (H:=D++F') ja).part hp) hd1 hl hb
 unfold ksL arL;unfold arL at hga;refine en2 33 Tryz.func324 ?_;refine yr3 ?_;intro b2;refine yr1 ?_;intro b3;refine yr1 ?_;intro b4;refine yr1 ?_;intro b5;refine yr15 ?_;refine K.loopT (σ:=SpQ) [(2,_),(3,_),(4,_),(5,_)] (fun s kp_=>(8, .int .i64 (s.i:Nat))::(7, .int .i64 ((R.take s.i).count true:Nat))::kp_) (fun s=>(b2,cells [.bool ka, .int .i64 (kat:Nat),vd] 55)::(b3,cells [v.L,v.F,v.M, .int .i64 (g.words:Nat),v.C,va] 37)::(b4,cells [.bool false, .int .i64 0, .slice none 0 0] 55)::(b5,cells [.slice none 0 0, .slice none 0 0, .slice none 0 0, .int .i64 0, .slice none 0 0, .slice none 0 0] 37)::(D++F)) (fun s=>s.i<=R.length) (fun s=>R.length-s.i) (⟨0⟩) jg ja (Nat.zero_le _) ?_;rintro⟨i⟩ hi;dsimp only at hi|-
 by_cases hlt:i<R.length
 ·obtain⟨b,hb⟩:=jq hlt
  have hct:=jlY hb
  have hcl:(R.take i).count true<=R.length:=Nat.le_trans List.count_le_length bK
  cases b with
  |true=>
   simp only[if_true] at hct;refine yr37 ?_;exact zb3
  |false=>
   simp only[Bool.false_eq_true,if_false,Nat.add_zero] at hct;refine jbf ?_;exact zb3
 ·have hie:i=R.length:=by omega
  subst hie;rw[List.take_length];refine yr22 ?_;refine je (hga _) ja ?_;rintro _ _ ⟨va',N,hA',rfl,rfl⟩
  have q6:=hA'.o
  refine yr7 ?_;refine K.dr _ (od 0 [0,1,1,2,2,0]) (Part.take jx.head (Part.takeA jE.head (Part.takeA jE.head (Part.take jx.head (Part.drop (Part.drop Part.all)))))) ?_;refine yr11 ?_;exact KE.fin (H':=N++(D++F)) jd rfl jc ja ⟨va',N,hA',rfl,rfl⟩
section
variable {w0 : World} {D F : jb} {v : PlV} {vr va vd vc : Value} {g : PlG} {R : List RwD} {A Ds : List Bool} {C : List Int} {t s : Nat} {x : List Int} {y : jn} {ka : Bool} {kat : Nat}
theorem rsStep_K {a:Bool} {c:Int} (hB:BoD w0 D v vr g R) (hf:BoF g R t x) (hy:g.L[kat]?=some y) (hA:ArD w0 D v va g A) (hC:Sli w0 D bE vc C) (hd:Sli w0 D boE vd Ds) (hvc:vc.oneCell'=true) (hvd:vd.oneCell'=true) (ha:A[kat]?=some a) (hc:C[kat]?=some c) (hl:Ds.length=g.slots):
  Call Tryz.prog w0 113 [.agg (ksL true kat vd).toArray, .agg (arL v g va).toArray, .agg (boL v g vr t).toArray,vc] (D++F)
   (fun r H'=> ∃ (vd' vr':Value) (R':List RwD) (N:jb),BoD w0 (N++D) v vr' g R'/\rwX R'=(if (a&&decide (c=0))=true then(rwX R).set t (JH x y) else rwX R)/\Sli w0 (N++D) boE vd' (if (a&&decide (c=0))=true then Ds.set kat true else Ds)/\vd'.oneCell'=true/\r= .tuple [.agg (ksL true (kat+1) vd').toArray, .agg (boL v g vr' t).toArray, .bool true].toArray/\H'=N++(D++F)):=by
 have hil:kat<g.slots:=by rw[<-jak];exact jl hy
 have hs16:=hf.ok.slots.2
 have hself:=hf.self
 have ho:=hB.m.o
 have haA:=hA.a
 have q1:=hB.p.oL
 have q2:=hB.p.oF
 have q3:=hB.p.oM
 have q4:=hB.p.oC
 have q5:=hA.o
 have hlt: ¬((kat:Nat):Int)>=((Ds.length:Nat):Int):=by omega
 have he:((kat:Nat):Int)+1=((kat+1:Nat):Int):=by omega
 have hwipe:=fun A=>jjn (w0:=w0) (D:=D) (F:=A) hB hf hy
 unfold ksL arL boL at*
 have hsl:(List.set Ds kat true).length=Ds.length:=List.length_set
 have hal:=jl ha
 have hcl:=jl hc
 obtain⟨dk,hdk⟩:=jq (l:=Ds) (k:=kat) bc
 refine en4 61 Tryz.func113 ?_;refine yr3 ?_;intro b4;refine yr1 ?_;intro b5;refine yr1 ?_;intro b6;refine yr1 ?_;intro b8;refine yr1 ?_;intro b9;refine yr22 ?_;refine K.cutT (σ:=SkA) [(3,_),(4,_),(5,_),(6,_),(8,_),(9,_)] jg (fun s kp_=>(11,pt s.b11)::kp_) (fun s=>oH boE 4 Ds s.o++((s.b11,cells [.bool true, .int .i64 ((kat+1:Nat):Int),oV s.o Ds.length] 55)::(b4,cells [.bool true, .int .i64 (kat:Nat),vd] 55)::(b5,cells [v.L,v.F,v.M, .int .i64 (g.words:Nat),v.C,va] 37)::(b6,cells [vr, .int .i64 (t:Nat),v.L,v.F,v.M, .int .i64 (g.words:Nat),v.C] 42)::(b8,cells [.bool false, .int .i64 0, .slice none 0 0] 55)::(b9,cells [.slice none 0 0, .int .i64 0, .slice none 0 0, .slice none 0 0, .slice none 0 0, .int .i64 0, .slice none 0 0] 42)::(D++F))) (fun s=>oOk boE Ds s.o) ?_ ?_
 ·skip
  refine zi ?_;refine K.dr ((b4,cells [.bool true, .int .i64 (kat:Nat),vd] 55)::D) [(0,1),(1,1),(2,1),(4,1),(5,1),(3,3),(6,3),(7,1),(8,2),(9,2)] ja ?_;refine yr5 ?_;refine KD.fork2 (x:=3) (y:=8) (o1:=[(6,3),(7,1),(8,2),(9,2)]) (o2:=[(3,2),(6,2),(7,0),(9,2)]) bu rfl rfl bu bu ?_ ?_
  ·(refine jR.e rfl (Eff.buildS jdJ rfl rfl rfl rfl rfl jdM) ?_; rintro _ _ ⟨b28, rfl, rfl⟩; refine ⟨ja, ?_⟩)
   refine KD.fork2 (x:=6) (y:=8) (o1:=[(7,1),(8,2),(9,2)]) (o2:=[(6,2),(7,0),(9,2)]) bu rfl rfl bu bu ?_ ?_
   ·(refine jR.e rfl (Eff.appLit (E:=boE) (ys:=Ds) rfl rfl rfl rfl rfl rfl rfl jK ba be rfl) ?_;rintro _ _ ⟨oa,oka,rfl,rfl⟩;refine⟨ja,?_⟩)
    refine yr2 ?_;intro b11;refine yr4 ?_;exact KE.meet ⟨b11,oa⟩ jg ja oka
   ·(refine jR.e rfl (Eff.alloc rfl) ?_;rintro _ _ ⟨b11,rfl,rfl⟩;refine⟨ja,?_⟩)
    refine KD.e rfl rfl (Eff.appLit (E:=boE) (ys:=Ds) rfl rfl rfl rfl rfl rfl rfl jK ba be rfl) ?_;rintro _ _ ⟨oa,oka,rfl,rfl⟩;refine⟨ja,?_⟩;refine yr4 ?_;exact KE.meet ⟨b11,oa⟩ jg ja oka
  ·(refine jR.e rfl (Eff.alloc rfl) ?_;rintro _ _ ⟨b11,rfl,rfl⟩;refine⟨ja,?_⟩)
   refine yr1 ?_;intro b28;refine yr1 ?_;refine KD.e rfl rfl (Eff.appLit (E:=boE) (ys:=Ds) rfl rfl rfl rfl rfl rfl rfl jK ba be rfl) ?_;rintro _ _ ⟨oa,oka,rfl,rfl⟩;refine⟨ja,?_⟩;refine yr4 ?_;exact KE.meet ⟨b11,oa⟩ jg ja oka
 ·rintro⟨b11,o⟩ ko;dsimp only at ko|-
  cases a with
  |false=>
   refine yr23 ?_;refine zb4 ?_;refine yr10 ?_;exact KE.fin (H':=oH boE 4 Ds o++(D++F)) jd rfl jc ja ⟨oV o Ds.length,vr,R,_,hB.part ja,rfl,Sli.own jt ko rfl,jJ _ _,rfl,rfl⟩
  |true=>
   by_cases h0:c=0
   ·subst h0;refine yr35 ?_;refine je (hwipe _) ja ?_;rintro _ _ ⟨vr',R',N,hM',hX,rfl,rfl⟩
    have ho':=hM'.m.o
    refine yr7 ?_;refine K.dr _ (od 0 [0,1,2,2,0]) (Part.take jx.head (Part.takeA jE.head (Part.takeA jE.head (Part.takeA jE.head (Part.take jx.head (Part.take jx.head (Part.take jx.head (Part.drop (Part.drop Part.all))))))))) ?_;refine yr10 ?_;exact KE.fin (H':=(oH boE 4 (Ds.set kat true) o++N)++(D++F)) jd rfl jc bz ⟨oV o Ds.length,vr',R',_,hM'.part bz,hX,Sli.own (H:=(oH boE 4 (Ds.set kat true) o++N)++D) (by rw[List.append_assoc];exact jt) (ko.set kat true) hsl.symm,jJ _ _,rfl,rfl⟩
   ·have hd0:(true&&decide (c=0))=false:=by rw[decide_eq_false h0];rfl
    refine yr23 ?_;refine zb4 ?_;refine yr10 ?_;exact KE.fin (H':=oH boE 4 Ds o++(D++F)) jd rfl jc ja ⟨oV o Ds.length,vr,R,_,hB.part ja,by rw[hd0];rfl,by rw[hd0];exact Sli.own jt ko rfl,jJ _ _,rfl,rfl⟩
end
structure ScS where
 k:MkM
structure ScB where
 b:Nat
section
variable {w0 : World} {F : jb} {k : MkM} {B : BoM} {T : TbM} {N : PiM} {W : MwP} {m : MaP}
theorem jkD {g:PlG} {x:List Int} {s:Nat} {i:Int} {y:jn} (hy:g.L[s]?=some y):refO g x (s:Nat) i=if (refP x g.slots y i).2=0/\0<=(refP x g.slots y i).1 then some (refP x g.slots y i).1 else none:=by
 unfold refO;rw [jY hy]
theorem mkscan_K {i:Nat} {h:J3} (hG:ju w0) (hp:MpR k B T N W) (ok:MkOk k B.p) (hR:MkR k B.p m) (hm:jw B.p.g k.g.ring.length W m) (hh:k.hs[i]?=some h) (his:h.is=true):
  Call Tryz.prog w0 266 [pt k.b, .pointer (some (adr (oV k.o k.hs.length) (i*Jn.sz)))] (jr k B.p++(planH B.p++(seenH B T N++F)))
   (fun r H'=>r= .bool true/\ ∃ m' k',scanM B.p.g k.g.ring.length W m i=some m'/\MkOk k' B.p/\MkTo k k'/\MkR k' B.p m'/\H'=jr k' B.p++(planH B.p++(seenH B T N++F))):=by
 have okp:=hp.bo.p
 have okb:=hp.bo
 have hsl:=okp.g.slots
 have eb:=hp.bb
 have ho:=ok.o
 have hil:=jl hh
 have hhs:=hR.hs
 have hmh:m.hs[i]?=some h:=by rw[<-hhs];exact hh
 obtain⟨s,hs,hsb,hf0,hfb⟩: ∃ s:Nat,h.slot=s/\s<B.p.g.slots/\0<=h.field/\(h.field=0\/h.field<refsN W.x (jv B.p.g h.slot)):=by
  rcases hm.h i h hmh with⟨a1,a2,a3,a4,a5⟩|e
  ·exact⟨h.slot.toNat,by omega,by omega,a4,a5⟩
  ·rw[e] at his;cases his
 obtain⟨y,hy⟩:=Je (g:=B.p.g) hsb
 have hya:=jY hy
 have hfit:=okp.g.fits hy
 have href:=jkD (x:=W.x) (i:=h.field) hy
 have hrn:refsN W.x y=match headP W.x y with|some h=>h.r|none=>0:=rfl
 have hhead:=fun A=>jdg (w0:=w0) (F:=A) hG okb hy
 have hrf:=fun A=>bRef_K (w0:=w0) (F:=A) (i:=h.field) hG okb hy
 simp only[<-eb] at hhead hrf
 have hsc:scanM B.p.g k.g.ring.length W m i=if h.field+1<refsN W.x y then some {Jf B.p.g k.g.ring.length m (refO B.p.g W.x (s:Nat) h.field) with hs:=m.hs.set i ⟨(s:Nat),h.field+1,true⟩}
  else some {Jf B.p.g k.g.ring.length m (refO B.p.g W.x (s:Nat) h.field) with hs:=m.hs.set i jO,C:=(Jf B.p.g k.g.ring.length m (refO B.p.g W.x (s:Nat) h.field)).C.set s 2}:=by
  unfold scanM;rw[jaG hmh,his,if_pos rfl,hs,hya]
  rfl
 obtain⟨o,hod⟩: ∃ o,o=refO B.p.g W.x (s:Nat) h.field:=⟨_,rfl⟩
 have hoin: ∀ q:Int,o=some q->0<=q/\q<(B.p.g.slots:Nat):=fun q hq=>by
  have:=jcG (hod.symm.trans hq) hp.w.w
  exact⟨this.1,this.2.1⟩
 rw[<-hod] at hsc href;rw[hs,hya] at hfb
 obtain⟨hsl',hfi,hi'⟩:=h
 dsimp only at hs his hf0 hfb href hsc hrf hod;subst hs his
 obtain⟨rt,hrt⟩: ∃ rt,refP W.x B.p.g.slots y hfi=rt:=⟨_,rfl⟩
 simp only[hrt] at hrf href
 obtain⟨rn,hrnd⟩: ∃ rn,refsN W.x y=rn:=⟨_,rfl⟩
 rw[hrnd] at hrn hsc
 obtain⟨hc,hr,hw,he,hhv,hcond⟩: ∃ hc hr hw he,headV (headP W.x y)= .tuple [.agg [.int .i64 hc, .int .i64 hr, .int .i64 hw].toArray, .int .i64 he].toArray/\((he=0/\hr=rn)\/(he≠0/\rn=0)):=by
  unfold headV hdV
  cases hq:headP W.x y with
  |none=>rw [hq] at hrn;exact⟨0,0,0,5,rfl, .inr ⟨by decide,hrn⟩⟩
  |some q=>rw [hq] at hrn;exact⟨q.c,q.r,q.w,0,rfl, .inl ⟨rfl,hrn.symm⟩⟩
 simp only[hhv] at hhead;refine en2 76 Tryz.func266 ?_;simp only[js,seenH_app];refine yr5 ?_;refine K.cutT (σ:=ScB) [(0,_),(1,_)] jg (fun s kp_=>(5,pt s.b)::(6, .int .i64 he)::kp_) (fun s=>jr k B.p++(planH B.p++(seenH B T N++((s.b,cells [.int .i64 hc, .int .i64 hr, .int .i64 hw] 225)::F)))) (fun s=>True) ?_ ?_
 ·skip
  refine zi ?_;refine K.dr ((k.b,cells [pt k.bb,pt B.p.b,pt k.tb,pt k.nb,pt k.c.b,pt k.g.b,oV k.o k.hs.length, .int .i64 (k.root:Nat), .bool k.act, .int .i64 (k.steps:Nat)] 283)::(oH Jn 291 k.hs k.o++ [])) (od 0 [1,1,1,1,1,1,1,1,3,1,1,1,2,2,0]) ja ?_;refine yr8 ?_;refine KD.fork2 (x:=8) (y:=12) (o1:=[(9,1),(10,1),(11,1),(12,2),(13,2),(14,0)]) (o2:=[(8,2),(9,0),(10,0),(11,1),(13,2),(14,0)]) bu rfl rfl bu bu ?_ ?_
  ·refine zk fun T hT=>?_;refine(CallV.part (CallV.fn (hhead _)) ja).mono ?_;rintro _ _ ⟨rfl,rfl⟩;refine zf ?_;clear hT T;refine yr4 ?_;intro b5;refine yr5 ?_;exact zb5
  ·(refine jR.e rfl (Eff.alloc rfl) ?_;rintro _ _ ⟨b5,rfl,rfl⟩;refine⟨ja,?_⟩)
   refine yr1 ?_;refine ji (hhead _) ja ⟨ja,?_⟩;refine yr7 ?_;exact zb5
 ·rintro⟨b5⟩ _;dsimp only;simp only[js,seenH_app];refine yr2 ?_;refine K.dr [] (od 0 [0,0,0,0,0,0,0,0,0,0,0,0,2,0,0,0,0,0]) Part.nil ?_;refine yr13 ?_;refine ji (hrf _) bj ⟨ja,?_⟩
  obtain⟨to,f⟩:=rt
  dsimp only at href|-;refine yr7 ?_;refine K.cutE (σ:=ScS) [(0,_),(1,_),(5,_),(6,_)] jg (fun s kp_=>kp_) (fun s=>jr s.k B.p++(planH B.p++(seenH B T N++((b5,cells [.int .i64 hc, .int .i64 hr, .int .i64 hw] 225)::F)))) (fun s=>MkOk s.k B.p/\MkTo k s.k/\MkR s.k B.p (Jf B.p.g k.g.ring.length m o)) ?_ ?_
  ·by_cases h2:f=0
   ·by_cases h1:0<=to
    ·rw[if_pos ⟨h2,h1⟩] at href
     have hin:=hoin to href
     obtain⟨q,rfl⟩: ∃ q:Nat,to=q:=⟨to.toNat,by omega⟩
     have hsh:=fun A=>jgg (w0:=w0) (F:=A) ok hR (s:=q) bc
     have hge:((q:Nat):Int)>=0:=by omega
     rw[href];refine yr15 ?_;refine je (hsh _) bj ?_;rintro _ _ ⟨rfl,k',kok,kto,kR,rfl⟩;refine yr1 ?_;exact KE.meet ⟨k'⟩ jg bj ⟨kok,kto,kR⟩
    ·rw[if_neg (by rintro⟨_,h⟩;exact h1 h)] at href
     have hge: ¬to>=0:=h1
     rw[href];refine yr12 ?_;exact zb6
   ·rw[if_neg (by rintro⟨h,_⟩;exact h2 h)] at href;rw[href];refine yr12 ?_;exact zb6
  ·rintro⟨k1⟩ ⟨kok,kto,kR⟩;dsimp only at kok kto kR|-
   obtain⟨h1s,h1r,h1a,h1t⟩:=jdu (g:=B.p.g) (long:=k.g.ring.length) (m:=m) o
   have hh1:k1.hs[i]?=some ⟨(s:Nat),hfi,true⟩:=by rw[kR.hs,h1s];exact hmh
   have ho1:=kok.o
   have okc:=kok.c
   have hil1:=jl hh1
   have hslc:s<k1.c.l.length:=by rw[kok.n];exact hsb
   have hrs:=jga okp.g hsb W.x
   have hzb:=jff okp.g hsb
   rw[hya,hrnd] at hrs
   have hfb2:hfi<=64:=by rcases hfb with e|e<;>omega
   have ho2:oOk Jn (k1.hs.set i ⟨(s:Nat),hfi+1,true⟩) k1.o:=ho1.set _ _
   have he2:(k1.hs.set i (⟨(s:Nat),hfi+1,true⟩:J3))[i]?=some ⟨(s:Nat),hfi+1,true⟩:=List.getElem?_set_self hil1
   rw[<-kto.o,<-kto.n,<-kto.b];simp only[js,seenH_app]
   skip
   refine zg ?_;refine yr7 ?_;refine KL.eN (Eff.stSl (j:=1) (x1:=(⟨(s:Nat),hfi+1,true⟩:J3)) rfl rfl rfl rfl jt ho1 hh1 rfl rfl) ?_;rintro _ _ rfl;refine yr1 ?_
   rcases hcond with⟨hc1,hc2⟩|⟨hc1,hc2⟩
   ·by_cases hlt:hfi+1<rn
    ·have hge: ¬hfi+1>=hr:=by omega
     rw[if_pos hlt] at hsc;refine yr2 ?_;refine zE ?_;refine yr22 ?_;exact KE.fin (H':=jr {k1 with hs:=k1.hs.set i ⟨(s:Nat),hfi+1,true⟩} B.p++(planH B.p++(seenH B T N++F))) jd rfl jc bZ
      ⟨rfl,_,{k1 with hs:=k1.hs.set i ⟨(s:Nat),hfi+1,true⟩},hsc,⟨kok.c,kok.g,kok.n,ho2,by simpa using kok.hs⟩,⟨⟨kto.b,kto.bb,kto.tb,kto.nb,by show(k1.hs.set i _).length=_;rw [List.length_set];exact kto.n,kto.l⟩,kto.f,kto.cb,kto.gb,kto.o⟩,
       ⟨kR.C,kR.G,by show k1.hs.set i _=_;rw [kR.hs,h1s],kR.root,kR.act,kR.steps⟩,by simp only[js,seenH_app]⟩
    ·have hge:hfi+1>=hr:=by omega
     rw[if_neg hlt] at hsc;refine yr2 ?_;refine zE ?_;refine yr15 ?_;refine zaE ?_;refine yr9 ?_;refine je (jf2 okc hslc) ja ?_;rintro _ _ ⟨rfl,c',kc,cb,cf,cc,rfl⟩;refine yr3 ?_;refine zg ?_;refine yr3 ?_;refine KL.eN (Eff.stSlA (x1:=jO) rfl rfl rfl rfl jt ho2 he2) ?_;rintro _ _ rfl;refine yr1 ?_;rw[List.set_set];refine yr7 ?_;rw[<-cb]
     have hcn:c'.l.length=B.p.g.slots:=by have:=congrArg List.length cc;rw [jaY,List.length_set,jaY,kok.n] at this;exact this
     exact KE.fin (H':=jr {k1 with c:=c',hs:=k1.hs.set i jO} B.p++(planH B.p++(seenH B T N++F))) jd rfl jc bZ
      ⟨rfl,_,{k1 with c:=c',hs:=k1.hs.set i jO},hsc,⟨kc,kok.g,hcn,kok.o.set _ _,by simpa using kok.hs⟩,⟨⟨kto.b,kto.bb,kto.tb,kto.nb,by show(k1.hs.set i jO).length=_;rw [List.length_set];exact kto.n,kto.l⟩,cf.trans kto.f,cb.trans kto.cb,kto.gb,kto.o⟩,
       ⟨by show tiC c'=_;rw [cc,kR.C],kR.G,by show k1.hs.set i jO=_;rw [kR.hs,h1s],kR.root,kR.act,kR.steps⟩,by simp only[js,seenH_app]⟩
   ·have hlt: ¬hfi+1<rn:=by omega
    rw[if_neg hlt] at hsc;refine yr2 ?_;refine zE ?_;refine yr15 ?_;refine zaE ?_;refine yr9 ?_;refine je (jf2 okc hslc) ja ?_;rintro _ _ ⟨rfl,c',kc,cb,cf,cc,rfl⟩;refine yr3 ?_;refine zg ?_;refine yr3 ?_;refine KL.eN (Eff.stSlA (x1:=jO) rfl rfl rfl rfl jt ho2 he2) ?_;rintro _ _ rfl;refine yr1 ?_;rw[List.set_set];refine yr7 ?_;rw[<-cb]
    have hcn:c'.l.length=B.p.g.slots:=by have:=congrArg List.length cc;rw [jaY,List.length_set,jaY,kok.n] at this;exact this
    exact KE.fin (H':=jr {k1 with c:=c',hs:=k1.hs.set i jO} B.p++(planH B.p++(seenH B T N++F))) jd rfl jc bZ
     ⟨rfl,_,{k1 with c:=c',hs:=k1.hs.set i jO},hsc,⟨kc,kok.g,hcn,kok.o.set _ _,by simpa using kok.hs⟩,⟨⟨kto.b,kto.bb,kto.tb,kto.nb,by show(k1.hs.set i jO).length=_;rw [List.length_set];exact kto.n,kto.l⟩,cf.trans kto.f,cb.trans kto.cb,kto.gb,kto.o⟩,
      ⟨by show tiC c'=_;rw [cc,kR.C],kR.G,by show k1.hs.set i jO=_;rw [kR.hs,h1s],kR.root,kR.act,kR.steps⟩,by simp only[js,seenH_app]⟩
end
structure FuI where
 i:Nat
theorem jgK {m:MaP} {i:Nat} (hi:i<m.hs.length) (h:(JU m i).is=true) (hno: ∀ j,j<i->(JU m j).is=false):fullM m=some i:=by
 unfold fullM;rw[List.find?_range_eq_some];exact⟨h,List.mem_range.2 hi,fun j hj=>by rw[hno j hj];decide⟩
theorem jgJ {m:MaP} (hno: ∀ j,j<m.hs.length->(JU m j).is=false):fullM m=none:=by
 unfold fullM;rw[List.find?_eq_none];intro j hj;rw[hno j (List.mem_range.1 hj)];decide
section
variable {w0 : World} {F : jb} {k : MkM} {B : BoM} {T : TbM} {N : PiM} {W : MwP} {m : MaP}
theorem jjB {H:jb} {b:Nat}:
  Call Tryz.prog w0 174 [pt b] H (fun u H'=> ∃ bl,u= .func (.func 269) #[] [pt bl].toArray/\H'=(bl,cells [pt b] 150)::H):=by
 refine en1 4 Tryz.func174 ?_;refine yr3 ?_;intro b1;refine yr10 ?_;exact KE.fin jd rfl jc ja ⟨b1,rfl,rfl⟩
theorem jiB {A0:jb} {bl:Nat} {yv:Value} (ok:MkOk k B.p) (hhs:k.hs=m.hs) (E:jb->Prop)
  (hy: ∀ i,fullM m=some i->CallV Tryz.prog w0 yv [.int .i64 (i:Nat)] (A0++((bl,cells [pt k.b] 150)::(jr k B.p++F))) (fun u H'=>u= .bool false/\E H')):
  Call Tryz.prog w0 269 [yv,pt bl] (A0++((bl,cells [pt k.b] 150)::(jr k B.p++F)))
   (fun _ H'=>(fullM m=none/\H'=A0++((bl,cells [pt k.b] 150)::(jr k B.p++F)))\/E H'):=by
 have ho:=ok.o
 have hh9:=ok.hs
 have hml:m.hs.length=k.hs.length:=by rw[hhs]
 refine en2 24 Tryz.func269 ?_;simp only[js];refine yr11 ?_;refine K.loopT (σ:=FuI) [(0,_),(8,_),(9,_)] (fun s kp_=>(10, .int .i64 (s.i:Nat))::kp_) (fun s=>A0++((bl,cells [pt k.b] 150)::(jr k B.p++F))) (fun s=>s.i<=k.hs.length/\ ∀ j,j<s.i->(JU m j).is=false) (fun s=>k.hs.length-s.i) (⟨0⟩) jg bS (⟨Nat.zero_le _,fun j h=>absurd h (Nat.not_lt_zero _)⟩) ?_;rintro⟨i⟩ ⟨hi,hno⟩;dsimp only at hi hno|-;simp only[js]
 by_cases hlt:i<k.hs.length
 ·obtain⟨h,hh⟩:=jq hlt
  have hha:JU m i=h:=jaG (by rw[<-hhs];exact hh)
  obtain⟨hsl,hfi,his⟩:=h
  cases his with
  |true=>
   have hf:=jgK bc (by rw[hha]) hno
   (iterate 30 first|refine yS ?_|intro _)
   refine(CallV.part (hy i hf) bS).mono ?_;rintro _ H' ⟨rfl,hE⟩;refine yr10 ?_;exact KE.fin jd rfl jc ja (.inr hE)
  |false=>
   (iterate 42 first|refine yS ?_|intro _)
   exact KE.again ⟨i+1⟩ jg bS ⟨hlt,fun j (hj:j<i+1)=>by
    rcases Nat.lt_or_ge j i with h|h
    ·exact hno j h
    ·have:j=i:=by omega
     subst this
     rw[hha]⟩ (by show k.hs.length-(i+1)<k.hs.length-i;omega)
 ·refine yr11 ?_;exact KE.finN jd rfl jc bS (.inl ⟨jgJ fun j hj=>hno j bc,rfl⟩)
end
section
variable {w0 : World} {F : jb} {k : MkM} {B : BoM} {T : TbM} {N : PiM} {W : MwP} {m : MaP}
theorem mkDone_K (hG:ju w0) (hp:MpR k B T N W) (ok:MkOk k B.p) (hR:MkR k B.p m) (hm:jw B.p.g k.g.ring.length W m):
  Cs w0 169 [pt k.b] (jr k B.p++(planH B.p++(seenH B T N++F))) (.bool (JB B.p.g W m)):=by
 have okg:=ok.g
 have hac:=fun A=>jcZ (w0:=w0) (F:=A) (k:=k) (p:=B.p)
 have hact:=hR.act
 have hroots:=fun A=>jiA (w0:=w0) (F:=A) hp ok
 have hem:=fun A=>grEmpty_K (w0:=w0) (F:=A) hG okg hR.G hm.G
 have hrt:=hm.root
 have hr:=hR.root
 rw[<-hr] at hrt
 have hd:JB B.p.g W m=(k.act&&((fullM m).isNone&&(decide (((k.root:Nat):Int)=((W.T.length+B.p.g.slots:Nat):Int))&&J8 m.G))):=by
  unfold JB;rw[hact,<-hr]
  congr 3
  exact decide_eq_decide.2 bc
 cases ha:k.act with
 |false=>
  have hdf:JB B.p.g W m=false:=by rw[hd,ha];rfl
  rw[hdf];simp only[ha] at hac;refine en1 23 Tryz.func169 ?_;refine yr3 ?_;intro b2;refine yr7 ?_;refine zA ?_;refine yr11 ?_;exact zb1
 |true=>
  simp only[ha] at hac;refine en1 23 Tryz.func169 ?_;refine yr3 ?_;intro b2;refine yr7 ?_;refine zA ?_;refine yr11 ?_;refine Jx jjB ?_;rintro _ _ ⟨bl,rfl,rfl⟩;refine yr3 ?_;refine K.rangeFunc (lb:=[pt bl]) rfl
   (fun D G=>fullM m=none/\G=(D, .deferred (some []))::(b2,cells [.bool false] 4)::(jr k B.p++(planH B.p++(seenH B T N++F))))
   (fun D c G=>c= .ret/\ ∃ i,fullM m=some i/\G=(D, .deferred (some []))::(b2,cells [.bool false] 4)::(jr k B.p++(planH B.p++(seenH B T N++F)))) ?_ ?_ ?_
  ·intro l D rc hyl
   refine(Call.part (jiB (F:=planH B.p++(seenH B T N++F)) (bl:=bl) ok hR.hs
    (fun H'=> ∃ i,fullM m=some i/\H'=(l, .loop (rc .done (some .ret)))::((D, .deferred (some []))::(b2,cells [.bool false] 4)::(bl,cells [pt k.b] 150)::(jr k B.p++(planH B.p++(seenH B T N++F)))))
    (A0:=(l, .loop (rc .ready none))::(D, .deferred (some []))::(b2,cells [.bool false] 4)::[]) ?_) bM).mono ?_
   ·intro i hf;simp only[List.cons_append,List.nil_append];refine za0 ?_;refine yr1 ?_;refine KE.begin jK ?_;refine yr8 ?_;refine KE.part ((l, .loop (rc .busy none))::((D, .deferred (some []))::(b2,cells [.bool false] 4)::(bl,cells [pt k.b] 150)::(jr k B.p++(planH B.p++(seenH B T N++F))))) ja ?_;exact KE.roundR jx.head ⟨rfl,i,hf,rfl⟩
   ·rintro _ _ (⟨hno,rfl⟩|⟨i,hf,rfl⟩)
    ·refine .inl ⟨_,?_,hno,rfl⟩;exact zaw
    ·exact .inr ⟨.ret,_,ja,rfl,i,hf,rfl⟩
  ·rintro D G ⟨hf,rfl⟩
   by_cases hrr:((k.root:Nat):Int)=((W.T.length+B.p.g.slots:Nat):Int)
   ·have hdf:JB B.p.g W m=J8 m.G:=by rw[hd,ha,hf,decide_eq_true hrr];rfl
    rw[hdf];simp only[js,seenH_app];refine yr3 ?_;refine zb7 ?_;refine yr6 ?_;refine zaZ ?_;rintro _ _ ⟨rfl,rfl⟩;simp only[js,seenH_app];refine yr7 ?_;refine zo fun T hT=>?_;refine(CallV.part (CallV.fn (hem _)) bj).mono ?_;rintro _ _ ⟨rfl,rfl⟩;refine zf ?_;clear hT T;refine yr6 ?_;exact zb8
   ·have hdf:JB B.p.g W m=false:=by rw[hd,ha,decide_eq_false hrr];simp
    rw[hdf];simp only[js,seenH_app];refine yr3 ?_;refine zb7 ?_;refine yr6 ?_;refine zaZ ?_;rintro _ _ ⟨rfl,rfl⟩;simp only[js,seenH_app];refine yr14 ?_;exact zb8
  ·rintro D c G ⟨rfl,i,hf,rfl⟩
   have hdf:JB B.p.g W m=false:=by rw[hd,hf];simp
   rw[hdf];refine yr3 ?_;exact zd
end
section
variable {w0 : World} {F : jb} {t : TbM}
theorem tbcnt_K {k:Nat} (ok:TbOk t) (hk:k<4):Cs w0 354 [pt t.b, .int .i64 (k:Nat)] (jF t++F) (.int .i64 (cntP (k:Nat) t.l:Nat)):=by
 match k,hk with
 |0,_=>
  refine en2 13 Tryz.func354 ?_;refine yr10 ?_;refine zL ?_;simp only[Jm];refine yr17 ?_;exact zt
 |1,_=>
  refine en2 13 Tryz.func354 ?_;refine yr10 ?_;refine zL ?_;simp only[Jm];refine yr17 ?_;exact zt
 |2,_=>
  refine en2 13 Tryz.func354 ?_;refine yr10 ?_;refine zL ?_;simp only[Jm];refine yr17 ?_;exact zt
 |3,_=>
  refine en2 13 Tryz.func354 ?_;refine yr10 ?_;refine zL ?_;simp only[Jm];refine yr17 ?_;exact zt
theorem tbFree_K (ok:TbOk t):Cs w0 287 [pt t.b] (jF t++F) (.int .i64 (cntP 0 t.l:Nat)):=by
 refine en1 5 Tryz.func287 ?_;refine yr9 ?_;refine ji (tbcnt_K (k:=0) ok bn) ja ?_;refine yr4 ?_;exact zt
theorem jls {i n:Nat} (ok:TbOk t) (hn:J2 t.l (i:Nat) (n:Nat)=none):Call Tryz.prog w0 219 [pt t.b, .int .i64 (i:Nat), .int .u32 (n:Nat)] (jF t++F)
  (fun r H'=>r= .pointer none/\H'=jF t++F):=by
 have ho:=ok.o
 by_cases hlt:i<t.l.length
 ·obtain⟨e,he⟩:=jq hlt
  have hge: ¬((i:Nat):Int)>=(t.l.length:Nat):=by omega
  unfold J2 at hn;rw[if_pos bc,Int.toNat_natCast,he] at hn;dsimp only at hn
  by_cases hst:e.st≠1
  ·refine en3 47 Tryz.func219 ?_;simp only[Jm];refine yr52 ?_;exact zt
  ·have hgn:e.gen≠((n:Nat):Int):=fun h=>by rw[if_pos ⟨by omega,h⟩] at hn;cases hn
   refine en3 47 Tryz.func219 ?_;simp only[Jm];refine yr52 ?_;exact zt
 ·have hge:((i:Nat):Int)>=(t.l.length:Nat):=by omega
  refine en3 47 Tryz.func219 ?_;simp only[Jm];refine yr52 ?_;exact zt
theorem jme {i n:Nat} (ok:TbOk t) (hn:J2 t.l (i:Nat) (n:Nat)=none):Call Tryz.prog w0 123 [pt t.b, .int .i64 (i:Nat), .int .u32 (n:Nat)] (jF t++F)
  (fun r H'=>r= .tuple [.int .i64 0, .int .i64 130].toArray/\H'=jF t++F):=by
 refine en3 21 Tryz.func123 ?_;refine yr11 ?_;refine zL ?_;refine yr11 ?_;refine ji (jls ok hn) ja ?_;refine yr19 ?_;exact zt
theorem jmf {i n:Nat} (ok:TbOk t):Call Tryz.prog w0 123 [pt t.b, .int .i64 (i:Nat), .int .u32 (n:Nat)] (jF t++F)
  (fun r H'=>r= .tuple [.int .i64 (((J2 t.l (i:Nat) (n:Nat)).map (·.slot)).getD 0), .int .i64 (if (J2 t.l (i:Nat) (n:Nat)).isSome=true then 0 else 130)].toArray/\H'=jF t++F):=by
 cases hn:J2 t.l (i:Nat) (n:Nat) with
 |none=>exact jme ok hn
 |some e=>
  unfold J2 at hn;rw[if_pos bc,Int.toNat_natCast] at hn
  cases he:t.l[i]? with
  |none=>rw [he] at hn;cases hn
  |some q=>
   rw[he] at hn;dsimp only at hn
   split at hn
   ·rename_i hc
    cases hn
    have:=ji4 (w0:=w0) (F:=F) ok he hc.1
    rw[hc.2] at this;exact this
   ·cases hn
end
section
variable {w0 : World} {F : jb} {B : BoM} {x : List Int} {s : Nat} {y : jn}
theorem bWord_K {i:Int} (hG:ju w0) (ok:jaf B x) (hy:B.p.g.L[s]?=some y):
  Call Tryz.prog w0 203 [pt B.b, .int .i64 (s:Nat), .int .i64 i] (jT B++(jy B.m++(planH B.p++F)))
   (fun r H'=>r= .tuple [.int .u64 (wordP x y i).1, .int .i64 (wordP x y i).2].toArray/\H'=jT B++(jy B.m++(planH B.p++F))):=by
 have hw:wordP x y i=(if fldP x y false i=0 then wAt x (fAt y i) else 0,fldP x y false i):=by
  unfold wordP
  split
  ·rename_i h;rw [h]
  ·rfl
 rw[hw];refine en3 14 Tryz.func203 ?_;refine yr12 ?_;refine ji (bload_K hG ok hy) ja ?_;refine yr7 ?_;exact zd
structure BwS where
 k:Nat
 o:Own
def wdsL (x:List Int) (y:jn) (f:Int) (k:Nat):List Int:=(List.range k).map fun i=>(wordP x y (f+((i:Nat):Int))).1
theorem jiW {f:Int} {k:Nat}:(wdsL x y f k).length=k:=by simp[wdsL]
theorem jmc {f:Int} {k:Nat}:wdsL x y f k++ [(wordP x y (f+((k:Nat):Int))).1]=wdsL x y f (k+1):=by simp[wdsL,List.range_succ]
theorem ball_K {f0:Int} {n:Nat} (hG:ju w0) (ok:jaf B x) (hy:B.p.g.L[s]?=some y) (hn:n<=64) (hf:0<=f0/\f0<=64) (hw: ∀ i:Nat,i<n->(wordP x y (f0+(i:Nat))).2=0):
  Call Tryz.prog w0 309 [.int .i64 (s:Nat), .int .i64 f0, .int .i64 (n:Nat), .func (.func 203) #[pt B.b] #[]] (jT B++(jy B.m++(planH B.p++F)))
   (fun r H'=> ∃ o,oOk uE (wdsL x y f0 n) o/\r= .tuple [oV o (wdsL x y f0 n).length, .int .i64 0].toArray/\H'=oH uE 67 (wdsL x y f0 n) o++(jT B++(jy B.m++(planH B.p++F)))):=by
 have hword:=fun A (i:Nat)=>bWord_K (w0:=w0) (F:=A) (i:=f0+(i:Nat)) hG ok hy
 refine en4 36 Tryz.func309 ?_;refine yr19 ?_;refine K.loopT (σ:=BwS) [(0,_),(1,_),(3,_),(14,_)] (fun s kp_=>(15, .int .i64 (s.k:Nat))::(10,oV s.o (wdsL x y f0 s.k).length)::kp_) (fun s=>oH uE 67 (wdsL x y f0 s.k) s.o++(jT B++(jy B.m++(planH B.p++F)))) (fun s=>s.k<=n/\oOk uE (wdsL x y f0 s.k) s.o) (fun s=>n-s.k) (⟨0,none⟩) jg ja (⟨Nat.zero_le _,rfl⟩) ?_;rintro⟨k,o⟩ ⟨hk,ko⟩;dsimp only at hk ko|-
 have hwl:=jiW (x:=x) (y:=y) (f:=f0) (k:=k)
 by_cases hlt:k<n
 ·have hlt':((k:Nat):Int)<(n:Nat):=by omega
  have hw1:=fun A=>hword A k
  simp only[hw k hlt] at hw1
  obtain⟨z,hz⟩: ∃ z,(wordP x y (f0+((k:Nat):Int))).1=z:=⟨_,rfl⟩
  have hnx:=jmc (x:=x) (y:=y) (f:=f0) (k:=k)
  rw[hz] at hnx;simp only[hz] at hw1
  have hbd:(wdsL x y f0 (k+1)).length<=4294967296:=by rw[jiW];omega
  refine yr25 ?_;refine(CallV.part (CallV.bound (first:=[pt B.b]) (hw1 _)) ja).mono ?_;rintro _ _ ⟨rfl,rfl⟩;refine yr17 ?_;refine zg ?_
  (iterate 4 first|refine yS ?_|intro _)
  refine KL.e rfl (Eff.appZ (E:=uE) (xs:=wdsL x y f0 k) (o:=o) (ys:=[z]) (zs:=wdsL x y f0 (k+1)) rfl rfl rfl rfl rfl rfl jt bh ba (hnx) be rfl) ?_;rintro _ _ ⟨o',ok',rfl,rfl⟩;refine yr8 ?_;exact KE.again ⟨k+1,o'⟩ jg ja ⟨hlt,ok'⟩ (by show n-(k+1)<n-k;omega)
 ·have hkn:k=n:=by omega
  subst hkn
  have hlt': ¬((k:Nat):Int)<(k:Nat):=by omega
  refine yr20 ?_;exact zbs
theorem bWords_K (hG:ju w0) (ok:jaf B x) (hy:B.p.g.L[s]?=some y):
  Call Tryz.prog w0 213 [pt B.b, .int .i64 (s:Nat)] (jT B++(jy B.m++(planH B.p++F)))
   (fun r H'=> ∃ (o:Own) (e:Int),oOk uE (jai x y) o/\r= .tuple [oV o (jai x y).length, .int .i64 e].toArray/\H'=oH uE 67 (jai x y) o++(jT B++(jy B.m++(planH B.p++F)))):=by
 have hhead:=fun A=>jdg (w0:=w0) (F:=A) hG ok hy
 unfold headV at hhead;unfold jai
 cases hh:headP x y with
 |none=>
  simp only[hh] at hhead;unfold hdV at hhead;dsimp only at hhead|-;refine en2 27 Tryz.func213 ?_;refine yr11 ?_;refine zJ ?_
  (iterate 26 first|refine yS ?_|intro _)
  exact KE.fin jd rfl jc ja ⟨none,5,rfl,rfl,rfl⟩
 |some h=>
  have hm:=(jbm (jb1 hh).2).1
  have hsz:=(jbm (jb1 hh).2).2.2
  simp only[hh] at hhead
  obtain⟨c,r,w⟩:=h
  dsimp only at hsz|-;simp only[Jb,decide_eq_true_eq] at hm;unfold hdV at hhead;dsimp only at hhead
  obtain⟨n,hrn⟩: ∃ n:Nat,w=n:=⟨w.toNat,by omega⟩
  subst hrn;rw[Int.toNat_natCast]
  have hok: ∀ i:Nat,i<n->(wordP x y (r+(i:Nat))).2=0:=fun i hi=>by
   have hf:fldP x y false (r+(i:Nat))=0:=by
    unfold fldP;rw[hh];dsimp only;rw[if_pos ⟨by omega,by omega,decide_eq_false bc⟩]
   unfold wordP;rw[if_pos hf]
  have hall:=fun A=>ball_K (w0:=w0) (F:=A) (f0:=r) (n:=n) hG ok hy bc ⟨by omega,by omega⟩ hok
  unfold wdsL at hall;refine en2 27 Tryz.func213 ?_;refine yr11 ?_;refine zJ ?_
  (iterate 29 first|refine yS ?_|intro _)
  refine je (hall _) ja ?_;rintro _ _ ⟨o,ko,rfl,rfl⟩;refine yr7 ?_;exact KE.fin jd rfl jc ja ⟨o,0,ko,rfl,rfl⟩
