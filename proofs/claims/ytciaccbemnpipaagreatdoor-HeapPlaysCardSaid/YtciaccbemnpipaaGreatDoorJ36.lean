/-The walker and contracts, part 36.-/
import Derived.Test.YtciaccbemnpipaaGreatDoorJ30
import Derived.Test.YtciaccbemnpipaaGreatDoorJ33
import Derived.Test.YtciaccbemnpipaaGreatDoorJ35
set_option linter.all false
namespace Go.Proofs.YtciaccbemnpipaaGreatDoor.Sw
set_option maxHeartbeats 8000000
open Go.Proofs.YtciaccbemnpipaaGreatDoor renaming lo -> qL, hi -> qH
open Go.RowKit
set_option maxRecDepth 10000
theorem jf1: ∀ {l:List jn} {A A':List Bool},(∀ t:Nat,A'[t]?=some true->A[t]?=some true)->usedL l A'<=usedL l A
 | [],A,A',_=>by simp[usedL]
 |p::l,A,[],_=>by simp[usedL]
 |p::l,[],b::A',h=>by
  have h0:=h 0
  have ih:=jf1 (l:=l) (A:=[]) (A':=A') fun t ht=>by have:=h (t+1) (by simpa using ht);simp at this
  have e:usedL l []=0:=by cases l<;>rfl
  cases b with
  |true=>have:=h0 rfl;simp at this
  |false=>simp only[usedL] at ih|-;rw [e] at ih;simpa using ih
 |p::l,a::A,b::A',h=>by
  have h0:=h 0
  have ih:=jf1 (l:=l) (A:=A) (A':=A') fun t ht=>by have:=h (t+1) (by simpa using ht);simpa using this
  simp only[usedL]
  cases b with
  |true=>
   have:a=true:=by simpa using h0 rfl
   subst this
   omega
  |false=>simp only[Bool.false_eq_true,if_false];omega
section
variable {C : HpC} {wr : Bool} {h h' : HpP} {s s' : CyP} {n : Nat}
def UsI (C:HpC) (h:HpP):Prop:=usedL C.g.L h.s.A<=C.g.q
theorem UsI.mv (hC:j6 C) (hI:HeI C h) (m:HpMv C wr h h') (hu:UsI C h):UsI C h':=by
 have ok:=hC.g
 unfold UsI at hu|-
 cases m with
 |free _ _=>exact hu
 |help h1=>rw [show _=h.s.A from(jeO hI.ok ok h1).1];exact hu
 |step h1=>rw [show _=h.s.A from step_A ok hI.ok h1];exact hu
 |begin _=>exact hu
 |publish h3=>
  refine Nat.le_trans (jf1 fun t ht=>?_) hu
  have e:(jah h.s.A h.s.D).2[t]?=some true:=ht
  unfold jah at e
  split at e
  ·rename_i hl
   split at e
   ·rw[jd4 t hl.symm] at e
    cases ha:h.s.A[t]? with
    |none=>rw [ha] at e;cases e
    |some a=>
     rw[ha] at e
     have e2:=Option.some.inj e
     simp only[Bool.and_eq_true] at e2;rw[e2.1]
   ·exact e
  ·exact e
 |acts h2 _=>rw [show _=h.s.A from does_A h2];exact hu
 |word _ _ _=>exact hu
 | @read _ t _ _ _ _ _=>
  show usedL C.g.L (shdC C.g C.long h.s (t:Nat)).A<=C.g.q
  rw[show(shdC C.g C.long h.s (t:Nat)).A=h.s.A by unfold shdC;split<;>rfl];exact hu
 |make _ _ hu' _=>exact hu'
theorem UsI.mvs (hC:j6 C) (hI:HeI C h) (m:JC C wr h h') (hw:UsI C h):UsI C h':=
 (m.ind (I:=fun q=>HeI C q/\UsI C q) (fun _ _ m i=>⟨i.1.mv hC m,i.2.mv hC i.1 m⟩) ⟨hI,hw⟩).2
end
structure WsS where
 k:Nat
 o:Own
def jba (x:List Int) (y:jn) (r:Int) (k:Nat):List Int:=(List.range k).map fun i=>(wordP x y (r+((i:Nat):Int))).1
theorem jk0 (x:List Int) (y:jn) (r:Int) (k:Nat):jba x y r k++ [(wordP x y (r+((k:Nat):Int))).1]=jba x y r (k+1):=by
 unfold jba;rw [List.range_succ,List.map_append];rfl
theorem jhR (x:List Int) (y:jn) (r:Int) (k:Nat):(jba x y r k).length=k:=by unfold jba;rw [List.length_map,List.length_range]
section
variable {w0 : World} {D F : jb} {v : PlV} {vr : Value} {g : PlG} {R : List RwD} {t s : Nat} {x : List Int} {y : jn}
theorem jmE (hB:BoD w0 D v vr g R) (hf:BoF g R t x) (hy:g.L[s]?=some y):
  Call Tryz.prog w0 75 [.agg (boL v g vr t).toArray, .int .i64 (s:Nat)] (D++F) (fun r H'=> ∃ (o:Own) (e:Int),oOk uE (jai x y) o/\r= .tuple [oV o (jai x y).length, .int .i64 e].toArray/\H'=oH uE 67 (jai x y) o++(D++F)):=by
 have ho:=hB.m.o
 have q1:=hB.p.oL
 have q2:=hB.p.oF
 have q3:=hB.p.oM
 have q4:=hB.p.oC
 have hfit:=hf.ok.fits hy
 have hww:=hf.ok.words
 have hlx:=hf.l
 have hhd:=fun A=>je1 (w0:=w0) (D:=D) (F:=A) hB hf hy
 unfold jai
 cases hh:headP x y with
 |none=>
  rw[hh] at hhd;unfold headV at hhd;unfold boL at*;refine en2 37 Tryz.func75 ?_;refine yr3 ?_;intro b2;refine yr9 ?_;refine ji (hhd _) ja ?_;refine yr4 ?_;intro b6;refine yr21 ?_;exact KE.fin jd rfl jc ja ⟨none,_,rfl,rfl,rfl⟩
 |some q=>
  rw[hh] at hhd
  have hlie:=jbm (jb1 hh).2
  have hmay:=jb6 hlie.1
  obtain⟨c,r,w⟩:=q
  dsimp only at hlie hmay|-
  obtain⟨w,rfl⟩: ∃ n:Nat,w=n:=⟨w.toNat,by omega⟩
  obtain⟨r,rfl⟩: ∃ n:Nat,r=n:=⟨r.toNat,by omega⟩
  rw[Int.toNat_natCast]
  change Call _ _ _ _ _ (fun r' H'=> ∃ (o:Own) (e:Int),oOk uE (jba x y (r:Nat) w) o/\r'= .tuple [oV o (jba x y (r:Nat) w).length, .int .i64 e].toArray/\H'=oH uE 67 (jba x y (r:Nat) w) o++(D++F))
  have hld:=fun A (i:Nat) (hi:i<w)=>je0 (w0:=w0) (D:=D) (F:=A) (i:=1+r+i) hB hf hy bc
  unfold headV hdV at hhd;dsimp only at hhd;unfold boL at*;refine en2 37 Tryz.func75 ?_;refine yr3 ?_;intro b2;refine yr9 ?_;refine ji (hhd _) ja ?_;refine yr4 ?_;intro b6;refine yr26 ?_;refine K.loopT (σ:=WsS) [(1,_),(2,_),(6,_)] (fun s kp_=>(9, .int .i64 (s.k:Nat))::(8,oV s.o (jba x y (r:Nat) s.k).length)::kp_) (fun s=>oH uE 67 (jba x y (r:Nat) s.k) s.o++((b6,cells [.int .i64 c, .int .i64 (r:Nat), .int .i64 (w:Nat)] 225)::(b2,cells [vr, .int .i64 (t:Nat),v.L,v.F,v.M, .int .i64 (g.words:Nat),v.C] 42)::(D++F))) (fun s=>s.k<=w/\oOk uE (jba x y (r:Nat) s.k) s.o) (fun s=>w-s.k) (⟨0,none⟩) jg ja (⟨Nat.zero_le _,rfl⟩) ?_;rintro⟨k,o⟩ ⟨hk,ko⟩;dsimp only at hk ko|-
  have hlen:=jhR x y (r:Nat) k
  by_cases hlt:k<w
  ·have hlt':((k:Nat):Int)<((w:Nat):Int):=by omega
   have hnx:=jk0 x y (r:Nat) k
   have hwk:wAt x (y.addr+(1+r+k))=(wordP x y (((r:Nat):Int)+((k:Nat):Int))).1:=by
    have hf0:fldP x y false (((r:Nat):Int)+((k:Nat):Int))=0:=by
     unfold fldP;rw [hh];dsimp only;rw[if_pos ⟨by omega,by omega,decide_eq_false bc⟩]
    unfold wordP;rw[if_pos hf0];unfold fAt
    congr 1
    omega
   have hl1:=fun A=>hld A k hlt
   rw[hwk] at hl1
   have e1:(1:Int)+((r:Nat):Int)+((k:Nat):Int)=((1+r+k:Nat):Int):=by omega
   have hbd:(jba x y (r:Nat) (k+1)).length<=4294967296:=by rw[jhR];omega
   obtain⟨z,hz⟩: ∃ z,(wordP x y (((r:Nat):Int)+((k:Nat):Int))).1=z:=⟨_,rfl⟩
   rw[hz] at hl1 hnx;refine yq23 fun T hT=>?_;rw[e1];refine(CallV.part (CallV.fn (hl1 _)) ja).mono ?_;rintro _ _ ⟨rfl,rfl⟩;refine ze ?_;clear hT T;refine yr1 ?_;intro b34
   -- STOP at region 8 op 10: {"h": "Op.call", "a": [{"callee": {"h": "Callee.builtin", "a": ["Builtin.append"]}, "args": [{"h": "Operand.tmp", "a": [25]}, {"h": "Operand.tmp", "a": [34]}], "argTypes": [66, 66]}]}
   refine KL.e rfl (Eff.appZ (E:=uE) (xs:=jba x y (r:Nat) k) (o:=o) (ys:=[z]) (zs:=jba x y (r:Nat) (k+1)) rfl rfl rfl rfl rfl rfl jt bh ba (hnx) be rfl) ?_;rintro _ _ ⟨o',ok',rfl,rfl⟩;refine yr9 ?_;exact KE.again ⟨k+1,o'⟩ jg ja ⟨hlt,ok'⟩ (by show w-(k+1)<w-k;omega)
  ·have hlt': ¬((k:Nat):Int)<((w:Nat):Int):=by omega
   obtain rfl:k=w:=by omega
   refine yr23 ?_;exact KE.fin jd rfl jc ja ⟨o,_,ko,rfl,rfl⟩
end
section
variable {R0 : List (List Int)} {gn : Int} {w0 : World} {D N : jb} {v : PlV} {g : PlG} {d : CyV} {s : CyP}
theorem CyD.take {va':Value} {A':List Bool} (h:CyD R0 gn w0 D v g d s) (hA:ArD w0 (N++D) v va' g A'):CyD R0 gn w0 (N++D) v g ⟨va',d.z,d.q,d.vd⟩ {s with A:=A'}:=⟨hA,h.W.part ja,h.K.part ja,h.o,fun e=>(h.S e).part ja,h.N,h.m,h.ge⟩
theorem CyD.tab {vt':Value} {T':List jk} (h:CyD R0 gn w0 D v g d s) (hT:Sli w0 (N++D) wE vt' (T'.map j5)) (ho:vt'.oneCell'=true) (hw:Jv g {s.W with T:=T'}) (hst:StOk T'):CyD R0 gn w0 (N++D) v g ⟨d.va,⟨d.z.vr,vt',d.z.vn,d.z.R,d.z.gens⟩,d.q,d.vd⟩ {s with W:={s.W with T:=T'}}:=
 ⟨h.A.part ja,h.W.tab hT ho hw hst ja,h.K.part ja,h.o,fun e=>(h.S e).part ja,h.N,h.m,h.ge⟩
theorem CyD.pin {vn':Value} {N':List Int} (h:CyD R0 gn w0 D v g d s) (hN:Sli w0 (N++D) iE vn' N') (ho:vn'.oneCell'=true) (hw:Jv g {s.W with N:=N'}):CyD R0 gn w0 (N++D) v g ⟨d.va,⟨d.z.vr,d.z.vt,vn',d.z.R,d.z.gens⟩,d.q,d.vd⟩ {s with W:={s.W with N:=N'}}:=
 ⟨h.A.part ja,h.W.pin hN ho hw ja,h.K.part ja,h.o,fun e=>(h.S e).part ja,h.N,h.m,h.ge⟩
theorem CyD.words {vr':Value} {R':List RwD} {x':List Int} (h:CyD R0 gn w0 D v g d s) (hB:BoD w0 (N++D) v vr' g R') (hY:rwX R'=(rwX d.z.R).set v.t x') (hw:Jv g {s.W with x:=x'}) (hr:jaD g x'):CyD R0 gn w0 (N++D) v g ⟨d.va,⟨vr',d.z.vt,d.z.vn,R',d.z.gens⟩,d.q,d.vd⟩ {s with W:={s.W with x:=x'}}:=
 ⟨h.A.part ja,h.W.put hB hY hw hr ja,h.K.part ja,h.o,fun e=>(h.S e).part ja,h.N,by rw[hY,h.m,List.set_set],h.ge⟩
theorem mint_st {T:List jk} {j:Nat} (h:StOk T):StOk (jS T (j:Nat)):=⟨by rw[jbk];exact h.1,fun e he=>by
 obtain⟨q,hq⟩:=List.getElem?_of_mem he
 rcases mint_at hq with h2|⟨h2,_⟩
 ·exact h.2 e (List.mem_of_getElem? h2)
 ·omega⟩
theorem jfE {T:List jk} (h:StOk T):StOk (T.map j5):=⟨by rw[List.length_map];exact h.1,fun e he=>by
 obtain⟨q,hq,rfl⟩:=List.mem_map.1 he
 rw[(jbn q).1];exact h.2 q hq⟩
end
section
variable {C : HpC} {wr : Bool} {h h' : HpP} {g : PlG} {long : Nat} {s s' : CyP}
theorem j0.does {a:jaW} (ok:jh g) (hi:jp g long s) (h:j0 g s) (ha:2<=a.w%6):j0 g (doesC g long s a):=by
 have hO: ∀ (z:CyP) (t:Int),jp g long z->j0 g z->j0 g (shdO g long z t)/\jp g long (shdO g long z t):=fun z t h1 h2=>by
  unfold shdO;split
  ·exact⟨h2.shd ok h1 t,h1.shd ok t⟩
  ·exact⟨h2,h1⟩
 unfold doesC;rw[if_neg bc]
 split
 ·unfold jbR
  split
  ·exact h
  ·split
   ·exact h
   ·split
    ·exact h
    ·refine j0.world (hO _ _ (hO _ _ hi h).2 (hO _ _ hi h).1).1 rfl
 ·split
  ·exact h
  ·split
   ·exact j0.world (h.shd ok hi _) jc3
   ·split
    ·exact j0.world h rfl
    ·exact j0.world (h.shd ok hi _) rfl
theorem le_mv (hC:j6 C) (hI:HeI C h) (hl:j0 C.g h.s) (m:HpMv C wr h h'):j0 C.g h'.s:=by
 have ok:=hC.g
 cases m with
 |free h1 h2=>exact hl
 |help h1=>exact hl.help ok hI.ok h1
 |step h1=>exact hl.step ok hI.ok h1
 |begin h0=>exact j0.begin ok (by rw[hI.n];exact hC.caps.2)
 |publish h3=>exact hl.publish C.gn
 |acts h2 _=>exact hl.does ok hI.ok h2
 |word _ _ _=>exact j0.world hl rfl
 |read h1 h2 _=>exact j0.world (hl.shd ok hI.ok _) jbk
 | @make k hd h1 _ _ _=>
  have a1:j0 C.g {h.s with m:=Jd h.s.m (jX C.g h.s.A k).1.toNat}:=hl.black hI.ok _
  exact j0.world (s:={h.s with m:=Jd h.s.m (jX C.g h.s.A k).1.toNat,A:=(jX C.g h.s.A k).2.2}) ⟨a1.m,a1.s⟩ jbk
structure HeJ (C:HpC) (h:HpP):Prop where
 i:HeI C h
 l:j0 C.g h.s
 u:UsI C h
theorem HeJ.mv (hC:j6 C) (hJ:HeJ C h) (m:HpMv C wr h h'):HeJ C h':=⟨hJ.i.mv hC m,le_mv hC hJ.i hJ.l m,hJ.u.mv hC hJ.i m⟩
theorem HeJ.mvs (hC:j6 C) (hJ:HeJ C h) (m:JC C wr h h'):HeJ C h':=by
 induction m with
 |refl=>exact hJ
 |tail _ c ih=>exact ih.mv hC c
end
def hqL (C:HpC) (c:Cfg) (vc vt:Value) (v:PlV) (d:CyV) (h:HpP):List Value:= .int .i64 (C.tn:Nat)::vc:: .int .i64 c.page::vt:: .int .i64 c.workers:: .int .i64 c.grey:: .int .i64 c.gens::v.L::v.F::v.M:: .int .i64 (C.g.words:Nat)::v.C::d.va::d.z.vr:: .int .i64 (v.t:Nat)::v.L::v.F::v.M:: .int .i64 (C.g.words:Nat)::v.C::d.z.vt:: .int .i64 d.z.gens::d.z.vn::d.q.c::v.L::v.F::v.M:: .int .i64 (C.g.words:Nat)::v.C:: .int .i64 (C.long:Nat)::d.q.u.Q::d.q.u.ow::d.q.u.di:: .int .i64 (pgI h.s.m.G):: .int .i64 (h.s.m.G.at_:Nat)::d.q.h:: .int .i64 (h.s.m.root:Nat):: .bool h.s.m.act:: .int .i64 (h.s.m.steps:Nat):: .bool h.s.sa:: .int .i64 (h.s.at_:Nat)::d.vd:: .int .u8 (h.s.ph:Nat):: .int .i64 (h.s.st:Nat):: .int .i64 (C.g.q:Nat):: .int .i64 (C.tr:Nat):: .int .i64 (C.caps:Nat):: .int .i64 (C.ast:Nat):: .bool h.p.act:: .int .i64 (h.p.since:Nat):: .int .i64 (h.p.total:Nat):: .int .i64 (h.p.debt:Nat):: .int .i64 (h.p.cyc:Nat):: .int .i64 (h.wk:Nat)::[]
def hq0:List Value:= .int .i64 0:: .slice none 0 0:: .int .i64 0:: .slice none 0 0:: .int .i64 0:: .int .i64 0:: .int .i64 0:: .slice none 0 0:: .slice none 0 0:: .slice none 0 0:: .int .i64 0:: .slice none 0 0:: .slice none 0 0:: .slice none 0 0:: .int .i64 0:: .slice none 0 0:: .slice none 0 0:: .slice none 0 0:: .int .i64 0:: .slice none 0 0:: .slice none 0 0:: .int .i64 0:: .slice none 0 0:: .slice none 0 0:: .slice none 0 0:: .slice none 0 0:: .slice none 0 0:: .int .i64 0:: .slice none 0 0:: .int .i64 0:: .slice none 0 0:: .slice none 0 0:: .slice none 0 0:: .int .i64 0:: .int .i64 0:: .slice none 0 0:: .int .i64 0:: .bool false:: .int .i64 0:: .bool false:: .int .i64 0:: .slice none 0 0:: .int .u8 0:: .int .i64 0:: .int .i64 0:: .int .i64 0:: .int .i64 0:: .int .i64 0:: .bool false:: .int .i64 0:: .int .i64 0:: .int .i64 0:: .int .i64 0:: .int .i64 0::[]
structure HqR (R0:List (List Int)) (w0:World) (D:jb) (C:HpC) (c:Cfg) (vc vt:Value) (v:PlV) (d:CyV) (h:HpP):Prop where
 y:CyD R0 C.gn w0 D v C.g d h.s
 c:Jl w0 D c vc vt
 e1:vc.oneCell'=true
 e2:vt.oneCell'=true
structure HqK (C:HpC) (c:Cfg) (v:PlV):Prop where
 k:j6 C
 cf:cfgP c=true
 g:C.g=gOf c (C.tn:Nat)
 t:c.tn[C.tn]?=some ⟨(C.g.q:Nat),(C.tr:Nat),(C.caps:Nat),(C.ast:Nat)⟩
 tv:v.t=C.tn
 nw:c.workers=(C.nw:Nat)
 lg:C.long<=64
def HqG (R0:List (List Int)) (w0:World) (D F:jb) (C:HpC) (c:Cfg) (vc vt:Value) (v:PlV) (h':HpP) (f:Value->Value) (r:Value) (H':jb):Prop:=
 ∃ (d':CyV) (N:jb),HqR R0 w0 (N++D) C c vc vt v d' h'/\r=f (.agg (hqL C c vc vt v d' h').toArray)/\H'=N++(D++F)
section
variable {R0 : List (List Int)} {w0 : World} {D F : jb} {C : HpC} {c : Cfg} {vc vt : Value} {v : PlV} {d : CyV} {h : HpP}
theorem jiF (hK:HqK C c v) (hJ:HeJ C h) (hR:HqR R0 w0 D C c vc vt v d h) (h0:h.s.ph=0):
  Call Tryz.prog w0 135 [.agg (hqL C c vc vt v d h).toArray] (D++F) (HqG R0 w0 D F C c vc vt v (jb4 C h) id):=by
 obtain⟨q1,q2,q3,q4,q5,q6,q7,q8,q9,r1,r2,r3,r4,r5⟩:=hR.y.c
 have o1:=hR.e1
 have o2:=hR.e2
 have hB:=fun A=>jmD (F:=A) hR.y hK.k.g hJ.i.ok h0
 have hTu:=fun A=>jir (w0:=w0) (H:=A) (C:=C) (a:=true) hJ.i.pb
 unfold CyG cyL at hB;unfold paL at hTu
 have hfin: ∀ d' N,CyD R0 C.gn w0 (N++D) v C.g d' (beginC C.g h.s)->HqR R0 w0 (N++D) C c vc vt v d' (jb4 C h):=fun d' N hy=>⟨hy,hR.c.part ja,hR.e1,hR.e2⟩
 unfold HqG id hqL;refine en1 18 Tryz.func135 ?_
 (iterate 13 first|refine yS ?_|intro _)
 refine je (hB _) ja ?_;rintro _ _ ⟨d1,N,hy1,rfl,rfl⟩
 obtain⟨_,_,_,_,t5,t6,t7,t8,t9,ta,tb,tc,td,te⟩:=hy1.c
 refine yr12 ?_;refine Jx (hTu _) ?_;rintro _ _ ⟨e,rfl,rfl⟩;refine yr14 ?_;exact KE.fin (H':=N++(D++F)) jd rfl jc ja ⟨d1,N,hfin d1 N hy1,rfl,rfl⟩
theorem jla {g:PlG} {gn:Int} {long:Nat} {z:CyP} (h:CyD R0 gn w0 D v g d z) (ok:jh g) (hlg:long<=64) (hi:jp g long z) (hle:j0 g z) (h0:z.ph≠0):
  Call Tryz.prog w0 238 [.agg (cyL v g long d z).toArray] (D++F) (CyG R0 gn w0 D F v g long (finC g long z).2 (fun a=> .tuple [a, .int .i64 ((finC g long z).1:Nat), .int .i64 0].toArray)):=by
 refine(jlA h ok hlg hi hle h0).mono ?_;rintro _ _ ⟨n,s',h1,h2,h3,hq⟩;rw[fin_is ok hi h1 h2];exact hq
theorem jhd (hK:HqK C c v) (hJ:HeJ C h) (hR:HqR R0 w0 D C c vc vt v d h) (h0:h.s.ph≠0) (hw:h.wk<=1000000000):
  Call Tryz.prog w0 136 [.agg (hqL C c vc vt v d h).toArray] (D++F) (HqG R0 w0 D F C c vc vt v (jbr C h) id):=by
 obtain⟨q1,q2,q3,q4,q5,q6,q7,q8,q9,r1,r2,r3,r4,r5⟩:=hR.y.c
 have o1:=hR.e1
 have o2:=hR.e2
 have hC:=hK.k
 have hn:(finC C.g C.long h.s).1<=100000000:=by
  have:=(jc8 (g:=C.g) (long:=C.long) (s:=h.s)).ok hC.g hJ.i.ok
  have h2:=this.mes
  have h3:=hJ.l.s
  omega
 have hF:=fun A=>jla (F:=A) hR.y hC.g hK.lg hJ.i.ok hJ.l h0
 have h3:=jhj hC.g hJ.i.ok h0
 have hI1:HeI C ⟨(finC C.g C.long h.s).2,h.p,h.wk⟩:=hJ.i.mvs hC (fin_mvs (wr:=true) (p:=h.p) (wk:=h.wk) jc8)
 unfold jbr
 obtain⟨n,hnn⟩: ∃ n,(finC C.g C.long h.s).1=n:=⟨_,rfl⟩
 obtain⟨s1,hs1⟩: ∃ s1,(finC C.g C.long h.s).2=s1:=⟨_,rfl⟩
 rw[hnn] at hn;simp only[hnn,hs1] at hF h3 hI1|-
 have hgn:=hC.gn
 have hP: ∀ A d1 N1,CyD R0 C.gn w0 (N1++D) v C.g d1 s1->Call Tryz.prog w0 239 [.agg (cyL v C.g C.long d1 s1).toArray] ((N1++D)++A) (CyG R0 C.gn w0 (N1++D) A v C.g C.long (publishC C.g C.gn s1) (fun a=> .tuple [a, .int .i64 (s1.D.count true:Nat), .int .i64 (recyN C.gn s1.W.T:Nat), .int .i64 0].toArray)):=fun A d1 N1 hy=>by
  have:=jk9 (long:=C.long) (F:=A) hy hC.g hI1.ok h3 (by rw[hy.ge];exact hgn) (fun e he=>⟨(hI1.e e he).1,Int.le_trans (hI1.e e he).2 hgn.2⟩)
  rw[hy.ge] at this;exact this
 have hTu:=fun A=>jir (w0:=w0) (H:=A) (C:=C) (a:=false) hJ.i.pb
 unfold CyG cyL at hF hP;unfold paL at hTu
 have hfin: ∀ d' N,CyD R0 C.gn w0 (N++D) v C.g d' (publishC C.g C.gn s1)->HqR R0 w0 (N++D) C c vc vt v d' ⟨publishC C.g C.gn s1,jaw false h.p,h.wk+n⟩:=fun d' N hy=>⟨hy,hR.c.part ja,hR.e1,hR.e2⟩
 unfold HqG id hqL;refine en1 34 Tryz.func136 ?_
 (iterate 13 first|refine yS ?_|intro _)
 refine je (hF _) ja ?_;rintro _ _ ⟨d1,N1,hy1,rfl,rfl⟩
 have hP1:=fun A=>hP A d1 N1 hy1
 obtain⟨_,_,_,_,t5,t6,t7,t8,t9,ta,tb,tc,td,te⟩:=hy1.c
 (iterate 25 first|refine yS ?_|intro _)
 refine je (hP1 _) bf ?_;rintro _ _ ⟨d2,N2,hy2,rfl,rfl⟩
 obtain⟨_,_,_,_,u5,u6,u7,u8,u9,ua,ub,uc,ud,ue⟩:=hy2.c
 refine yr14 ?_;refine Jx (hTu _) ?_;rintro _ _ ⟨e,rfl,rfl⟩;refine yr14 ?_;exact KE.fin (H':=(N2++N1)++(D++F)) jd rfl jc bf ⟨d2,N2++N1,hfin d2 (N2++N1) (by rw[List.append_assoc];exact hy2),rfl,rfl⟩
theorem jgG (hR:HqR R0 w0 D C c vc vt v d h):Cs w0 128 [.agg (hqL C c vc vt v d h).toArray] (D++F) (.int .i64 (cntP 0 h.s.W.T:Nat)):=by
 obtain⟨q1,q2,q3,q4,q5,q6,q7,q8,q9,r1,r2,r3,r4,r5⟩:=hR.y.c
 have o1:=hR.e1
 have o2:=hR.e2
 have hcn:=fun A=>jmF (w0:=w0) (F:=A) (gens:=d.z.gens) hR.y.W.T q6 (jfE hR.y.W.st)
 rw[cnt_doc] at hcn;unfold hqL;refine en1 8 Tryz.func128 ?_
 (iterate 14 first|refine yS ?_|intro _)
 refine ji (hcn _) ja ?_;refine yr4 ?_;exact zd
theorem jgH (hK:HqK C c v) (hJ:HeJ C h) (hR:HqR R0 w0 D C c vc vt v d h):Cs w0 77 [.agg [v.L,v.F,v.M, .int .i64 (C.g.words:Nat),v.C,d.va].toArray] (D++F) (.int .i64 (usedL C.g.L h.s.A:Nat)):=
 rUsed_K hR.y.A hK.k.g hJ.i.ok.A
theorem hqfits_K {n:Nat} (hK:HqK C c v) (hJ:HeJ C h) (hR:HqR R0 w0 D C c vc vt v d h) (hn:n<=1048576):Cs w0 223 [.agg (hqL C c vc vt v d h).toArray, .int .i64 (n:Nat)] (D++F) (.bool (freeB h.s&&fitsB C.g n h.s)):=by
 obtain⟨q1,q2,q3,q4,q5,q6,q7,q8,q9,r1,r2,r3,r4,r5⟩:=hR.y.c
 have o1:=hR.e1
 have o2:=hR.e2
 have hfr:=fun A=>jgG (F:=A) hR
 have hus:=fun A=>jgH (F:=A) hK hJ hR
 have hu:=hJ.u
 have hq:=hK.k.g.q
 have htn:=hK.t
 have hcT:=hR.c.tn
 unfold UsI at hu
 have htn':c.tn[((C.tn:Nat):Int).toNat]?=some ⟨(C.g.q:Nat),(C.tr:Nat),(C.caps:Nat),(C.ast:Nat)⟩:=htn
 have hlt:=jl htn
 obtain⟨us,hus'⟩: ∃ us,usedL C.g.L h.s.A=us:=⟨_,rfl⟩
 unfold hqL at hfr;unfold fitsB freeB;rw[hus'] at hu hus|-;unfold hqL
 by_cases h1:0<cntP 0 h.s.W.T
 ·have h1':((cntP 0 h.s.W.T:Nat):Int)>0:=by omega
  rw[decide_eq_true h1,Bool.true_and]
  have e1:decide (((us:Nat):Int)+((n:Nat):Int)<=((C.g.q:Nat):Int))=decide (us+n<=C.g.q):=by
   by_cases c:us+n<=C.g.q
   ·rw[decide_eq_true c,decide_eq_true bc]
   ·rw[decide_eq_false c,decide_eq_false bc]
  refine en2 25 Tryz.func223 ?_
  (iterate 8 first|refine yS ?_|intro _)
  refine zck ?_;refine yr2 ?_;refine ji (hfr _) ja ⟨ja,?_⟩;refine yr14 ?_;refine zo fun T hT=>?_;refine(CallV.part (CallV.fn (hus _)) ja).mono ?_;rintro _ _ ⟨rfl,rfl⟩;refine zf ?_;clear hT T;refine yr7 ?_;exact KE.fin jd rfl jc ja ⟨by rw[<-e1];rfl,rfl⟩
 ·have h1': ¬((cntP 0 h.s.W.T:Nat):Int)>0:=by omega
  rw[decide_eq_false h1,Bool.false_and];refine en2 25 Tryz.func223 ?_
  (iterate 8 first|refine yS ?_|intro _)
  refine zck ?_;refine yr2 ?_;refine ji (hfr _) ja ⟨ja,?_⟩;refine yr22 ?_;exact zd
structure RmS where
 d:CyV
 N:jb
theorem jjH {is:CyP->Bool} {n:Nat} (hK:HqK C c v) (hJ:HeJ C h) (hR:HqR R0 w0 D C c vc vt v d h) (hn:n<=1048576) (hw:h.wk<=100000000) (his: ∀ h',HeJ C h'->(freeB h'.s&&fitsB C.g n h'.s)=is h'.s):
  Call Tryz.prog w0 127 [.agg (hqL C c vc vt v d h).toArray, .int .i64 (n:Nat)] (D++F) (HqG R0 w0 D F C c vc vt v (hpRoom C is h) id):=by
 have hC:=hK.k
 have hJ1:=hJ.mvs hC (jeE (wr:=true) hC hJ.i (is:=is))
 have hfi:=fun A (D':jb) d' h' (hR':HqR R0 w0 D' C c vc vt v d' h') (hJ':HeJ C h')=>hqfits_K (F:=A) hK hJ' hR' hn
 have hE:=fun A=>jhd (F:=A) hK hJ hR
 have hw1:(hpRoom1 C is h).wk<=300000000:=by
  have hn:=(jc8 (g:=C.g) (long:=C.long) (s:=h.s)).ok hC.g hJ.i.ok
  have h2:=hn.mes
  have h3:=hJ.l.s
  unfold hpRoom1 jbr
  split
  ·dsimp only;omega
  ·omega
 have hp1:=fun(q: ¬is (hpRoom1 C is h).s=true)=>jeX q
 have hB2:=fun A (D':jb) d' (hR':HqR R0 w0 D' C c vc vt v d' (hpRoom1 C is h)) (q: ¬is (hpRoom1 C is h).s=true)=>jiF (F:=A) hK hJ1 hR' (hp1 q)
 have hE2:=fun A (D':jb) d' (q: ¬is (hpRoom1 C is h).s=true) (hR':HqR R0 w0 D' C c vc vt v d' (jb4 C (hpRoom1 C is h)))=>jhd (F:=A) hK (hJ1.mv hC (HpMv.begin (wr:=true) (hp1 q))) hR' (by show(1:Nat)≠0;decide) (by show(hpRoom1 C is h).wk<=1000000000;omega)
 have hroom:hpRoom C is h=if is (hpRoom1 C is h).s=true then hpRoom1 C is h else jbr C (jb4 C (hpRoom1 C is h)):=rfl
 have hroom1:hpRoom1 C is h=if is h.s=false/\h.s.ph≠0 then jbr C h else h:=rfl
 have hf1:=fun A D' d' hR'=>hfi A D' d' (hpRoom1 C is h) hR' hJ1
 have hf0:=fun A=>hfi A D d h hR hJ
 rw[his _ hJ1] at hf1;rw[his _ hJ] at hf0;rw[hroom]
 obtain⟨h1,hh1⟩: ∃ h1,hpRoom1 C is h=h1:=⟨_,rfl⟩
 rw[hh1] at hf1 hJ1 hw1 hp1 hB2 hE2 hroom1 hroom|-
 have hoo:=hR.y.c
 unfold HqG id at hE hB2 hE2|-
 have hnil:[]++D=D:=rfl
 refine en2 25 Tryz.func127 ?_;unfold hqL at hf0 hf1 hE hB2 hE2|-
 obtain⟨q1,q2,q3,q4,q5,q6,q7,q8,q9,r1,r2,r3,r4,r5⟩:=hR.y.c
 have o1:=hR.e1
 have o2:=hR.e2
 refine yr3 ?_;intro b2;refine yr1 ?_;intro b4;refine yr2 ?_;refine K.cutT (σ:=RmS) [(2,_),(4,_)] jg (fun s kp_=>(1, .int .i64 (n:Nat))::kp_) (fun s=>(b2,cells (hqL C c vc vt v s.d h1) 63)::(b4,cells hq0 63)::(s.N++(D++F))) (fun s=>HqR R0 w0 (s.N++D) C c vc vt v s.d h1) ?_ ?_
 ·skip
  by_cases hi:is h.s=true
  ·have e1:h1=h:=by rw[hroom1,if_neg (by rw[hi];rintro⟨q,_⟩;cases q)]
   rw[hi] at hf0;subst e1;refine yr5 ?_;refine ji (hf0 _) ja ?_;refine yr11 ?_;exact KE.meet ⟨d,[]⟩ jg ja hR
  ·rw[Bool.eq_false_iff.2 hi] at hf0
   by_cases h0:h.s.ph=0
   ·have e1:h1=h:=by rw[hroom1,if_neg (by rintro⟨_,q⟩;exact q h0)]
    subst e1
    have h0':((h1.s.ph:Nat):Int)=0:=by omega
    refine yr5 ?_;refine ji (hf0 _) ja ?_;refine yr11 ?_;exact KE.meet ⟨d,[]⟩ jg ja hR
   ·have e1:h1=jbr C h:=by rw[hroom1,if_pos ⟨Bool.eq_false_iff.2 hi,h0⟩]
    have h0': ¬((h.s.ph:Nat):Int)=0:=by omega
    have hE0:=fun A=>hE A h0 bc
    rw[<-e1] at hE0;refine yr5 ?_;refine ji (hf0 _) ja ?_;refine yr13 ?_;refine je (hE0 _) ja ?_;rintro _ _ ⟨d1,N1,hR1,rfl,rfl⟩
    obtain⟨_,_,_,_,t5,t6,t7,t8,t9,ta,tb,tc,td,te⟩:=hR1.y.c
    refine yr2 ?_;exact KE.meet ⟨d1,N1⟩ jg ja hR1
 ·rintro⟨d1,N1⟩ hR1;dsimp only at hR1|-;unfold hqL
  obtain⟨_,_,_,_,t5,t6,t7,t8,t9,ta,tb,tc,td,te⟩:=hR1.y.c
  by_cases hi:is h1.s=true
  ·rw[if_pos hi];rw[hi] at hf1;refine yr6 ?_;refine ji (hf1 _ _ d1 hR1) bf ?_;refine yr13 ?_;exact KE.fin (H':=N1++(D++F)) jd rfl jc bf ⟨d1,N1,hR1,rfl,rfl⟩
  ·rw[if_neg hi];rw[Bool.eq_false_iff.2 hi] at hf1;refine yr6 ?_;refine ji (hf1 _ _ d1 hR1) bf ?_;refine yr7 ?_;refine je (hB2 _ _ d1 hR1 hi) bf ?_;rintro _ _ ⟨d2,N2,hR2,rfl,rfl⟩
   obtain⟨_,_,_,_,u5,u6,u7,u8,u9,ua,ub,uc,ud,ue⟩:=hR2.y.c
   refine yr1 ?_;refine je (hE2 _ _ d2 hi hR2) bf ?_;rintro _ _ ⟨d3,N3,hR3,rfl,rfl⟩
   obtain⟨_,_,_,_,x5,x6,x7,x8,x9,xa,xb,xc,xd,xe⟩:=hR3.y.c
   refine yr10 ?_;exact KE.fin (H':=((N3++N2)++N1)++(D++F)) jd rfl jc bf ⟨d3,(N3++N2)++N1,(by simp only[List.append_assoc] at hR3|-;exact hR3),rfl,rfl⟩
end
section
variable {R0 : List (List Int)} {w0 : World} {D F : jb} {C : HpC} {c : Cfg} {vc vt : Value} {v : PlV} {d : CyV} {h : HpP}
theorem jjK {w:Nat} (hK:HqK C c v) (hR:HqR R0 w0 D C c vc vt v d h) (hw:w<18446744073709551616):
  Cs w0 66 [.agg (hqL C c vc vt v d h).toArray, .int .u64 (w:Nat)] (D++F) (.tuple [.int .i64 ((hpSlot C.tn h.s.W.T w).getD 0), .bool (hpSlot C.tn h.s.W.T w).isSome].toArray):=by
 obtain⟨q1,q2,q3,q4,q5,q6,q7,q8,q9,r1,r2,r3,r4,r5⟩:=hR.y.c
 have o1:=hR.e1
 have o2:=hR.e2
 have hget:=fun A=>jiw (w0:=w0) (H:=A) hw
 have hL:=fun A=>rLookA_K (w0:=w0) (F:=A) (gens:=d.z.gens) (i:=capI w) (n:=capG w) hR.y.W.T q6 (jfE hR.y.W.st)
 rw[jmN] at hL;unfold capV at hget;unfold hpSlot hqL
 by_cases hg:capG w=0
 ·rw[if_neg (fun q=>q.1 hg)];simp only[if_pos hg] at hget;refine en2 39 Tryz.func66 ?_
  (iterate 12 first|refine yS ?_|intro _)
  refine zR ?_
  (iterate 32 first|refine yS ?_|intro _)
  exact zd
 ·simp only[if_neg hg] at hget
  by_cases ht:capT w=C.tn
  ·have ht':((capT w:Nat):Int)=(C.tn:Nat):=by omega
   rw[if_pos ⟨hg,ht⟩]
   cases hn:J2 h.s.W.T (capI w:Nat) (capG w:Nat) with
   |none=>
    simp only[hn,Option.map_none,Option.getD_none,Option.isSome_none,Bool.false_eq_true,if_false] at hL|-;refine en2 39 Tryz.func66 ?_
    (iterate 12 first|refine yS ?_|intro _)
    refine zR ?_
    (iterate 37 first|refine yS ?_|intro _)
    refine ji (hL _) ja ?_;refine yr17 ?_;exact zd
   |some e=>
    simp only[hn,Option.map_some,Option.getD_some,Option.isSome_some,if_true] at hL|-;refine en2 39 Tryz.func66 ?_
    (iterate 12 first|refine yS ?_|intro _)
    refine zR ?_
    (iterate 37 first|refine yS ?_|intro _)
    refine ji (hL _) ja ?_;refine yr17 ?_;exact zd
  ·have ht': ¬((capT w:Nat):Int)=(C.tn:Nat):=by omega
   rw[if_neg (fun q=>ht q.2)];refine en2 39 Tryz.func66 ?_
   (iterate 12 first|refine yS ?_|intro _)
   refine zR ?_
   (iterate 32 first|refine yS ?_|intro _)
   exact zd
theorem HqR.tab {N:jb} {vt':Value} {t:Nat} (hR:HqR R0 w0 D C c vc vt v d h) (hok:jp C.g C.long h.s) (hC:j6 C) (ht:t<C.g.slots) (hT:Sli w0 (N++D) wE vt' ((jS h.s.W.T (t:Nat)).map j5)) (ho:vt'.oneCell'=true):
  HqR R0 w0 (N++D) C c vc vt v ⟨d.va,⟨d.z.vr,vt',d.z.vn,d.z.R,d.z.gens⟩,d.q,d.vd⟩ {h with s:={h.s with W:={h.s.W with T:=jS h.s.W.T (t:Nat)}}}:=by
 have h1:=(hok.world hC.g (a:=⟨4,(t:Nat),0,0,0,0⟩)).w
 rw[jdY ⟨by omega,by omega⟩] at h1;exact⟨hR.y.tab hT ho h1 (mint_st hR.y.W.st),hR.c.part ja,hR.e1,hR.e2⟩
theorem jjI {t:Nat} (hK:HqK C c v) (hok:jp C.g C.long h.s) (hR:HqR R0 w0 D C c vc vt v d h) (hI: ∀ e∈h.s.W.T,1<=e.gen/\e.gen<=2147483648) (ht:t<C.g.slots) (hf:(JN h.s.W.T).isSome=true):
  Call Tryz.prog w0 132 [.agg (hqL C c vc vt v d h).toArray, .int .i64 (t:Nat)] (D++F) (HqG R0 w0 D F C c vc vt v {h with s:={h.s with W:={h.s.W with T:=jS h.s.W.T (t:Nat)}}} (fun a=> .tuple [a, .int .u64 (jaU C.tn h.s.W.T:Nat)].toArray)):=by
 obtain⟨q1,q2,q3,q4,q5,q6,q7,q8,q9,r1,r2,r3,r4,r5⟩:=hR.y.c
 have o1:=hR.e1
 have o2:=hR.e2
 have hC:=hK.k
 have hl:=hR.y.W.st.1
 have htn:=hC.tn
 obtain⟨i,hi⟩:=Option.isSome_iff_exists.1 hf
 obtain⟨⟨e,g1,g2⟩,_⟩:=jbK hi
 have hil:=jl g1
 have hge:=hI e (List.mem_of_getElem? g1)
 obtain⟨gn,hgn⟩: ∃ gn:Nat,e.gen=gn:=⟨e.gen.toNat,by omega⟩
 have hmv:JT h.s.W.T=(((i:Nat):Int),((gn:Nat):Int),0):=by unfold JT;rw [hi];dsimp only;rw [jcp g1,hgn]
 have hmw:jaU C.tn h.s.W.T=capW C.tn i gn:=by unfold jaU;rw [hmv];rfl
 have hmi:=fun A=>rMint_K (w0:=w0) (F:=A) (gens:=d.z.gens) (s:=t) hR.y.W.T q6 (jfE hR.y.W.st)
 have hmv2:JT (h.s.W.T.map j5)=JT h.s.W.T:=by unfold JT;rw [jjP];split<;>simp only[gen_doc]
 simp only[mint_doc,hmv2,hmv] at hmi
 have hfin:=fun N vt' hT ho=>hR.tab (N:=N) (vt':=vt') hok hC ht hT ho
 have hput:=fun A=>jmB (w0:=w0) (H:=A) (t:=C.tn) (i:=i) (n:=gn) bc bc ⟨by omega,by omega⟩
 rw[hmw];clear hmv hmw hmv2;unfold HqG hqL;refine en2 38 Tryz.func132 ?_
 (iterate 17 first|refine yS ?_|intro _)
 refine je (hmi _) ja ?_;rintro _ _ ⟨vt2,N,hT2,p1,rfl,rfl⟩
 (iterate 30 first|refine yS ?_|intro _)
 refine jj (hput _) ?_;refine yr16 ?_;exact KE.fin (H':=N++(D++F)) jd rfl jc ja ⟨_,N,hfin N vt2 hT2 p1,rfl,rfl⟩
theorem je9 {n:Nat} {z:jn} (hR:HqR R0 w0 D C c vc vt v d h) (hz:C.g.L[n]?=some z) (hn:n<C.g.slots) (ok:jh C.g):Cs w0 67 [.agg (hqL C c vc vt v d h).toArray, .int .i64 (n:Nat)] (D++F) (.int .i64 (z.addr:Nat)):=by
 obtain⟨q1,q2,q3,q4,q5,q6,q7,q8,q9,r1,r2,r3,r4,r5⟩:=hR.y.c
 have o1:=hR.e1
 have o2:=hR.e2
 have hL:=hR.y.W.B.p.L
 have hsl:=ok.slots
 have hLl:=jak (g:=C.g)
 have hz':C.g.L[((n:Nat):Int).toNat]?=some z:=hz
 unfold hqL;refine en2 15 Tryz.func67 ?_
 (iterate 23 first|refine yS ?_|intro _)
 exact zd
theorem je8 {e:Int} (hR:HqR R0 w0 D C c vc vt v d h):Cs w0 64 [.agg (hqL C c vc vt v d h).toArray, .int .i64 e] (D++F) (.tuple [.agg (hqL C c vc vt v d h).toArray,snV (told e)].toArray):=by
 obtain⟨q1,q2,q3,q4,q5,q6,q7,q8,q9,r1,r2,r3,r4,r5⟩:=hR.y.c
 have o1:=hR.e1
 have o2:=hR.e2
 unfold hqL;refine en2 9 Tryz.func64 ?_
 (iterate 20 first|refine yS ?_|intro _)
 exact zd
theorem min_is' (n:Nat):(if (2147483647:Int)<((n:Nat):Int) then 2147483647 else((n:Nat):Int))=((min n 2147483647:Nat):Int):=by
 by_cases c:(2147483647:Int)<((n:Nat):Int)
 ·rw[if_pos c];omega
 ·rw[if_neg c];omega
theorem hqseen_K {q:SnP} (hK:HqK C c v) (hJ:HeJ C h) (hR:HqR R0 w0 D C c vc vt v d h):Cs w0 35 [.agg (hqL C c vc vt v d h).toArray,snV q] (D++F) (snV (jen C h (if q.e=0 then q else told q.e))):=by
 obtain⟨q1,q2,q3,q4,q5,q6,q7,q8,q9,r1,r2,r3,r4,r5⟩:=hR.y.c
 have o1:=hR.e1
 have o2:=hR.e2
 have hus:=fun A=>jgH (F:=A) hK hJ hR
 have hu:=hJ.u
 have hq:=hK.k.g.q
 unfold UsI at hu
 have hM:M62=4611686018427387904:=rfl
 have b1:=hJ.i.pb.s
 have b2:=hJ.i.pb.c
 obtain⟨us,hus'⟩: ∃ us,usedL C.g.L h.s.A=us:=⟨_,rfl⟩
 unfold jen;rw[hus'] at hu hus|-;rw[<-min_is',<-min_is']
 obtain⟨e,hh,w,ad,us0,si,cy,ac⟩:=q
 unfold snV;unfold hqL
 by_cases he:e=0
 ·subst he;simp only[if_true];refine en2 31 Tryz.func35 ?_;refine yr3 ?_;intro b2;refine yr1 ?_;intro b3;refine yr1 ?_;intro b4;refine yr19 ?_;refine ji (hus _) ja ?_;refine yr40 ?_;exact zd
 ·simp only[if_neg he];refine en2 31 Tryz.func35 ?_;refine yr3 ?_;intro b2;refine yr1 ?_;intro b3;refine yr1 ?_;intro b4;refine yr24 ?_;refine ji (hus _) ja ?_;refine yr40 ?_;exact zd
structure PyS where
 q:HpP
 d:CyV
 N:jb
theorem jmJ {d:Nat} (hI:HeI C h) (ha:h.p.act=false):JY C d h=h:=by
 have h0:h.s.ph=0:=Classical.byContradiction fun q=>by have:=hI.pa;rw [ha,decide_eq_true q] at this;cases this
 cases d with
 |zero=>rfl
 |succ d=>unfold JY;rw [help_no h0]
theorem hqpays_K (hK:HqK C c v) (hJ:HeJ C h) (hR:HqR R0 w0 D C c vc vt v d h) (hw:h.wk<=500000000):
  Call Tryz.prog w0 134 [.agg (hqL C c vc vt v d h).toArray] (D++F) (HqG R0 w0 D F C c vc vt v (JY C h.p.debt h) id):=by
 have hC:=hK.k
 have hle:=hJ.l.s
 have hhp:=fun A (D':jb) d' (q:HpP) (hR':HqR R0 w0 D' C c vc vt v d' q) (hJ':HeJ C q)=>jjl (F:=A) hR'.y hC.g hK.lg hJ'.i.ok hJ'.l
 have hpy:=fun A (q:HpP) (hJ':HeJ C q)=>rpcPay_K (w0:=w0) (H:=A) (C:=C) hJ'.i.pb
 unfold CyS CyG at hhp
 have hM:M62=4611686018427387904:=rfl
 unfold HqG id
 obtain⟨T,hT0⟩: ∃ T,T=JY C h.p.debt h:=⟨_,rfl⟩
 rw[<-hT0];unfold cyL at hhp;unfold paL at hpy
 obtain⟨q1,q2,q3,q4,q5,q6,q7,q8,q9,r1,r2,r3,r4,r5⟩:=hR.y.c
 have o1:=hR.e1
 have o2:=hR.e2
 unfold hqL;refine en1 37 Tryz.func134 ?_;refine yr3 ?_;intro b1;refine yr1 ?_;intro b2;refine yr4 ?_;refine K.loopT (σ:=PyS) [(2,_)] (fun s kp_=>(1,pt b1)::kp_) (fun s=>(b1,cells (hqL C c vc vt v s.d s.q) 63)::(b2,cells hq0 63)::(s.N++(D++F))) (fun s=>HqR R0 w0 (s.N++D) C c vc vt v s.d s.q/\HeJ C s.q/\JY C s.q.p.debt s.q=T/\s.q.wk+Jg C.g s.q.s<=600000000) (fun s=>s.q.p.debt) (⟨h,d,[]⟩) jg ja (⟨hR,hJ,hT0.symm,by dsimp only;omega⟩) ?_;rintro⟨q,d1,N1⟩ ⟨i1,i2,i3,i4⟩;dsimp only at i1 i2 i3 i4|-
 obtain⟨_,_,_,_,t5,t6,t7,t8,t9,ta,tb,tc,td,te⟩:=i1.y.c
 unfold hqL
 by_cases hac:q.p.act=false
 ·have i3':q=T:=by rw[<-i3];exact(jmJ i2.i hac).symm
  subst i3';rw[hac];refine yr27 ?_;exact KE.fin (H':=N1++(D++F)) jd rfl jc bg ⟨d1,N1,i1,rfl,rfl⟩
 ·have hac':q.p.act=true:=by cases e:q.p.act;exact absurd e hac;rfl
  cases hqd:q.p.debt with
  |zero=>
   have i3':q=T:=by rw[<-i3,hqd];rfl
   subst i3';rw[hac'];refine yr27 ?_;exact KE.fin (H':=N1++(D++F)) jd rfl jc bg ⟨d1,N1,i1,by rw[hqd];rfl,rfl⟩
  |succ dd=>
   have hdp:((dd+1:Nat):Int)>0:=by omega
   have hh1:=fun A=>hhp A _ d1 q i1 i2
   have hpd:=i2.i.pb.d
   cases hs:jM C.g C.long q.s with
   |none=>
    have i3':q=T:=by rw[<-i3,hqd];unfold JY;rw [hs]
    subst i3';rw[hs] at hh1;simp only[Option.isSome_none,Option.getD_none] at hh1;rw[hac'];refine yr23 ?_;refine je (hh1 _) bg ?_;rintro _ _ ⟨d2,N2,hy2,rfl,rfl⟩
    obtain⟨_,_,_,_,u5,u6,u7,u8,u9,ua,ub,uc,ud,ue⟩:=hy2.c
    (iterate 29 first|refine yS ?_|intro _)
    exact KE.fin (H':=(N2++N1)++(D++F)) jd rfl jc bg ⟨d1,N2++N1,⟨i1.y.part bg,i1.c.part bg,i1.e1,i1.e2⟩,by rw[hqd];rfl,rfl⟩
   |some s1=>
    have hmes:=jcm hC.g i2.i.ok hs
    have e5:((q.wk:Nat):Int)+1=((q.wk+1:Nat):Int):=by omega
    have hJ2:HeJ C {q with s:=s1}:=i2.mv hC (HpMv.help (wr:=true) hs)
    have hJ3:HeJ C ⟨s1,{q.p with debt:=dd},q.wk+1⟩:=hJ2.mv hC (.free (wr:=true) (h:={q with s:=s1}) rfl fun hb=>⟨hb.s,hb.t,by have:=hb.d;show dd<=M62;dsimp only at this;omega,hb.c⟩)
    have i3':JY C dd ⟨s1,{q.p with debt:=dd},q.wk+1⟩=T:=by rw[<-i3,hqd];conv=>rhs;unfold JY;rw [hs]
    have hp:=fun A=>hpy A _ hJ2
    simp only[hqd,Nat.add_sub_cancel] at hp;rw[hs] at hh1;simp only[Option.isSome_some,Option.getD_some] at hh1;rw[hac'] at hp|-;refine yr23 ?_;refine je (hh1 _) bg ?_;rintro _ _ ⟨d2,N2,hy2,rfl,rfl⟩
    obtain⟨_,_,_,_,u5,u6,u7,u8,u9,ua,ub,uc,ud,ue⟩:=hy2.c
    (iterate 39 first|refine yS ?_|intro _)
    refine Jx (hp _) ?_;rintro _ _ ⟨e,rfl,rfl⟩;refine yr7 ?_;exact KE.again ⟨⟨s1,{q.p with debt:=dd},q.wk+1⟩,d2,N2++N1⟩ jg (by(try dsimp only);(try rw[hac']);(try simp only[List.append_assoc]);exact ja) ⟨⟨by rw[List.append_assoc];exact hy2,i1.c.part bg,i1.e1,i1.e2⟩,hJ3,i3',by show q.wk+1+Jg C.g s1<=_;omega⟩ (by show dd<dd+1;omega)
end
def capsS (c:Cfg) (t:Nat):Int:=((c.tn[t]?).map (·.caps)).getD 61
def okS (c:Cfg) (t:Nat):Bool:=jde c&&(decide ((totalP c).1<=2000)&&(cfgP c&&decide (capsS c t<=60)))
section
variable {w0 : World} {F : jb} {c : Cfg} {vc vt : Value} {t : Nat}
theorem jks (hR:Jl w0 F c vc vt):Cs w0 17 [jA c vc vt, .int .i64 (t:Nat)] F (.bool (okS c t)):=by
 have htot:=fun A (hp:Part A F)=>rTotal_K (hR.part hp)
 have hsm:=fun A (hp:Part A F)=>Small_K (hR.part hp)
 have hck:=fun A (hp:Part A F)=>jhF (hR.part hp)
 obtain⟨tt,te,htt⟩: ∃ tt te,totalP c=(tt,te):=⟨_,_,rfl⟩
 obtain⟨hS,hT',o1,o2,l1,l2⟩:=hR
 unfold okS capsS;rw[htt];simp only[htt] at htot
 obtain⟨cp,hcp⟩: ∃ cp,cp=cfgP c:=⟨_,rfl⟩
 obtain⟨sp,hsp⟩: ∃ sp,sp=jde c:=⟨_,rfl⟩
 simp only[<-hcp] at hck|-;simp only[<-hsp] at hsm|-;clear hcp hsp htt
 obtain⟨cl,page,tn,workers,grey,gens⟩:=c
 dsimp only at hS hT' l1 l2|-;simp only[jA,jV,prV] at htot hsm hck|-
 have ht0:((t:Nat):Int)>=0:=by omega
 cases sp with
 |false=>
  refine en2 43 Tryz.func17 ?_
  (iterate 11 first|refine yS ?_|intro _)
  refine zag ?_;refine yr11 ?_;refine jj (hsm _ ja) ?_;refine jbf ?_;exact zd
 |true=>
  by_cases ht:tt<=2000
  ·rw[decide_eq_true ht]
   cases cp with
   |false=>
    unfold jaX at hck;simp only[Bool.false_eq_true,if_false] at hck;refine en2 43 Tryz.func17 ?_
    (iterate 11 first|refine yS ?_|intro _)
    refine zag ?_;refine yr11 ?_;refine jj (hsm _ ja) ?_;refine yr7 ?_;refine jj (hck _ ja) ?_;refine yr26 ?_;exact zd
   |true=>
    unfold jaX at hck;simp only[if_true] at hck
    cases hx:tn[t]? with
    |none=>
     have hge: ¬((t:Nat):Int)<((tn.length:Nat):Int):=by have:=List.getElem?_eq_none_iff.1 hx;omega
     refine en2 43 Tryz.func17 ?_
     (iterate 11 first|refine yS ?_|intro _)
     refine zag ?_;refine yr11 ?_;refine jj (hsm _ ja) ?_;refine yr7 ?_;refine jj (hck _ ja) ?_;refine yr26 ?_;exact zd
    |some x=>
     obtain⟨x1,x2,x3,x4⟩:=x
     have hlt:=jl hx
     have hlt':((t:Nat):Int)<((tn.length:Nat):Int):=by omega
     have hx':tn[((t:Nat):Int).toNat]?=some ⟨x1,x2,x3,x4⟩:=hx
     by_cases hc:x3<=60
     ·have hd:decide (((some (⟨x1,x2,x3,x4⟩:Tn)).map (·.caps)).getD 61<=60)=true:=decide_eq_true hc
      rw[hd];refine en2 43 Tryz.func17 ?_
      (iterate 11 first|refine yS ?_|intro _)
      refine zag ?_;refine yr11 ?_;refine jj (hsm _ ja) ?_;refine yr7 ?_;refine jj (hck _ ja) ?_;refine yr26 ?_;exact zd
     ·have hd:decide (((some (⟨x1,x2,x3,x4⟩:Tn)).map (·.caps)).getD 61<=60)=false:=decide_eq_false hc
      rw[hd];refine en2 43 Tryz.func17 ?_
      (iterate 11 first|refine yS ?_|intro _)
      refine zag ?_;refine yr11 ?_;refine jj (hsm _ ja) ?_;refine yr7 ?_;refine jj (hck _ ja) ?_;refine yr26 ?_;exact zd
  ·have hgt:tt>2000:=by omega
   rw[decide_eq_false ht];refine en2 43 Tryz.func17 ?_
   (iterate 11 first|refine yS ?_|intro _)
   refine zag ?_;refine yr11 ?_;refine jj (hsm _ ja) ?_;refine jbf ?_;exact zd
theorem made_no (hR:Jl w0 F c vc vt) (hno:okS c t=false):Cs w0 4 [jA c vc vt, .int .i64 (t:Nat)] F (.tuple [.pointer none, .pointer none].toArray):=by
 have hs:=fun A (hp:Part A F)=>jks (t:=t) (hR.part hp)
 simp only[hno] at hs;simp only[jA,jV] at hs|-;refine en2 28 Tryz.func4 ?_
 (iterate 14 first|refine yS ?_|intro _)
 refine jj (hs _ ja) ?_;refine yr12 ?_;exact zd
structure HMade (c:Cfg) (t:Nat) (D:HpD) (y:CyM):Prop where
 ok:HpDok D
 R:HpR D 1 0 y (jaM D.C)
 ec:D.c=c
 eC: ∃ x,c.tn[t]?=some x/\D.C=hC0 c t x
 R0:D.R0=mR (fun t=>wordsP c (t:Nat)) c.tn.length
theorem jkM (h:okS c t=true):cfgP c=true/\(totalP c).1<=2000/\ ∃ x,c.tn[t]?=some x/\x.caps<=60:=by
 unfold okS capsS at h;simp only[Bool.and_eq_true,decide_eq_true_eq] at h;refine⟨h.2.2.1,h.2.1,?_⟩
 cases hx:c.tn[t]? with
 |none=>rw [hx] at h;exact absurd h.2.2.2 bn
 |some x=>rw [hx] at h;exact⟨x,rfl,h.2.2.2⟩
theorem made_K (hG:ju w0) (hR:Jl w0 F c vc vt) (hok:okS c t=true):Call Tryz.prog w0 4 [jA c vc vt, .int .i64 (t:Nat)] F (fun r H'=> ∃ D y,HMade c t D y/\r= .tuple [pt D.b,pt D.mb].toArray/\H'=hpH D y (jaM D.C)++F):=by
 obtain⟨hc,htw,x,hx,hxc⟩:=jkM hok
 have hs:=fun A (hp:Part A F)=>jks (t:=t) (hR.part hp)
 simp only[hok] at hs
 have hmn:=fun A (hp:Part A F)=>mNew_K (hR.part hp) hc
 have hcfg:=jaz hc
 have htl:=jl hx
 have hx0r:List.replicate (wordsP c ((t:Nat):Int)).toNat (0:Int)=List.replicate (gOf c (t:Nat)).words 0:=by
  have ht:Jh c t 0=true:=jbl (i:=t) (j:=0) hc htl Bh
  have h1:=(g_at ht).region
  have h3:jav c ((t:Nat):Int)=(wordsP c ((t:Nat):Int),0):=by unfold jav;rw [if_pos ht]
  rw[h3] at h1;rw[(Prod.mk.inj h1).1]
  rfl
 have hn:=fun A (m:Jy) (hp:Part A F) okm (hm:m.R=mR (fun t=>wordsP c (t:Nat)) c.tn.length)=>hpNew_K (w0:=w0) (F:=A) (m:=m) hG (hR.part hp) hc hx okm (by rw[hm,mR_get htl];exact congrArg some hx0r)
 obtain⟨hS,hT',o1,o2,l1,l2⟩:=hR
 simp only[jA,jV] at hs hmn hn|-;refine en2 28 Tryz.func4 ?_;refine yr3 ?_;intro b2;refine yr10 ?_;refine jj (hs _ ja) ?_;refine yr10 ?_;refine Jx (hmn _ ja) ?_;rintro _ _ ⟨m,okm,hmR,rfl,rfl⟩;refine yr13 ?_;refine je (hn ((b2,cells [vc, .int .i64 c.page,vt, .int .i64 c.workers, .int .i64 c.grey, .int .i64 c.gens] 25)::F) m ja okm hmR) ja ?_;rintro _ _ ⟨D,y,k1,k2,e1,e2,e3,e4,_,rfl,rfl⟩;refine yr16 ?_;rw[<-e4];exact KE.fin jd rfl jc ja ⟨D,y,⟨k1,k2,e1,⟨x,hx,e2⟩,e3.trans hmR⟩,rfl,rfl⟩
end
set_option maxRecDepth 100000
def hxC:Cfg:=⟨[2,4],8,[⟨20,8,4,1⟩,⟨4,1,1,0⟩],1,2,3⟩
def hxT:Tn:=⟨20,8,4,1⟩
def hxH:HpC:=hC0 hxC 0 hxT
def hx0:HpP:=jaM hxH
def hx1:HpP:=(Js hxH hx0 ⟨1,0,1,1,0⟩).2
def hx2:HpP:=(Js hxH hx1 ⟨1,0,0,1,0⟩).2
def hx3:HpP:=(Js hxH hx2 ⟨3,1,0,0,4294967297⟩).2
def hx4:HpP:=(Js hxH hx3 ⟨6,4294967297,0,0,0⟩).2
def hx5:HpP:=(Js hxH hx4 ⟨2,1,0,0,0⟩).2
def hx6:HpP:=(Js hxH hx5 ⟨1,0,0,1,0⟩).2
theorem hx_ok:okS hxC 0=true:=by kernel_rfl
theorem hx_a:(Js hxH hx0 ⟨1,0,1,1,0⟩).1=⟨0,1,0,24,4,4,0,false⟩:=by kernel_rfl
theorem hx_b:(Js hxH hx1 ⟨1,0,0,1,0⟩).1=⟨0,4294967297,0,0,6,6,0,false⟩:=by kernel_rfl
theorem hx_c:(Js hxH hx2 ⟨3,1,0,0,4294967297⟩).1=⟨0,0,0,24,6,6,0,false⟩:=by kernel_rfl
theorem hx_d:(Js hxH hx3 ⟨6,4294967297,0,0,0⟩).1=⟨0,0,0,0,6,6,0,false⟩:=by kernel_rfl
theorem hx_e:(Js hxH hx4 ⟨2,1,0,0,0⟩).1=⟨0,8589934593,0,24,6,6,0,false⟩:=by kernel_rfl
theorem hx_f:(Js hxH hx5 ⟨1,0,0,1,0⟩).1=⟨0,12884901889,0,2,8,0,0,true⟩:=by kernel_rfl
theorem hx_g:(Js hxH hx6 ⟨2,1,0,0,0⟩).1=⟨0,4294967298,0,24,8,0,1,false⟩:=by kernel_rfl
theorem HeI.new {C:HpC} (hC:j6 C):HeI C (jaM C):=by
 refine⟨jg9 hC.long hC.nw,rfl,⟨Nat.zero_le _,Nat.zero_le _,Nat.zero_le _,Nat.zero_le _⟩,fun e he=>?_,List.length_replicate ..⟩
 have:=List.eq_of_mem_replicate he
 subst this;exact⟨Int.le_refl 1,hC.gn.1⟩
open Go.RowKit Go.ChangeShapes Go.WideShapes Go.ChangeAt Go.Deep Go.Joins
theorem jhB {H:Type} {P:Program} {e:TypeId} {n:Nat} {d:DataW H}: ∀ {l:List (DataW H)},d∈l->n∈d.weights P e->n∈DataW.weightsAll P e l
 |a::l,h,hn=>by
  simp only[DataW.weightsAll,List.mem_append]
  rcases List.mem_cons.1 h with rfl|h
  ·exact .inl hn
  ·exact .inr (jhB h hn)
theorem jil {P:Program} {α:Type} {E:Enc α} {H:Type} {enc:TypeId × Value->H} {W:World} {t e:TypeId} (ht:P.underlying t=some (.slice e)) (hk:P.cellsOf e=E.sz) (hk0:0<E.sz) {fuel:Nat} {cs:List Value} {x:DataW H × List MemPlace}
  (hf:DataW.trod enc P W 0 (fun _=>true) true fuel t cs=some x) (hz: ∀ n∈x.1.weights P t,n<=reachBytes) (Ok:α->Prop)
  (hR: ∀ fuel cs x,DataW.trod enc P W 0 (fun _=>true) true fuel e cs=some x->(∀ n∈x.1.weights P e,n<=reachBytes)->cs.length=E.sz-> ∃ y,cs=E.enc y/\Ok y):
  ∃ a n c ys,cs=[.slice a n c]/\SlW W E (.slice a n c) ys/\(∀ y∈ys,Ok y)/\ys.length*P.bytesOf e<=reachBytes:=by
 rcases open_slice ht hf with⟨hcs,_⟩|⟨a',len',cap',m,n,D,Pl,hcs,_,hl,hm,hmm,hxd,hx⟩
 ·exact⟨none,0,0,[],hcs,SlW.nil W E,(fun y hy=>by cases hy),by simp⟩
 ·simp only[if_true] at hmm;subst hmm;subst hxd;simp only[DataW.weights,ht] at hz
  have key: ∀ i,i<len'-> ∃ y,Ok y/\ ∀ j,j<E.sz->W.cell? (a'.add (i*E.sz+j))=(E.enc y)[j]? :=by
   intro i hi
   obtain⟨cs',h1,h2⟩:=hx i bc
   rw[hk] at h1
   obtain⟨_,hlen,hat⟩:=World.cells?_some h1
   obtain⟨y,rfl,hy⟩:=hR _ _ _ h2 (fun n hn=>hz n (by
    refine List.mem_cons_of_mem _ (List.mem_append_left _ (jhB (d:=D i) ?_ hn))
    exact List.mem_map_of_mem (List.mem_range.2 hi))) hlen
   exact⟨y,hy,fun j hj=>by rw[<-add_add];exact hat j hj⟩
  obtain⟨ys,hys,hall⟩:=jhN len' (fun i y=>Ok y/\ ∀ j,j<E.sz->W.cell? (a'.add (i*E.sz+j))=(E.enc y)[j]?) key
  subst hys
  have hspot:0<ys.length-> ∃ b off,a'=⟨b,off,none⟩:=by
   intro hpos
   obtain⟨b,off,spot⟩:=a'
   obtain⟨y0,_,hc0⟩:=key 0 hpos
   have h1:=hc0 0 hk0
   rw[List.getElem?_eq_getElem (by rw[E.len];exact hk0)] at h1
   have hsp:spot=none:=by simpa [Addr.add] using World.cell?_spot h1
   subst hsp;exact⟨b,off,rfl⟩
  refine⟨some a',ys.length,_,ys,hcs,⟨⟨some a',_,rfl,hl,hm,fun hne=>?_⟩,?_⟩,?_,?_⟩
  ·obtain⟨b,off,rfl⟩:=hspot (List.length_pos_iff.2 hne)
   exact⟨b,off,rfl⟩
  ·intro i y hy j u hu
   have hi:=(List.getElem?_eq_some_iff.1 hy).1
   obtain⟨b,off,rfl⟩:=hspot bc
   have hj:j<E.sz:=by have:=(List.getElem?_eq_some_iff.1 hu).1;rwa[E.len] at this
   have:=(hall i y hy).2 j hj
   rw[jbq,hu] at this
   simpa [adr] using this
  ·intro y hy
   obtain⟨i,hi⟩:=List.getElem?_of_mem hy
   exact(hall i y hi).1
  ·have:=hz _ (List.mem_cons_self ..)
   simp only[List.length_map,List.length_range] at this;refine Nat.le_trans (Nat.mul_le_mul_right _ ?_) this
   omega
section
variable {H : Type} {enc : TypeId × Value -> H} {W : World}
theorem tn_in {fuel:Nat} {cs:List Value} {x:DataW H × List MemPlace} (hx:DataW.trod enc Tryz.prog W 0 (fun _=>true) true fuel 59 cs=some x) (hlen:cs.length=4): ∃ y:Tn,cs=tnE.enc y/\True:=by
 obtain⟨c0,c1,c2,c3,rfl⟩: ∃ c0 c1 c2 c3,cs=[c0,c1,c2,c3]:=by
  match cs,hlen with
  | [c0,c1,c2,c3],_=>exact⟨c0,c1,c2,c3,rfl⟩
 obtain⟨xs,n,_,rfl,hl,hxl,hf⟩:=DataW.trod_struct Tryz.underlying59 hx
 have ki:(Tryz.prog).cellsOf 3=1:=by kernel_rfl
 match xs,hxl with
 | [y0,y1,y2,y3],_=>
  have h0:=hf 0 _ rfl
  have h1:=hf 1 _ rfl
  have h2:=hf 2 _ rfl
  have h3:=hf 3 _ rfl
  obtain⟨a0,e0,-,w0⟩:=DataW.trod_int Tryz.underlying3 (by simpa [ki] using h0)
  obtain⟨a1,e1,-,w1⟩:=DataW.trod_int Tryz.underlying3 (by simpa [ki] using h1)
  obtain⟨a2,e2,-,w2⟩:=DataW.trod_int Tryz.underlying3 (by simpa [ki] using h2)
  obtain⟨a3,e3,-,w3⟩:=DataW.trod_int Tryz.underlying3 (by simpa [ki] using h3)
  simp at e0 e1 e2 e3
  subst e0 e1 e2 e3;exact⟨⟨a0,a1,a2,a3⟩,rfl,trivial⟩
theorem cfg_v {base:Nat} {v:Value} {d:DataW H} {p:List MemPlace} (ho:Value.okWide Tryz.prog W .any base 25 v) (h:DataW.Trod enc Tryz.prog W 0 (fun _=>true) true 25 v d p) (hz: ∀ n∈d.weights Tryz.prog 25,n<=reachBytes):
  ∃ (c:Cfg) (vc vt:Value),v=jA c vc vt/\SlW W iE vc c.cl/\Jl W [] c vc vt/\vc.oneCell'=true:=by
 obtain⟨cs,rfl,hs⟩:=okWide_struct Tryz.underlying25 ho
 have k6:(Tryz.prog).cellsOf 25=6:=by kernel_rfl
 rw[k6] at hs
 obtain⟨fuel,hf⟩:=h
 obtain⟨c0,c1,c2,c3,c4,c5,hcs⟩: ∃ c0 c1 c2 c3 c4 c5,cs=[c0,c1,c2,c3,c4,c5].toArray:=by
  obtain⟨l⟩:=cs
  match l,hs with
  | [c0,c1,c2,c3,c4,c5],_=>exact⟨c0,c1,c2,c3,c4,c5,rfl⟩
 subst hcs
 obtain⟨xs,n,_,hx,hl,hxl,hfl⟩:=DataW.trod_struct Tryz.underlying25 hf
 obtain⟨rfl,rfl⟩:=Prod.mk.inj hx
 have ks:(Tryz.prog).cellsOf 22=1:=by kernel_rfl
 have kt:(Tryz.prog).cellsOf 23=1:=by kernel_rfl
 have ki:(Tryz.prog).cellsOf 3=1:=by kernel_rfl
 have b1:(Tryz.prog).bytesOf 3=8:=by kernel_rfl
 have b2:(Tryz.prog).bytesOf 59=32:=by kernel_rfl
 match xs,hxl with
 | [y0,y1,y2,y3,y4,y5],_=>
  have h0:=hfl 0 _ rfl
  have h1:=hfl 1 _ rfl
  have h2:=hfl 2 _ rfl
  have h3:=hfl 3 _ rfl
  have h4:=hfl 4 _ rfl
  have h5:=hfl 5 _ rfl
  simp only[DataW.weights,Tryz.underlying25] at hz
  obtain⟨a0,n0,m0,ys,e0,hS,_,hb⟩:=jil (P:=Tryz.prog) (E:=iE) (x:=y0) Tryz.underlying22 bu bn (by simpa [ks,Value.cells] using h0) (fun n hn=>hz n (DataW.weights_mem_each (j:=0) (t:=22) (d:=y0.1) rfl rfl n hn)) i64ok (fun fuel cs x hx _ hl=>int_in hx)
  obtain⟨a1,e1,-,w1⟩:=DataW.trod_int Tryz.underlying3 (by simpa [ki,Value.cells] using h1)
  obtain⟨a2,n2,m2,ts,e2,hT,_,hb2⟩:=jil (P:=Tryz.prog) (E:=tnE) (x:=y2) Tryz.underlying23 bu bn (by simpa [kt,Value.cells] using h2) (fun n hn=>hz n (DataW.weights_mem_each (j:=2) (t:=23) (d:=y2.1) rfl rfl n hn)) (fun _=>True) (fun fuel cs x hx _ hl=>tn_in hx hl)
  obtain⟨a3,e3,-,w3⟩:=DataW.trod_int Tryz.underlying3 (by simpa [ki,Value.cells] using h3)
  obtain⟨a4,e4,-,w4⟩:=DataW.trod_int Tryz.underlying3 (by simpa [ki,Value.cells] using h4)
  obtain⟨a5,e5,-,w5⟩:=DataW.trod_int Tryz.underlying3 (by simpa [ki,Value.cells] using h5)
  simp[Value.cells,ks,kt,ki] at e0 e1 e2 e3 e4 e5
  subst e0 e1 e2 e3 e4 e5;rw[b1] at hb;rw[b2] at hb2;unfold reachBytes at hb hb2;exact⟨⟨ys,a1,ts,a3,a4,a5⟩,_,_,rfl,hS,⟨Sli.old hS,Sli.old hT,rfl,rfl,by show ys.length<=_;omega,by show ts.length<=_;omega⟩,rfl⟩
