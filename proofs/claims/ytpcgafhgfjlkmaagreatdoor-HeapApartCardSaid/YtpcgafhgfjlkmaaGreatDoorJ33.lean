/-The walker and the contracts that the law needs,part 33. -/
import Derived.Test.YtpcgafhgfjlkmaaGreatDoorD1
import Derived.ArgAppend
import Derived.ChangeMaps5
import Derived.Deep.Fields
import Derived.Deep.LoopGhost
import Derived.Deep.OwnRows
import Derived.Deep.Quiet
import Derived.Deep.Slices
import Derived.IntWalk
import Derived.Laws.Cells
import Derived.Laws.CopyOwn
import Derived.Laws.Externs
import Derived.Laws.FloatArith
import Derived.Laws.IdiomStrings
import Derived.Laws.NewFold
import Derived.Laws.StructEq
import Derived.Lib.BitFns
import Derived.Lib.Hide
import Derived.Lib.SmallJoins
import Derived.Lib.TrailingZeros
import Derived.Maps.RangeRun
import Derived.OrdersIn
import Derived.ProofKit
import Derived.RangeFuncBound
import Derived.RangeFuncCalls
import Derived.RangeFuncLeaves
import Derived.RangeFuncNested
import Derived.RecoverIn
import Derived.Shelf.Bits.Mul64
import Derived.Shelf.Slices.Turned
import Derived.Shelf.Spec.TrailingZeros
import Derived.Shelf.Strconv.Itoa0
import Derived.SizedLaws
import Derived.Sort.BigQuietIn
import Derived.StillTailTactics
import Derived.Test.YtpcgafhgfjlkmaaGreatDoorProg
import Derived.WalkKit
import Derived.Test.YtpcgafhgfjlkmaaGreatDoorJ28
import Derived.Test.YtpcgafhgfjlkmaaGreatDoorJ29
import Derived.Test.YtpcgafhgfjlkmaaGreatDoorJ31
import Derived.Test.YtpcgafhgfjlkmaaGreatDoorJ32
set_option linter.unusedVariables false set_option linter.unusedSimpArgs false set_option linter.unusedVariables false
set_option linter.unusedSimpArgs false
namespace Go.Proofs.YtpcgafhgfjlkmaaGreatDoor.Sw
set_option maxHeartbeats 8000000
open Go.Proofs.YtpcgafhgfjlkmaaGreatDoor renaming lo → qL, hi → qH
open Go.RowKit
set_option maxRecDepth 10000
def jdG (c:Cfg):Bool:=decide (c.cl.length≤50)&&decide (c.tn.length≤50)
theorem Small_K {w0:World} {H:jb} {c:Cfg} {vc vt:Value} (hR:Jo w0 H c vc vt):
  Call Tryz.prog w0 82 [jw c vc vt] H (fun r H'=>r= .bool (jdG c)∧H'=H):=by
 obtain⟨hS,hT',o1,o2,l1,l2⟩:=hR
 obtain⟨cl,page,tn,workers,grey,gens⟩:=c
 dsimp only at hS hT' l1 l2;simp only[jw,jT]
 have hd:jdG ⟨cl,page,tn,workers,grey,gens⟩=(decide (cl.length≤50)&&decide (tn.length≤50)):=rfl
 refine Call.enter1 (n:=13) (by rfl) Tryz.func82 rfl rfl rfl ?_
 by_cases h1:cl.length≤50
 ·by_cases h2:tn.length≤50
  ·have he:jdG ⟨cl,page,tn,workers,grey,gens⟩=true:=by grind
   refine zgN ?_;intro b1;refine zad ?_;refine zam ?_;refine zL ?_;refine zga ?_;refine zam ?_;refine zcE ?_;exact zep
  ·have he:jdG ⟨cl,page,tn,workers,grey,gens⟩=false:=by grind
   refine zgN ?_;intro b1;refine zad ?_;refine zam ?_;refine zL ?_;refine zga ?_;refine zcr ?_;refine zcE ?_;exact zep
 ·have he:jdG ⟨cl,page,tn,workers,grey,gens⟩=false:=by grind
  refine zgN ?_;intro b1;refine zad ?_;refine zcr ?_;refine zdc ?_;refine zC ?_;refine zf ?_;exact zep
set_option maxRecDepth 10000
set_option maxRecDepth 10000
set_option maxRecDepth 10000
theorem jem {t i n:Nat} (hn:n<4294967296) (hi:i<16777216):capI (capW t i n)=i:=by unfold capI capW;omega
theorem jen {t i n:Nat} (hn:n<4294967296):capG (capW t i n)=n:=by grind[capG,capW]
theorem jgr {t i n:Nat} (hn:n<4294967296) (hi:i<16777216):capT (capW t i n)=t:=by grind[capT,capW]
def jaC (T T':List jh):Prop:= ∀ (i:Nat) (e:jh),T[i]?=some e→ ∃ e',T'[i]?=some e'∧(e.gen<e'.gen∨(e'.gen=e.gen∧(e.st≠0→e'.st≠0)∧(2≤e.st→2≤e'.st)))
theorem jaC.refl {T:List jh}:jaC T T:=fun i e h=>⟨e,h, .inr ⟨rfl,fun h=>h,fun h=>h⟩⟩
theorem jaC.trans {T T' T'':List jh} (a:jaC T T') (b:jaC T' T''):jaC T T'':=fun i e h=>by
 obtain⟨e1,h1,c1⟩:=a i e h
 obtain⟨e2,h2,c2⟩:=b i e1 h1
 grind
def OldH (T:List jh) (w:Nat):Prop:= ∃ e,T[capI w]?=some e∧((capG w:Nat)<e.gen∨(e.gen=(capG w:Nat)∧e.st≠0))
def jbY (T:List jh) (w:Nat):Prop:= ∃ e,T[capI w]?=some e∧((capG w:Nat)<e.gen∨(e.gen=(capG w:Nat)∧2≤e.st))
section
variable {T T' : List jh} {w tn : Nat} {t gn : Int}
theorem OldH.le (h:OldH T w) (hl:jaC T T'):OldH T' w:=by
 obtain⟨e,h1,c⟩:=h
 obtain⟨e',h2,c'⟩:=hl _ _ h1
 refine⟨e',h2,?_⟩
 omega
theorem jbY.le (h:jbY T w) (hl:jaC T T'):jbY T' w:=by
 obtain⟨e,h1,c⟩:=h
 obtain⟨e',h2,c'⟩:=hl _ _ h1
 refine⟨e',h2,?_⟩
 omega
theorem jbY.slot (h:jbY T w):hpSlot tn T w=none:=by
 obtain⟨e,h1,c⟩:=h
 grind[hpSlot,namedT]
theorem mint_le:jaC T (jK T t):=fun i e h=>by
 grind[jK,Ju,g1,g2,jaC.refl,ja7,jx,jcd]
theorem drop_le {k:Int}:jaC T (Jm T k):=fun i e h=>by
 grind[Jm]
theorem recy_le:jaC T (Ji gn T):=fun i e h=>by
 grind[jaz,Ji]
theorem jg8 (hT:T.length≤1024) (he: ∀ e∈T,1≤e.gen∧e.gen≤2147483648) (hf:(Ju T).isSome=true):OldH (jK T t) (JG tn T)∧JG tn T≠0:=by
 grind[g1,g2,JG,jar,jK,OldH,capW,ja7,jx,jcd,jem,jen]
end
section
variable {C : HpC} {wr : Bool} {h h' : HpP}
theorem mv_tb (hC:jk C) (hI:HeI C h) (m:HpMv C wr h h'):jaC h.s.W.T h'.s.W.T:=by
 have ok:=hC.g
 cases m with
 |free h1 h2=>exact .refl
 |help h1=>rw [show _=h.s.W.T from(jfw hI.ok ok h1).2.1];exact .refl
 |step h1=>rw [show _=h.s.W.T from step_T ok hI.ok h1];exact .refl
 |begin h0=>exact .refl
 |publish h3=>exact recy_le
 | @acts a h2 _=>
  grind[jaC,doesC,does_TN,h2,drop_le]
 |word _ _ _=>exact .refl
 |read _ _ _=>show jaC _ (jK (shdC _ _ h.s _).W.T _);grind[Jh,mint_le]
 |make _ _ _ _=>exact mint_le
theorem je7 (hC:jk C) (hI:HeI C h) (m:j8 C wr h h'):jaC h.s.W.T h'.s.W.T:=
 (m.ind (I:=fun q=>HeI C q∧jaC h.s.W.T q.s.W.T) (fun a b m i=>⟨i.1.mv hC m,i.2.trans (mv_tb hC i.1 m)⟩) ⟨hI, .refl⟩).2
theorem HeI.gens (hC:jk C) (hI:HeI C h): ∀ e∈h.s.W.T,1≤e.gen∧e.gen≤2147483648:=fun e he=>by
 have:=hI.e e he;have:=hC.gn;omega
theorem HeI.T1024 (hC:jk C) (hI:HeI C h):h.s.W.T.length≤1024:=by rw[hI.n];exact hC.caps.2
def NewW (C:HpC) (h h':HpP) (w:Nat):Prop:= ∃ (T1:List jh) (t:Int),T1.length≤1024∧(∀ e∈T1,1≤e.gen∧e.gen≤2147483648)∧jaC h.s.W.T T1∧(Ju T1).isSome=true∧w=JG C.tn T1∧jaC (jK T1 t) h'.s.W.T
theorem alloc_new (hC:jk C) (hI:HeI C h) {a b:Int} (h0:(jE C h a b).1.h≠0):NewW C h (jE C h a b).2 (jE C h a b).1.h:=by
 unfold jE at h0⊢
 split at h0
 ·exact absurd rfl h0
 ·rename_i h1
  rw[if_neg h1]
  split at h0
  ·exact absurd rfl h0
  ·rename_i hk
   rw[if_neg hk]
   have m1:=jb3 (wr:=true) hC hI (k:=classI C.g (a+b+1))
   have hI1:=hI.mvs hC m1
   split at h0
   ·exact absurd rfl h0
   ·rename_i h2
    rw[if_neg h2]
    split at h0
    ·exact absurd rfl h0
    ·rename_i h3
     rw[if_neg h3]
     have m2:HpMv C true _ _:=jbV hC hI1 (not_false' h1) hk (not_false' h2) (not_false' h3)
     have hI2:=hI1.mv hC m2
     exact⟨_,_,hI1.T1024 hC,hI1.gens hC,je7 hC hI m1,freeB_some (not_false' h3),rfl,je7 hC hI2 (jg5 (wr:=true) hC hI2)⟩
theorem read_new (hC:jk C) (hI:HeI C h) {sl a k:Int} (hs:slotT h.s.W.T k=some sl) (h0:(JF C h sl a).1.h≠0):NewW C h (JF C h sl a).2 (JF C h sl a).1.h:=by
 unfold JF at h0⊢
 split at h0
 ·exact absurd rfl h0
 ·rename_i h1
  rw[if_neg h1]
  split at h0
  ·exact absurd rfl h0
  ·rename_i h2
   rw[if_neg h2]
   split at h0
   ·exact absurd rfl h0
   ·rename_i h3
    rw[if_neg h3]
    have m1:=jcS (wr:=true) hC hI (is:=j5)
    have hI1:=hI.mvs hC m1
    split at h0
    ·exact absurd rfl h0
    ·rename_i h4
     rw[if_neg h4];refine⟨_,(refP h.s.W.x C.g.slots (ju C.g sl) a).1,hI1.T1024 hC,hI1.gens hC,je7 hC hI m1,freeB_some (not_false' h4),rfl,?_⟩
     show jaC _ (jK (shdC _ _ _ _).W.T _)
     rw[Jh];exact .refl
theorem does_new (hC:jk C) (hI:HeI C h) {op:OpP} (h0:(jt C h op).1.h≠0):NewW C h (jt C h op).2 (jt C h op).1.h:=by
 unfold jt at h0⊢
 split at h0
 ·exact absurd rfl h0
 ·rename_i h1
  rw[if_neg h1]
  split at h0
  ·rename_i h2
   rw[if_pos h2];exact alloc_new hC hI h0
  ·rename_i h2
   rw[if_neg h2]
   cases hs:hpSlot C.tn h.s.W.T op.h with
   |none=>rw [hs] at h0;exact absurd rfl h0
   |some sl=>
    rw[hs] at h0;dsimp only at h0⊢;unfold hpOp at h0⊢
    split at h0
    ·rename_i h3
     rw[if_pos h3];exact read_new hC hI (jai hs) h0
    ·exfalso
     apply h0
     split
     ·unfold JZ
      split
      ·rfl
      ·split
       ·rfl
       ·split<;>rfl
     ·split
      ·rfl
      ·split
       ·unfold jbj;split<;>rfl
       ·split<;>rfl
theorem do_h {op:OpP}:(hpDo C h op).1.h=if (jt C {h with wk:=0} op).1.e=0 then(jt C {h with wk:=0} op).1.h else 0:=by
 unfold hpDo ja1
 split<;>rfl
theorem jel (hC:jk C) (hI:HeI C h) {op:OpP} (h0:(hpDo C h op).1.h≠0):NewW C h (hpDo C h op).2 (hpDo C h op).1.h:=by
 rw[do_h] at h0⊢
 split at h0
 ·rename_i h1
  rw[if_pos h1]
  have hI0:HeI C {h with wk:=0}:=hI.mv hC (wr:=true) (.free rfl fun h=>h)
  exact does_new (h:={h with wk:=0}) hC hI0 h0
 omega
end
open Go.RowKit
set_option maxRecDepth 10000
section
variable {w0 : World} {F : jb} {y : CyM} {s : CyP} {g : PlG} {long : Nat}
set_option maxHeartbeats 4000000 in
theorem jkI (hG:js w0) (h:CpR g long y s):
  Call Tryz.prog w0 245 [.pointer (some ⟨y.b,0,none⟩)] (cycH y++F) (fun r H'=>r= .bool (jZ g long s).isSome∧CyQ g long y 0 F ((jZ g long s).getD s) H'):=by
 have okg:jc g:=by rw[←h.eg];exact h.p.bo.p.g
 have hls:=h.le.s
 have hlm:=h.le.m
 have hst:s.st≤100000000:=by omega
 have hmst:s.m.steps≤1000000000:=by omega
 by_cases h1:s.ph=1
 ·have hss:jZ g long s=(jae g long s.W s.m).map fun m'=>madeC g {s with m:=m'}:=by unfold jZ;rw [if_pos h1]
  have hstep:=fun A=>mkHelp_K (w0:=w0) (F:=A) hG h.p h.ok h.R (by rw[h.eg,h.el];exact h.i.m) hmst
  unfold ja5 at hstep;rw[h.eg,h.el] at hstep;simp only[seenH_app] at hstep
  cases hm:jae g long s.W s.m with
  |some m'=>
   obtain⟨hk,hu,hku⟩:=jdk hm
   have hle:=h.le.help okg h.i (s':=madeC g {s with m:=m'}) (by rw[hss,hm];rfl)
   rw[hss];simp only[hm,Option.map_some,Option.isSome_some,Option.getD_some] at hstep⊢
   have hmk:=fun A k' kok kto kR=>jfQ (w0:=w0) (F:=A) hG (h.toCpM.mark (k':=k') (m':=m') kok kto kR) h.eg (by show CyPre g k'.g.ring.length _;rw [kto.l,h.el];exact jdz okg h.i h1 hku) hst
   have hR:=fun k' kok kto kR=>h.mark (k':=k') h1 hku hle kok kto kR
   have hT:=fun k' kto=>mark_to (k':=k') (m':=m') (ph:=(madeC g {s with m:=m'}).ph) (sa:=(madeC g {s with m:=m'}).sa) h kto
   unfold CyQ
   obtain⟨s',hs'⟩: ∃ s',madeC g {s with m:=m'}=s':=⟨_,rfl⟩
   simp only[hs'] at hmk hR hT⊢;refine zjz ?_;refine zck ?_;refine zju ?_;unfold bndV;refine zjA ?_;refine zq fun T hT=>?_;refine zjv ?_;rintro _ _ ⟨rfl,k',kok,kto,kR,rfl⟩;refine zd ?_;clear hT T;refine zq fun T hT=>?_;refine(CallV.part (CallV.fn (hmk _ k' kok kto kR)) (by simp only[cycH_app,kto.b];exact ja)).mono ?_;rintro _ _ ⟨rfl,rfl⟩;refine zd ?_;clear hT T;refine zf ?_;exact KE.fin je rfl jd ja ⟨rfl,_,hR k' kok kto kR,hT k' kto,rfl⟩
  |none=>
   rw[hss];simp only[hm,Option.map_none,Option.isSome_none,Option.getD_none] at hstep⊢
   have hR:=fun k' kok kto kR=>CpR.mk (h.toCpM.mark (k':=k') (m':=s.m) kok kto kR) h.eg (kto.l.trans h.el) h.i h.le
   have hT:=fun k' (kto:MkTo y.k k')=>(⟨rfl,(jbz h.p.bo).symm,rfl,rfl,rfl,rfl,kto.toMkAs,kto.f,rfl,rfl⟩:JB y {y with k:=k'} s.W.x 0)
   unfold CyQ;refine zjz ?_;refine zck ?_;refine zju ?_;unfold bndV;refine zjA ?_;refine zq fun T hT=>?_;refine zjv ?_;rintro _ _ ⟨rfl,k',kok,kto,kR,rfl⟩;refine zd ?_;clear hT T;refine ziF ?_;refine zf ?_;exact zlW
 ·by_cases h2:s.ph=2
  ·obtain⟨s',b,hs,hM,hcall⟩:=jjM (w0:=w0) h h2
   have hss:jZ g long s=some (madeC g s'):=by unfold jZ;rw [if_neg h1,if_pos h2,hs];rfl
   have hle:=h.le.help okg h.i hss
   have hcy:=jcu okg h.i h2 hs
   rw[hss];simp only[Option.isSome_some,Option.getD_some]
   have hmk:=fun A=>jfQ (w0:=w0) (F:=A) hG hM h.eg (by show CyPre g y.k.g.ring.length _;rw [h.el];exact hcy.1) (by rw[hcy.2.2.2.2.2.2.2];exact hst)
   have hR:=h.sweep h2 hs hM hle
   have hT:JB y (jcD (jbS y s'.W.x b) (madeC g s').ph (madeC g s').sa) (madeC g s').W.x 0:=by rw[jig];exact jj2
   unfold CyQ
   obtain⟨q,hq⟩: ∃ q,madeC g s'=q:=⟨_,rfl⟩
   rw[hq] at hmk hR hT⊢;refine zjz ?_;refine zll ?_;rintro _ _ ⟨bl,rfl,rfl⟩;unfold bndV;refine zjA ?_;refine zq fun T hT=>?_;refine(CallV.part (CallV.bound (first:=[.pointer (some ⟨y.s.b,0,none⟩)]) (hcall _)) ja).mono ?_;rintro _ _ ⟨rfl,rfl⟩;refine zd ?_;clear hT T;refine zn ?_;refine ji (hmk _) ja ?_;refine zf ?_;exact KE.fin je rfl jd ja ⟨rfl,_,hR,hT,rfl⟩
  ·have hss:jZ g long s=none:=by unfold jZ;rw [if_neg h1,if_neg h2]
   rw[hss];simp only[Option.isSome_none,Option.getD_none]
   have hQ:=fun A=>CpR.refl (F:=A) h
   refine zjz ?_;refine zck ?_;refine ji (jjL (by rw[h.ph];exact h1) (by rw[h.ph];exact h2)) ja ?_;refine zjA ?_;refine zn ?_;refine jq cyw3_K ?_;refine ziF ?_;exact zlj
structure HpS where
 n:Nat
 y:CyM
 s:CyP
theorem jmr {z:CyP} (hG:js w0) (h:CpR g long y z) (h0:z.ph≠0):
  Call Tryz.prog w0 269 [.pointer (some ⟨y.b,0,none⟩)] (cycH y++F) (fun r H'=> ∃ (n:Nat) (s':CyP),r= .tuple [.int .i64 (n:Nat), .int .i64 0].toArray∧jaK g long z n s'∧jZ g long s'=none∧s'.ph=3∧CyQ g long y 0 F s' H'):=by
 have okg:jc g:=by rw[←h.eg];exact h.p.bo.p.g
 have h0': ¬((y.ph:Nat):Int)=0:=by rw[h.ph];omega
 have hh:=fun A (y':CyM) (s':CyP) (h:CpR g long y' s')=>jkI (w0:=w0) (F:=A) hG h
 refine Call.enter1 (n:=18) (by rfl) Tryz.func269 rfl rfl rfl ?_;refine zeY ?_;refine zaP ?_;refine ji (cynone_K (y:=y)) ja ?_;simp only[cycH_app];refine zau ?_;refine zbj ?_;refine zeK ?_;refine zdd ?_;refine KE.next (K.seq (K.block ?_));refine K.loopT (σ:=HpS) [(0,_)] (fun s kp_=>(2, .int .i64 (s.n:Nat))::kp_) (fun s=>cycH s.y++F) (fun s=>CpR g long s.y s.s∧JB y s.y s.s.W.x 0∧jaK g long z s.n s.s) (fun s=>Jj g s.s) (⟨0,y,z⟩) jj (by first|exact ja|(simp only[cycH_app,seenH_app];exact ja)) (⟨h,JB.refl h.toCpM, .refl⟩) ?_;rintro⟨n,y1,z1⟩ ⟨h1,t1,hp⟩;dsimp only at h1 t1 hp⊢
 have hst:=(hp.ok okg h.i).st
 have hph:=(hp.ok okg h.i).ph
 have hls:=h1.le.s
 have hn8:n≤100000000:=by omega
 have hh1:=fun A=>hh A y1 z1 h1
 rw[t1.b] at hh1
 cases hs:jZ g long z1 with
 |some z2=>
  rw[hs] at hh1;simp only[Option.isSome_some,Option.getD_some] at hh1
  have hm:=jdr okg h1.i hs
  refine zc3 ?_;refine zo ?_;refine j4 (hh1 _) ja ?_;rintro _ _ ⟨rfl,y2,h2,t2,rfl⟩;refine KL.nil (KE.next (K.condT rfl (K.skip (KE.next (K.block (K.region ?_))))));refine ze ?_;refine zea ?_;refine zbD ?_;exact KE.again ⟨n+1,y2,z2⟩ jj ja ⟨h2,t1.trans t2, .snoc hp hs⟩ hm
 |none=>
  rw[hs] at hh1;simp only[Option.isSome_none,Option.getD_none] at hh1
  have h3:=jjE okg h1.i (by omega) hs
  refine zc3 ?_;refine zo ?_;refine j4 (hh1 _) ja ?_;rintro _ _ ⟨rfl,y2,h2,t2,rfl⟩;refine zdh ?_;refine zbl ?_;exact KE.fin je rfl jd ja ⟨n,z1,rfl,hp,hs,h3,y2,h2,t1.trans t2,rfl⟩
end
set_option maxRecDepth 10000
section
variable {w0 : World} {F : jb} {y : CyM} {s : CyP} {g : PlG} {long : Nat}
theorem CpR.okg (h:CpR g long y s):jc g:=by rw[←h.eg];exact h.p.bo.p.g
theorem CpR.T1024 (h:CpR g long y s):s.W.T.length≤1024:=by rw[←h.p.eT];exact h.p.tb.n.2
theorem cyBegin_K (h:CpR g long y s) (h0:s.ph=0) (hf:y.k.c.f≤1000000):
  Call Tryz.prog w0 272 [.pointer (some ⟨y.b,0,none⟩)] (cycH y++F) (fun r H'=>r= .int .i64 0∧CyQ g long y 1 F (beginC g s) H'):=by
 have okg:=h.okg
 have hlg:=h.ok.g.l
 have hno:=fun A=>cynone_K (w0:=w0) (F:=A) (y:=y)
 have hac:=(h.i.p0 h0).1
 have hms:=fun A=>mkStart_K (w0:=w0) (F:=A) h.ok (h.R.act.trans hac) hf
 have hle:=JY.begin (s:=s) okg h.T1024
 have hl1:1≤long:=by rw[←h.el];exact hlg.1
 have hcy:=jhP okg hl1 h.i h0
 have hR: ∀ k',MkOk k' y.B.p→MkNil k' y.B.p→MkAs y.k k'→k'.act=true→CpR g long {y with k:=k',ph:=1,st:=0} (beginC g s):=fun k' kok kn ka kt=>by
  refine⟨⟨⟨h.p.bo,h.p.tb,h.p.pi,h.p.eT,h.p.eN,ka.bb.trans h.p.bb,ka.tb.trans h.p.tbb,ka.nb.trans h.p.nb,h.p.w⟩,kok,?_,h.oka,h.A,h.oks,h.sa,h.at_,h.D,h.ab,h.bb,h.mb.trans ka.b.symm,rfl,rfl,by show k'.hs.length=_;rw [ka.n];exact h.nw⟩,h.eg,ka.l.trans h.el,hcy,hle⟩
  show MkR k' y.B.p (J5 g (s.m.hs.length-1) true)
  rw[←h.eg];exact nil_R kn (by rw[ka.l];exact hlg.1) kt (by have:=h.R.hs;rw [ka.n,h.nw,←this,h.nw];rfl)
 have hT: ∀ k',MkAs y.k k'→k'.c.f=y.k.c.f+1→JB y {y with k:=k',ph:=1,st:=0} (beginC g s).W.x 1:=fun k' ka kf=>⟨rfl,(jbz h.p.bo).symm,rfl,rfl,rfl,rfl,ka,kf,rfl,rfl⟩
 have e0:y.ph=0:=h.ph.trans h0
 unfold CyQ
 obtain⟨s',hs'⟩: ∃ s',beginC g s=s':=⟨_,rfl⟩
 rw[hs'] at hR hT;rw[hs'];clear hs' hle hcy h hac h0 hf
 obtain⟨yb,B,a,T,N,k,sp,nw,ph,st⟩:=y
 dsimp only at*;subst e0;refine Call.enter1 (n:=23) (by kernel_rfl) Tryz.func272 rfl rfl rfl ?_;refine zae ?_;refine zaP ?_;refine zgB ?_;simp only[cycH_app,seenH_app];refine zau ?_;refine zbj ?_;refine zp ?_;refine zaE ?_;refine zay ?_;refine zcy ?_;refine zbu ?_;refine zfK ?_;refine zaL ?_;refine zaw ?_;refine zcF ?_;refine zV ?_;refine j4 (hms _) ja ?_;rintro _ _ ⟨rfl,k',kok,kn,ka,kt,kf,rfl⟩;refine zf ?_;exact KE.fin (H':=cycH ⟨yb,B,a,T,N,k',sp,nw,1,0⟩++F) je rfl jd (by simp only[cycH_app,ka.b];exact ja) ⟨rfl,_,hR k' kok kn ka kt,hT k' ka kf,by simp only[cycH_app]⟩
set_option maxHeartbeats 1000000 in
theorem jlI (hG:js w0) (h:CpR g long y s) (h3:s.ph=3):
  Call Tryz.prog w0 270 [.pointer (some ⟨y.b,0,none⟩)] (cycH y++F) (fun r H'=>r= .tuple [.int .i64 (s.D.count true:Nat), .int .i64 (recyN y.T.gens s.W.T:Nat), .int .i64 0].toArray∧CyQ g long y 0 F (publishC g y.T.gens s) H'):=by
 have okg:=h.okg
 obtain⟨p1,p2,p3⟩:=h.i.p3 h3
 have hno:=fun A=>cynone_K (w0:=w0) (F:=A) (y:=y)
 have hdone:jbW y.s=true:=by
  unfold jbW;rw[h.sa,p2,h.oks.dn,h.at_,p3,h.eg];simp
 have hst:=fun A=>spStop_K (w0:=w0) (F:=A) hG h.oks h.oka hdone h.ab
 have hrc:=fun A=>jls (w0:=w0) (F:=A) h.p.tb
 have hmk:=fun A=>mkStop_K (w0:=w0) (F:=A) (B:=y.B) (h.R.act.trans p1)
 have hcy:=jfi h.i h3 y.T.gens
 have hle:=h.le.publish y.T.gens
 rw[h.D] at hst;rw[h.p.eT] at hrc
 have hR: ∀ (a':ArM) (s':SpM),TbOk ⟨y.T.b,Ji y.T.gens s.W.T,y.T.gens,y.T.o⟩→jah a' y.B.p→a'.b=y.a.b→a'.r.bs=(jaZ y.a.r.bs s.D).2→SpOk s' y.B.p.g.slots→s'.ab=y.s.ab→s'.bb=y.s.bb→s'.mb=y.s.mb→s'.at_=0→s'.act=false→s'.d.bs=List.replicate y.B.p.g.slots false→
   CpR g long {y with a:=a',s:=s',T:=⟨y.T.b,Ji y.T.gens s.W.T,y.T.gens,y.T.o⟩,k:={y.k with act:=false},ph:=0} (publishC g y.T.gens s):=fun a' s' kT ka ab abs ks e1 e2 e3 e4 e5 e6=>by
  refine⟨⟨⟨h.p.bo,kT,h.p.pi,rfl,h.p.eN,h.p.bb,h.p.tbb,h.p.nb,by rw[h.eg];exact hcy.w⟩,⟨h.ok.c,h.ok.g,h.ok.n,h.ok.o,h.ok.hs⟩,⟨h.R.C,h.R.G,h.R.hs,h.R.root,rfl,h.R.steps⟩,ka,?_,ks,e5,e4,?_,e1.trans (h.ab.trans ab.symm),e2.trans h.bb,e3.trans h.mb,rfl,h.st,h.nw⟩,h.eg,h.el,hcy,hle⟩
  ·show a'.r.bs=(jaZ s.A s.D).2;rw [abs,h.A]
  ·show s'.d.bs=List.replicate g.slots false;rw [e6,h.eg]
 have hT: ∀ (a':ArM) (s':SpM),a'.b=y.a.b→s'.b=y.s.b→JB y {y with a:=a',s:=s',T:=⟨y.T.b,Ji y.T.gens s.W.T,y.T.gens,y.T.o⟩,k:={y.k with act:=false},ph:=0} (publishC g y.T.gens s).W.x 0:=fun a' s' ab sb=>⟨rfl,(jbz h.p.bo).symm,ab,rfl,rfl,rfl,⟨rfl,rfl,rfl,rfl,rfl,rfl⟩,rfl,sb,rfl⟩
 have e0:y.ph=3:=h.ph.trans h3
 unfold CyQ
 obtain⟨s2,hs'⟩: ∃ s2,publishC g y.T.gens s=s2:=⟨_,rfl⟩
 rw[hs'] at hR hT;rw[hs'];clear hs' hle hcy hdone
 obtain⟨yb,B,a,T,N,k,sp,nw,ph,st⟩:=y
 dsimp only at*;subst e0;refine Call.enter1 (n:=37) (by kernel_rfl) Tryz.func270 rfl rfl rfl ?_;refine zae ?_;refine zch ?_;refine zaP ?_;refine zgB ?_;simp only[cycH_app,seenH_app];refine zau ?_;refine zbj ?_;refine zp ?_;refine zaE ?_;refine zay ?_;refine zcD ?_;refine zV ?_;refine j4 (hst _) ja ?_;rintro _ _ ⟨rfl,a',s',ka,ab,arb,abs,ks,sb,e1,e2,e3,e4,e5,e6,rfl⟩;refine za3 ?_;refine zu ?_;refine zK ?_;refine zct ?_;refine zV ?_;refine j4 (hrc _) ja ?_;rintro _ _ ⟨rfl,kT,rfl⟩;refine zu ?_;refine zcF ?_;refine zV ?_;refine ji (hmk _) ja ?_;refine zW ?_;refine zbj ?_;refine zaw ?_;refine zm ?_;refine zch ?_;refine zf ?_;exact KE.fin (H':=cycH ⟨yb,B,a',⟨T.b,Ji T.gens s.W.T,T.gens,T.o⟩,N,{k with act:=false},s',nw,0,st⟩++F) je rfl jd (by simp only[cycH_app,ab,sb];exact ja) ⟨rfl,_,hR a' s' kT ka ab abs ks e1 e2 e3 e4 e5 e6,hT a' s' ab sb,by simp only[cycH_app]⟩
theorem CpR.shade {k':MkM} {t:Nat} (h:CpR g long y s) (h1:s.ph=1) (ht:t<g.slots) (kok:MkOk k' y.B.p) (kto:MkTo y.k k') (kR:MkR k' y.B.p (jb9 g long s.m (t:Nat))):CpR g long {y with k:=k'} (shdC g long s (t:Nat)):=by
 have e:shdC g long s (t:Nat)={s with m:=jb9 g long s.m (t:Nat)}:=by
  unfold shdC j7;rw [if_pos h1,if_pos ⟨by omega,by omega⟩]
 have h1:=h.i.shd h.okg (t:Nat)
 have h2:=h.le.shd h.okg h.i (t:Nat)
 rw[e] at h1 h2⊢;exact⟨h.toCpM.mark kok kto kR,h.eg,kto.l.trans h.el,h1,h2⟩
theorem cyShade_K {t:Nat} (h:CpR g long y s) (ht:t<g.slots):Call Tryz.prog w0 191 [.pointer (some ⟨y.b,0,none⟩), .int .i64 (t:Nat)] (cycH y++F) (fun r H'=>r= .int .i64 0∧CyQ g long y 0 F (shdC g long s (t:Nat)) H'):=by
 obtain⟨c,hc⟩:=jeb h.ok (s:=t) (by rw[h.eg];omega)
 have hsh:=fun A=>mkShade_K (w0:=w0) (F:=A) h.ok h.R (by rw[h.eg];exact ht)
 rw[h.eg,h.el] at hsh
 by_cases h1:s.ph=1
 ·have e0:y.ph=1:=h.ph.trans h1
  have hR:=fun k' kok kto kR=>h.shade (k':=k') h1 ht kok kto kR
  have hW:(shdC g long s (t:Nat)).W=s.W:=Jh _
  have hT: ∀ k',MkTo y.k k'→JB y {y with k:=k'} (shdC g long s (t:Nat)).W.x 0:=fun k' kto=>⟨rfl,by rw[hW];exact(jbz h.p.bo).symm,rfl,rfl,rfl,rfl,kto.toMkAs,kto.f,rfl,rfl⟩
  unfold CyQ
  obtain⟨s2,hs'⟩: ∃ s2,shdC g long s (t:Nat)=s2:=⟨_,rfl⟩
  rw[hs'] at hR hT;rw[hs']
  have hno:=fun A=>cynone_K (w0:=w0) (F:=A) (y:=y)
  have hof:=fun A=>jc5 (w0:=w0) (F:=A) h.ok hc
  clear hs' hW h
  obtain⟨yb,B,a,T,N,k,sp,nw,ph,st⟩:=y
  dsimp only at*;subst e0;refine Call.enter2 (n:=34) (by kernel_rfl) Tryz.func191 rfl rfl rfl ?_;refine zY ?_;refine zgB ?_;simp only[cycH_app,seenH_app];refine z9 ?_;refine zcF ?_;refine zdu ?_;refine ji (hof _) ja ?_;refine zQ ?_;refine zcv ?_;refine zan ?_;refine zbu ?_;refine zai ?_;refine zed ?_;refine zR ?_;refine zca ?_;refine zdu ?_;refine j4 (hsh _) ja ?_;rintro _ _ ⟨rfl,k',kok,kto,kR,rfl⟩;refine zf ?_;exact KE.fin (H':=cycH ⟨yb,B,a,T,N,k',sp,nw,1,st⟩++F) je rfl jd (by simp only[cycH_app,kto.b];exact ja) ⟨rfl,_,hR k' kok kto kR,hT k' kto,by simp only[cycH_app]⟩
 ·have h1':((y.ph:Nat):Int)≠1:=by rw[h.ph];omega
  have e:shdC g long s (t:Nat)=s:=by unfold shdC;rw [if_neg h1]
  rw[e];unfold CyQ;refine Call.enter2 (n:=34) (by kernel_rfl) Tryz.func191 rfl rfl rfl ?_;refine zY ?_;refine ji (cynone_K (y:=y)) ja ?_;simp only[cycH_app,seenH_app];refine z9 ?_;refine zcF ?_;refine zdu ?_;refine ji (jc5 h.ok hc) ja ?_;refine zQ ?_;refine zcv ?_;refine zan ?_;refine zbu ?_;refine zai ?_;refine zag ?_;refine zC ?_;refine zf9 ?_;refine zas ?_;exact KE.fin je rfl jd (by first|exact ja|(simp only[cycH_app,seenH_app];exact ja)) ⟨rfl,y,h,JB.refl h.toCpM,rfl⟩
theorem CpR.black {c':TiM} {t:Nat} (h:CpR g long y s) (kok:MkOk {y.k with c:=c'} y.B.p) (cc:tiC c'=(if y.k.act=true then(tiC y.k.c).set t 2 else tiC y.k.c)):CpR g long {y with k:={y.k with c:=c'}} {s with m:=Jt s.m t}:=by
 obtain⟨a,b,c,d,e⟩:=jex s.m t
 refine⟨⟨⟨h.p.bo,h.p.tb,h.p.pi,h.p.eT,h.p.eN,h.p.bb,h.p.tbb,h.p.nb,h.p.w⟩,kok,⟨?_,by rw[a];exact h.R.G,by rw[b];exact h.R.hs,by rw[c];exact h.R.root,by rw[d];exact h.R.act,by rw[e];exact h.R.steps⟩,h.oka,h.A,h.oks,h.sa,h.at_,h.D,h.ab,h.bb,h.mb,h.ph,h.st,h.nw⟩,h.eg,h.el,h.i.black t,h.le.black h.i t⟩
 show tiC c'=(Jt s.m t).C
 rw[cc,h.R.C,h.R.act];unfold Jt
 split<;>rfl
theorem cyBlack_K {t:Nat} (h:CpR g long y s) (ht:t<g.slots):Call Tryz.prog w0 185 [.pointer (some ⟨y.b,0,none⟩), .int .i64 (t:Nat)] (cycH y++F) (fun r H'=>r= .int .i64 0∧CyQ g long y 0 F {s with m:=Jt s.m t} H'):=by
 have hbl:=fun A=>mkBlack_K (w0:=w0) (F:=A) h.ok (s:=t) (by rw[h.eg];exact ht)
 have hR:=fun c' kok cc=>h.black (c':=c') (t:=t) kok cc
 have hT: ∀ c',c'.f=y.k.c.f→JB y {y with k:={y.k with c:=c'}} s.W.x 0:=fun c' cf=>⟨rfl,(jbz h.p.bo).symm,rfl,rfl,rfl,rfl,⟨rfl,rfl,rfl,rfl,rfl,rfl⟩,cf,rfl,rfl⟩
 unfold CyQ;refine Call.enter2 (n:=13) (by kernel_rfl) Tryz.func185 rfl rfl rfl ?_;refine zY ?_;refine ji (cynone_K (y:=y)) ja ?_;simp only[cycH_app,seenH_app];refine zR ?_;refine zca ?_;refine zdu ?_;refine j4 (hbl _) ja ?_;rintro _ _ ⟨rfl,c',kok,cf,cc,rfl⟩;refine zf ?_;exact KE.fin (H':=cycH {y with k:={y.k with c:=c'}}++F) je rfl jd (by simp only[cycH_app];exact ja) ⟨rfl,_,hR c' kok cc,hT c' cf,by simp only[cycH_app]⟩
end
open Go.RowKit
set_option maxRecDepth 10000
section
variable {w0 : World} {F : jb} {y : CyM} {s : CyP} {g : PlG} {long : Nat}
theorem jr.words (h:jr g long s) {x':List Int} (hw:JX g {s.W with x:=x'}) (hr:ja6 g x') (hf: ∀ t:Nat,t<g.slots→0<refsN s.W.x (ju g (t:Nat))→refsN x' (ju g (t:Nat))=refsN s.W.x (ju g (t:Nat))):jr g long {s with W:={s.W with x:=x'}}:=
 ⟨⟨hw,hr,h.m.world rfl hf,h.i,h.A,h.D,h.p0,h.p1,h.p2,h.p3,h.ph,h.dn⟩,h.lt,fun e=>(jgP rfl).trans (h.go e)⟩
theorem CpR.putx {x':List Int} (h:CpR g long y s) (hw:JX g {s.W with x:=x'}) (hi:jr g long {s with W:={s.W with x:=x'}}):CpR g long {y with B:=jbd y.B x'} {s with W:={s.W with x:=x'}}:=
 ⟨⟨⟨setB_ok h.p.bo (by rw[hw.x,h.p.w.x,h.eg]) hw.w,h.p.tb,h.p.pi,h.p.eT,h.p.eN,h.p.bb,h.p.tbb,h.p.nb,by show JX y.B.p.g _;rw [h.eg];omega⟩,h.ok,h.R,h.oka,h.A,h.oks,h.sa,h.at_,h.D,h.ab,h.bb,h.mb,h.ph,h.st,h.nw⟩,h.eg,h.el,hi,h.le.world rfl⟩
theorem CpR.tab {T':TbM} {l':List jh} (h:CpR g long y s) (ok:TbOk T') (eb:T'.b=y.T.b) (el:T'.l=l') (hl:l'.length=s.W.T.length) (hi:jr g long {s with W:={s.W with T:=l'}}):CpR g long {y with T:=T'} {s with W:={s.W with T:=l'}}:=
 ⟨⟨⟨h.p.bo,ok,h.p.pi,el,h.p.eN,h.p.bb,h.p.tbb.trans eb.symm,h.p.nb,by rw[h.eg];exact hi.w⟩,h.ok,h.R,h.oka,h.A,h.oks,h.sa,h.at_,h.D,h.ab,h.bb,h.mb,h.ph,h.st,h.nw⟩,h.eg,h.el,hi,h.le.world hl⟩
theorem CpR.pin {N':PiM} {l':List Int} (h:CpR g long y s) (ok:PiOk N') (eb:N'.b=y.N.b) (el:N'.l=l') (hi:jr g long {s with W:={s.W with N:=l'}}):CpR g long {y with N:=N'} {s with W:={s.W with N:=l'}}:=
 ⟨⟨⟨h.p.bo,h.p.tb,ok,h.p.eT,el,h.p.bb,h.p.tbb,h.p.nb.trans eb.symm,by rw[h.eg];exact hi.w⟩,h.ok,h.R,h.oka,h.A,h.oks,h.sa,h.at_,h.D,h.ab,h.bb,h.mb,h.ph,h.st,h.nw⟩,h.eg,h.el,hi,h.le.world rfl⟩
theorem CpR.take {a':ArM} {A':List Bool} (h:CpR g long y s) (ok:jah a' y.B.p) (eb:a'.b=y.a.b) (eA:a'.r.bs=A') (hl:A'.length=s.A.length):CpR g long {y with a:=a'} {s with A:=A'}:=
 ⟨⟨h.p,h.ok,h.R,ok,eA,h.oks,h.sa,h.at_,h.D,h.ab.trans eb.symm,h.bb,h.mb,h.ph,h.st,h.nw⟩,h.eg,h.el,h.i.take hl,⟨h.le.m,h.le.s⟩⟩
theorem JB.words {x':List Int}:JB y {y with B:=jbd y.B x'} x' 0:=⟨rfl,rfl,rfl,rfl,rfl,rfl,⟨rfl,rfl,rfl,rfl,rfl,rfl⟩,rfl,rfl,rfl⟩
theorem jmK {A:List Bool} {k:Int}:(takeP g A k).2.2.length=A.length:=by
 grind[takeP,hi]
theorem cTake_K {k:Int} (hG:js w0) (h:CpR g long y s):Call Tryz.prog w0 183 [.pointer (some ⟨y.a.b,0,none⟩), .int .i64 k] (cycH y++F)
  (fun r H'=>r= .tuple [.int .i64 (takeP g s.A k).1, .int .i64 (takeP g s.A k).2.1].toArray∧CyQ g long y 0 F {s with A:=(takeP g s.A k).2.2} H'):=by
 have hc:=fun A=>Take_K (w0:=w0) (F:=A) (k:=k) hG h.oka
 rw[h.A,h.eg] at hc;refine zfV ?_;rintro _ _ ⟨rfl,a',ka,ab,arb,abs,rfl⟩;exact⟨_,⟨rfl,_,h.take ka ab abs jmK,⟨rfl,(jbz h.p.bo).symm,ab,rfl,rfl,rfl,⟨rfl,rfl,rfl,rfl,rfl,rfl⟩,rfl,rfl,rfl⟩,rfl⟩,by simp only[cycH_app,ab];exact ja⟩
theorem cMint_K {n:Nat} (h:CpR g long y s) (hn:n<g.slots):Call Tryz.prog w0 241 [.pointer (some ⟨y.T.b,0,none⟩), .int .i64 (n:Nat)] (cycH y++F)
  (fun r H'=>r= .tuple [.int .i64 (jar s.W.T).1, .int .u32 (jar s.W.T).2.1, .int .i64 (jar s.W.T).2.2].toArray∧CyQ g long y 0 F {s with W:={s.W with T:=jK s.W.T (n:Nat)}} H'):=by
 have okg:=h.okg
 have hsl:=okg.slots
 have hc:=fun A=>tbMint_K (w0:=w0) (F:=A) (s:=n) h.p.tb (by omega)
 rw[h.p.eT] at hc
 have hi:jr g long {s with W:={s.W with T:=jK s.W.T (n:Nat)}}:=by
  have:=h.i.world okg (a:=⟨4,(n:Nat),0,0,0,0⟩)
  rwa[jdm ⟨by omega,by omega⟩] at this
 refine zfV ?_;rintro _ _ ⟨T',kT,eb,eG,el,rfl,rfl⟩;exact⟨_,⟨rfl,_,h.tab kT eb el jbB hi,⟨rfl,(jbz h.p.bo).symm,rfl,eb,eG,rfl,⟨rfl,rfl,rfl,rfl,rfl,rfl⟩,rfl,rfl,rfl⟩,rfl⟩,by simp only[cycH_app,eb];exact ja⟩
theorem cDrop_K {i:Nat} {e:jh} (h:CpR g long y s) (he:s.W.T[i]?=some e) (h1:e.st=1):Call Tryz.prog w0 198 [.pointer (some ⟨y.T.b,0,none⟩), .int .i64 (i:Nat), .int .u32 e.gen] (cycH y++F)
  (fun r H'=>r= .tuple [.int .i64 e.slot, .int .i64 0].toArray∧CyQ g long y 0 F {s with W:={s.W with T:=Jm s.W.T (i:Nat)}} H'):=by
 have okg:=h.okg
 have he':y.T.l[i]?=some e:=by rw[h.p.eT];omega
 have hc:=fun A=>tbDrop_K (w0:=w0) (F:=A) h.p.tb he' h1
 have hb:=h.p.tb.e e (List.mem_of_getElem? he')
 have hd:Jm s.W.T (i:Nat)=s.W.T.set i ⟨2,e.slot,e.gen⟩:=by
  grind[Jm]
 have hi:jr g long {s with W:={s.W with T:=Jm s.W.T (i:Nat)}}:=by
  have:=h.i.world okg (a:=⟨5,0,(i:Nat),0,0,0⟩)
  grind[jfB]
 refine zfV ?_;rintro _ _ ⟨rfl,rfl⟩;exact⟨_,⟨rfl,_,h.tab (T':=⟨y.T.b,y.T.l.set i ⟨2,e.slot,e.gen⟩,y.T.gens,y.T.o⟩) (jej h.p.tb (by grind)) rfl (by rw[hd,h.p.eT]) jd1 hi,⟨rfl,(jbz h.p.bo).symm,rfl,rfl,rfl,rfl,⟨rfl,rfl,rfl,rfl,rfl,rfl⟩,rfl,rfl,rfl⟩,rfl⟩,by simp only[cycH_app];exact ja⟩
theorem cMake_K {n:Nat} {z:jg} {hd:HdP} (hG:js w0) (h:CpR g long y s) (hz:g.L[n]?=some z):Call Tryz.prog w0 184 [.pointer (some ⟨y.B.b,0,none⟩), .int .i64 (n:Nat),hdV hd] (cycH y++F)
  (fun r H'=>r= .int .i64 (makeP s.W.x z hd).1∧CyQ g long y 0 F {s with W:={s.W with x:=(makeP s.W.x z hd).2}} H'):=by
 have okg:=h.okg
 have hc:=fun A=>Make_K (w0:=w0) (F:=A) (h:=hd) hG h.p.bo (s:=n) (by rw[h.eg];exact hz)
 have hf:=okg.fits hz
 have hw:JX g {s.W with x:=(makeP s.W.x z hd).2}:=⟨by show(makeP s.W.x z hd).2.length=_;rw [jhC (by rw[h.i.w.x];omega)];exact h.i.w.x,jif h.i.w.w,h.i.w.N,h.i.w.n,h.i.w.t⟩
 have hi:=h.i.words hw (jie okg h.i.w.x h.i.rf hz hd) fun t ht hp=>jg9 okg h.i.w.x hz hd ht hp
 refine zfV ?_;rintro _ _ ⟨rfl,rfl⟩;exact⟨_,⟨rfl,_,h.putx hw hi,JB.words,rfl⟩,by simp only[cycH_app,jgi];exact ja⟩
theorem cSetRef_K {n:Nat} {z:jg} {i to:Int} (hG:js w0) (h:CpR g long y s) (hz:g.L[n]?=some z):Call Tryz.prog w0 193 [.pointer (some ⟨y.B.b,0,none⟩), .int .i64 (n:Nat), .int .i64 i, .int .i64 to] (cycH y++F)
  (fun r H'=>r= .int .i64 (Jl s.W.x g.slots z i to).1∧CyQ g long y 0 F {s with W:={s.W with x:=(Jl s.W.x g.slots z i to).2}} H'):=by
 have okg:=h.okg
 have hsl:=okg.slots
 have hc:=fun A=>bSetRef_K (w0:=w0) (F:=A) (i:=i) (to:=to) hG h.p.bo (s:=n) (by rw[h.eg];exact hz)
 rw[h.eg] at hc
 have hw:JX g {s.W with x:=(Jl s.W.x g.slots z i to).2}:=⟨by show(Jl s.W.x _ z i to).2.length=_;rw [ji1];exact h.i.w.x,jjj h.i.w.w (by omega),h.i.w.N,h.i.w.n,h.i.w.t⟩
 have hi:=h.i.words hw (set_rf okg h.i.w.x h.i.rf hz) fun t ht hp=>jj8 okg hz ht
 refine zfV ?_;rintro _ _ ⟨rfl,rfl⟩;exact⟨_,⟨rfl,_,h.putx hw hi,JB.words,rfl⟩,by simp only[cycH_app,jgi];exact ja⟩
end
open Go.RowKit
set_option maxRecDepth 10000
section
variable {w0 : World} {F : jb} {y : CyM} {s : CyP} {g : PlG} {long : Nat}
theorem cCount_K {t:Nat} (h:CpR g long y s):Call Tryz.prog w0 196 [.pointer (some ⟨y.N.b,0,none⟩), .int .i64 (t:Nat)] (cycH y++F) (fun r H'=>r= .int .i64 ((s.W.N[t]?).getD 0)∧H'=cycH y++F):=by
 have hc:=Call.ro (w0:=w0) (A:=JD y.N) (H:=cycH y++F) (fun F=>jjs (F:=F) (s:=(t:Nat)) h.p.pi) (by rw[cycH_app];exact ja)
 rw[if_pos (by omega),Int.toNat_natCast,h.p.eN] at hc;exact hc
end
set_option maxRecDepth 10000
structure HpD where
 C:HpC
 c:Cfg
 oc:Own
 ot:Own
 R0:List (List Int)
 b:Nat
 yb:Nat
 qb:Nat
 mb:Nat
 Bb:Nat
 Tb:Nat
 ab:Nat
 Nb:Nat
 pb:Nat
structure HpDok (D:HpD):Prop where
 C:jk D.C
 c:jX D.c=true
 g:D.C.g=gOf D.c (D.C.tn:Nat)
 t: ∃ q,D.c.tn[D.C.tn]?=some q∧q.quota=(D.C.g.q:Nat)
 oc:oOk iE D.c.cl D.oc
 ot:oOk tnE D.c.tn D.ot
 nw:D.c.workers=(D.C.nw:Nat)
def hpL (D:HpD) (h:HpP):List Value:=[oV D.oc D.c.cl.length, .int .i64 D.c.page,oV D.ot D.c.tn.length, .int .i64 D.c.workers, .int .i64 D.c.grey, .int .i64 D.c.gens, .int .i64 (D.C.tn:Nat), .pointer (some ⟨D.yb,0,none⟩), .pointer (some ⟨D.qb,0,none⟩), .int .i64 (h.wk:Nat)]
def hpH (D:HpD) (y:CyM) (h:HpP):jb:=(D.b,cells (hpL D h) 84)::(paceH ⟨D.qb,D.C.tr,D.C.ast,h.p⟩++(oH iE 3 D.c.cl D.oc++(oH tnE 57 D.c.tn D.ot++cycH y)))
theorem hpH_app {D:HpD} {y:CyM} {h:HpP} {F:jb}:hpH D y h++F=(D.b,cells [oV D.oc D.c.cl.length, .int .i64 D.c.page,oV D.ot D.c.tn.length, .int .i64 D.c.workers, .int .i64 D.c.grey, .int .i64 D.c.gens, .int .i64 (D.C.tn:Nat), .pointer (some ⟨D.yb,0,none⟩), .pointer (some ⟨D.qb,0,none⟩), .int .i64 (h.wk:Nat)] 84)::(paceH ⟨D.qb,D.C.tr,D.C.ast,h.p⟩++(oH iE 3 D.c.cl D.oc++(oH tnE 57 D.c.tn D.ot++(cycH y++F)))):=by
 unfold hpH hpL;simp only[List.cons_append,List.append_assoc]
structure HpR (D:HpD) (nf nk:Nat) (y:CyM) (h:HpP):Prop where
 p:CpR D.C.g D.C.long y h.s
 b:y.b=D.yb
 m:y.B.m.b=D.mb
 B:y.B.b=D.Bb
 T:y.T.b=D.Tb
 a:y.a.b=D.ab
 N:y.N.b=D.Nb
 pl:y.B.p.b=D.pb
 nw:y.nw=D.C.nw
 g:y.T.gens=D.C.gn
 f:y.k.c.f≤nf
 t:y.B.t=D.C.tn
 R:y.B.m.R=D.R0.set D.C.tn h.s.W.x
 pb:PaB h.p
 w:h.wk≤nk
def HpQ (D:HpD) (nf nk:Nat) (h':HpP) (F H':jb):Prop:= ∃ y',HpR D nf nk y' h'∧H'=hpH D y' h'++F
theorem JB.mb' {y y':CyM} {x:List Int} {n:Nat} (h:JB y y' x n):y'.B.m.b=y.B.m.b:=by rw[h.B];rfl
section
variable {w0 : World} {D : HpD} {nf nk n : Nat} {y y' : CyM} {h : HpP} {s' : CyP} {F A H' : jb} {f : FuncId} {args : List Value} {P : Value → Prop}
theorem HpR.to (h1:HpR D nf nk y h) (hp:CpR D.C.g D.C.long y' s') (ht:JB y y' s'.W.x n):HpR D (nf+n) nk y' {h with s:=s'}:=
 ⟨hp,ht.b.trans h1.b,ht.mb'.trans h1.m,by rw[ht.B];exact h1.B,ht.T.trans h1.T,ht.a.trans h1.a,ht.N.trans h1.N,by rw[ht.B];exact h1.pl,ht.nw.trans h1.nw,ht.G.trans h1.g,by rw[ht.f];have:=h1.f;omega,by rw[ht.B];exact h1.t,by
  rw[ht.B]
  show y.B.m.R.set y.B.t s'.W.x=_
  rw[h1.t,h1.R,List.set_set],h1.pb,h1.w⟩
theorem HpR.lift (h1:HpR D nf nk y h) (hc: ∀ A,Call Tryz.prog w0 f args (cycH y++A) (fun r H'=>P r∧CyQ D.C.g D.C.long y n A s' H')):Call Tryz.prog w0 f args (hpH D y h++F) (fun r H'=>P r∧HpQ D (nf+n) nk {h with s:=s'} F H'):=by
 refine zl1 ?_;rintro r _ ⟨hP,y',h2,ht,rfl⟩;exact⟨_,⟨hP,y',h1.to h2 ht,rfl⟩,by unfold hpH;simp only[List.cons_append,List.append_assoc];exact ja⟩
theorem HpR.lift0 {R:Value→Prop} (h1:HpR D nf nk y h) (hc: ∀ A,Call Tryz.prog w0 f args (cycH y++A) (fun r H'=>R r∧H'=cycH y++A)):Call Tryz.prog w0 f args (hpH D y h++F) (fun r H'=>R r∧H'=hpH D y h++F):=by
 refine zl1 ?_;rintro r _ ⟨hP,rfl⟩;exact⟨_,⟨hP,rfl⟩,by unfold hpH;simp only[List.cons_append,List.append_assoc];exact ja⟩
theorem HpR.pace {p':PaP} (h1:HpR D nf nk y h) (hb:PaB p') (hc: ∀ A,Call Tryz.prog w0 f args (paceH ⟨D.qb,D.C.tr,D.C.ast,h.p⟩++A) (fun r H'=>P r∧H'=paceH ⟨D.qb,D.C.tr,D.C.ast,p'⟩++A)):Call Tryz.prog w0 f args (hpH D y h++F) (fun r H'=>P r∧HpQ D nf nk {h with p:=p'} F H'):=by
 refine zl2 ?_;rintro r _ ⟨hP,rfl⟩;refine⟨_,⟨hP,y,⟨h1.p,h1.b,h1.m,h1.B,h1.T,h1.a,h1.N,h1.pl,h1.nw,h1.g,h1.f,h1.t,h1.R,hb,h1.w⟩,rfl⟩,?_⟩;unfold hpH hpL;simp only[List.cons_append,List.append_assoc];exact ja
theorem HpR.pace0 {R:Value→Prop} (h1:HpR D nf nk y h) (hc: ∀ A,Call Tryz.prog w0 f args (paceH ⟨D.qb,D.C.tr,D.C.ast,h.p⟩++A) (fun r H'=>R r∧H'=paceH ⟨D.qb,D.C.tr,D.C.ast,h.p⟩++A)):Call Tryz.prog w0 f args (hpH D y h++F) (fun r H'=>R r∧H'=hpH D y h++F):=by
 refine zl2 ?_;rintro r _ ⟨hP,rfl⟩;exact⟨_,⟨hP,rfl⟩,by unfold hpH;simp only[List.cons_append,List.append_assoc];exact ja⟩
theorem HpR.pc (hD:HpDok D) (h1:HpR D nf nk y h):jb1 ⟨D.qb,D.C.tr,D.C.ast,h.p⟩:=⟨hD.C.tr,hD.C.ast,h1.pb⟩
theorem HpR.mono {nf' nk':Nat} (h1:HpR D nf nk y h) (hf:nf≤nf') (hk:nk≤nk'):HpR D nf' nk' y h:=⟨h1.p,h1.b,h1.m,h1.B,h1.T,h1.a,h1.N,h1.pl,h1.nw,h1.g,Nat.le_trans h1.f hf,h1.t,h1.R,h1.pb,Nat.le_trans h1.w hk⟩
theorem HpR.wk {n nk':Nat} (h1:HpR D nf nk y h) (hk:n≤nk'):HpR D nf nk' y {h with wk:=n}:=⟨h1.p,h1.b,h1.m,h1.B,h1.T,h1.a,h1.N,h1.pl,h1.nw,h1.g,h1.f,h1.t,h1.R,h1.pb,hk⟩
theorem jfv (h1:HpR D nf nk y h):Call Tryz.prog w0 18 [.pointer (some ⟨D.yb,0,none⟩)] (hpH D y h++F) (fun r H'=>r= .int .u8 (h.s.ph:Nat)∧H'=hpH D y h++F):=
 h1.lift0 fun A=>by have:=jfz (w0:=w0) (F:=A) (y:=y);rw [h1.b,h1.p.ph] at this;exact this
theorem jd0 (h1:HpR D nf nk y h):Call Tryz.prog w0 27 [.pointer (some ⟨D.yb,0,none⟩)] (hpH D y h++F) (fun r H'=>r= .pointer (some ⟨D.Tb,0,none⟩)∧H'=hpH D y h++F):=
 h1.lift0 fun A=>by have:=cyTable_K (w0:=w0) (F:=A) (y:=y);rw [h1.b,h1.T] at this;exact this
theorem jeF (h1:HpR D nf nk y h):Call Tryz.prog w0 23 [.pointer (some ⟨D.yb,0,none⟩)] (hpH D y h++F) (fun r H'=>r= .pointer (some ⟨D.ab,0,none⟩)∧H'=hpH D y h++F):=
 h1.lift0 fun A=>by have:=cyArena_K (w0:=w0) (F:=A) (y:=y);rw [h1.b,h1.a] at this;exact this
theorem jd8 (h1:HpR D nf nk y h):Call Tryz.prog w0 39 [.pointer (some ⟨D.yb,0,none⟩)] (hpH D y h++F) (fun r H'=>r= .pointer (some ⟨D.Bb,0,none⟩)∧H'=hpH D y h++F):=
 h1.lift0 fun A=>by have:=cyBody_K (w0:=w0) (F:=A) (y:=y);rw [h1.b,h1.B] at this;exact this
theorem jcv (h1:HpR D nf nk y h):Call Tryz.prog w0 74 [.pointer (some ⟨D.yb,0,none⟩)] (hpH D y h++F) (fun r H'=>r= .pointer (some ⟨D.pb,0,none⟩)∧H'=hpH D y h++F):=
 h1.lift0 fun A=>by have:=cyPlan_K (w0:=w0) (F:=A) (y:=y);rw [h1.b,h1.pl] at this;exact this
theorem jhH (h1:HpR D nf nk y h):Call Tryz.prog w0 194 [.pointer (some ⟨D.yb,0,none⟩)] (hpH D y h++F) (fun r H'=>r= .pointer (some ⟨D.Nb,0,none⟩)∧H'=hpH D y h++F):=
 h1.lift0 fun A=>by have:=cyPins_K (w0:=w0) (F:=A) (y:=y);rw [h1.b,h1.N] at this;exact this
end
open Go.RowKit
set_option maxRecDepth 100000
theorem jgN {w0:World} {H:jb} (n:Int):CallV Tryz.prog w0 (.func (.func 76) #[] #[]) [.int .u64 n] H (fun r H'=>r= .float .f64 n.toNat∧H'=H):=
 CallV.extern (e:=Extern.MathFloatBits.float64frombits) Tryz.func76 (by kernel_rfl) (by kernel_rfl) (by kernel_rfl) (by kernel_rfl) (fun w=>rfl)
theorem bits_V {w0:World} {H:jb} (b:Nat):CallV Tryz.prog w0 (.func (.func 78) #[] #[]) [.float .f64 b] H (fun r H'=>r= .int .u64 b∧H'=H):=
 CallV.extern (e:=Extern.MathFloatBits.float64bits) Tryz.func78 (by kernel_rfl) (by kernel_rfl) (by kernel_rfl) (by kernel_rfl) (fun w=>rfl)
set_option maxRecDepth 10000 in
theorem jhw {w0:World} {H:jb} (n:Int):Call Tryz.prog w0 256 [.int .u64 n] H (fun r H'=>r= .float .f64 n.toNat∧H'=H):=by
 refine Call.enter1 (n:=5) (by kernel_rfl) Tryz.func256 rfl rfl rfl ?_;refine z7 ?_;refine zx fun T hT=>?_;refine(jgN n).mono ?_;rintro _ _ ⟨rfl,rfl⟩;refine zd ?_;clear hT T;exact zt
set_option maxRecDepth 10000 in
theorem Canon_K {w0:World} {H:jb} (n:Nat):Call Tryz.prog w0 257 [.int .u64 n] H (fun r H'=>r= .int .u64 (canonN (fl n))∧H'=H):=by
 refine Call.enter1 (n:=10) (by kernel_rfl) Tryz.func257 rfl rfl rfl ?_;refine zaa ?_;refine zq fun T hT=>?_;refine(CallV.fn (jhw n)).mono ?_;rintro _ _ ⟨rfl,rfl⟩;rw[show((n:Int)).toNat=n by omega]
 cases hf:fl n with
 |none=>
  have hi:(fl n).isNone=true:=by rw[hf];rfl
  refine zd ?_;clear hT T;refine zaW ?_;refine zbm ?_;refine KL.v rfl (Val.neqFS rfl rfl) ?_;refine zN ?_;rw[hi];refine zgi ?_;exact ze4
 |some c=>
  have hi:(fl n).isNone=false:=by rw[hf];rfl
  have hc:=jf9 hf
  subst hc;refine zd ?_;clear hT T;refine zaW ?_;refine zbm ?_;refine KL.v rfl (Val.neqFS rfl rfl) ?_;refine zN ?_;rw[hi];refine zdS ?_;refine za8 ?_;exact ze4
structure SuS where
 k:Nat
 r:Nat
set_option maxRecDepth 10000 in
theorem Sum_K {w0:World} {H:jb} {v:Value} {l:List Int} (hS:Sli w0 H uE v l) (hl:l.length≤1000000):
  Call Tryz.prog w0 200 [v] H (fun r H'=>r= .int .u64 (Go.Proofs.YtpcgafhgfjlkmaaGreatDoor.sumP l)∧H'=H):=by
 refine Call.enter1 (n:=28) (by kernel_rfl) Tryz.func200 rfl rfl rfl ?_
 cases l with
 |nil=>
  have h0:((List.length ([]:List Int):Nat):Int)=0:=rfl
  refine zfF ?_;refine zJ ?_;exact zdv
 |cons x l=>
  have hx:(x::l)[0]?=some x:=rfl
  have hx0:(x::l)[Int.toNat 0]?=some x:=rfl
  have hne: ¬(((x::l).length:Nat):Int)=0:=by simp only[List.length_cons];omega
  have hS1:Sli w0 H uE (Jc v (Int.toNat 1) (x::l).length uE.sz) l:=by
   have:=hS.sub (l:=1) (h:=(x::l).length) (by simp) (Nat.le_refl _)
   simpa using this
  have hl':l.length≤1000000:=by simp only[List.length_cons] at hl;omega
  refine zfF ?_;refine zG ?_;refine zaG ?_;refine zhK ?_;refine z8 ?_;refine zq fun T hT=>?_;refine(CallV.fn (jhw x)).mono ?_;rintro _ H ⟨rfl,rfl⟩;refine zd ?_;clear hT T;refine z6 ?_;refine KL.v rfl (Val.sliceLZ rfl rfl rfl J3 rfl (by omega)) ?_;refine zad ?_;refine zcH ?_;refine K.loopT (σ:=SuS) [(14,_),(15,_)] (fun s kp_=>(16, .int .i64 (s.k:Nat))::(3, .float .f64 s.r)::kp_) (fun s=>H) (fun s=>s.k≤l.length∧fl s.r=(l.take s.k).foldl (fun a w=>addF a (fl w.toNat)) (fl x.toNat)) (fun s=>l.length-s.k) (⟨0,x.toNat⟩) jj ja (⟨by simp,by simp⟩) ?_;rintro⟨k,r⟩ ⟨hk,hr⟩;dsimp only at hk hr⊢
  by_cases hlt:k<l.length
  ·obtain⟨y,hy⟩:=jA hlt
   refine zaN ?_;refine zbr ?_;refine z8 ?_;refine zk ?_;refine za0 ?_;refine zaC fun T hT=>?_;refine(CallV.fn (jhw y)).mono ?_;rintro _ H ⟨rfl,rfl⟩;refine zd ?_;clear hT T;refine KL.e rfl (Eff.fadd rfl rfl) ?_;rintro _ _ ⟨f23,fb23,fe23,rfl,rfl⟩;refine zbY ?_;refine zcS ?_;exact KE.again ⟨k+1,f23⟩ jj ja ⟨by show k+1≤_;omega,by show fl f23=_;rw [fe23,hr,jca hy,List.foldl_append];rfl⟩ (by show l.length-(k+1)<l.length-k;omega)
  ·have hkl:l.take k=l:=List.take_of_length_le (by omega)
   rw[hkl] at hr;refine zeR ?_;refine zx fun T hT=>?_;refine(bits_V r).mono ?_;rintro _ H ⟨rfl,rfl⟩;refine zd ?_;clear hT T;refine zq fun T hT=>?_;refine(CallV.fn (Canon_K r)).mono ?_;rintro _ H ⟨rfl,rfl⟩;refine zd ?_;clear hT T;refine zf ?_;exact KE.fin je rfl jd ja ⟨by rw[hr];rfl,rfl⟩
end Go.Proofs.YtpcgafhgfjlkmaaGreatDoor.Sw
namespace Go.Proofs.YtpcgafhgfjlkmaaGreatDoor
section
variable {P : Program} {w0 : World} {ro : Option Nat} {n : Nat} {Q : Exit → Act → World → Prop} {ds : List Deferred} {m : jl} {H R : jb} {ops : Array Oper} {ord : Ord}
variable {ty : TypeId} {pos : String} {af : Array Edge}
theorem KD.callcX {i d:Nat} {f:Operand} {as0:List Operand} {ts:Array TypeId} {fv:Value} {vs:List Value} (hi:ops[i]?=some ⟨some d, .call {callee:= .value f,args:=as0.toArray,argTypes:=ts},ty,pos,af,none⟩) (hd:Nat.blt d n=true) (hf:evO m f=some fv) (ha:EvL m as0 vs)
  (h: ∀ T:Je,(∀ v H',Part H' H'→KD P w0 ro n ops R ord Q ds ((d,v)::m) H'→T v H')→CallV P w0 fv vs H T):KD P w0 ro n ops R ((i,4)::ord) Q ds m H:=
 KD.eX hi hd (Eff.call hf ha (h (fun v H'=>KD P w0 ro n ops R ord Q ds ((d,v)::m) H') fun _ _ _ k=>k)) fun _ _ k=>k
end
section
variable {P : Program} {w0 : World} {m : jl} {H : jb} {ty : TypeId}
theorem Val.indexV1 {t e:TypeId} {x y:Operand} {cs:List Value} {v:Value} {len:Nat} {i:Int} {k:IntKind} (hx:evO m x=some (.agg cs.toArray)) (hy:evO m y=some (.int k i)) (ht:jc1 P t=some (len,e)) (hz:Jr P e=some 1) (h1:oneB P e=true) (hj:0≤i∧i<len) (hv:cs[i.toNat]?=some v):Val P w0 H m ty (.index t x y) v:=
 ⟨by simp[jB,cov,hx,hy],fun w d pos af g _=>by
  have hu:P.underlying t=some (.array len e):=by unfold jc1 at ht;split at ht<;>simp_all
  have hp:=jfl (P:=P) w (cs:=cs.toArray) (off:=i.toNat) h1 (by simpa using hv)
  have hr:(Instr.index t (.agg cs.toArray) (.int k i)).run P w= .ok v w:=by
   simp[Instr.index,asIntOf,Jw w hu,hj.1,hj.2,jaN w hz,hp]
  simp[execOp,evS,hx,hy,hr]⟩
end
end Go.Proofs.YtpcgafhgfjlkmaaGreatDoor
namespace Go.Proofs.YtpcgafhgfjlkmaaGreatDoor.Sw
open Go.Proofs.YtpcgafhgfjlkmaaGreatDoor renaming lo → qL, hi → qH
open Go.RowKit
set_option maxRecDepth 10000
section
variable {w0 : World} {F : jb} {c : Cfg} {vc vt : Value} {m : Js} {b : Nat} {D : HpD} {y : CyM} {h : HpP}
end
section
variable {w0 : World} {H : jb} {v : Value}
end
end Go.Proofs.YtpcgafhgfjlkmaaGreatDoor.Sw
