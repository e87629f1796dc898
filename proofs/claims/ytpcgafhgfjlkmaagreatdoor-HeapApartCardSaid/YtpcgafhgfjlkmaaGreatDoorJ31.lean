/-The walker and the contracts that the law needs,part 31. -/
import Derived.Test.YtpcgafhgfjlkmaaGreatDoorD1
import Derived.ArgAppend
import Derived.ChangeMaps5
import Derived.Deep.Fields
import Derived.Deep.LoopGhost
import Derived.Deep.OwnRows
import Derived.Deep.Quiet
import Derived.Deep.Slices
import Derived.IntWalk
import Derived.Laws.Cells
import Derived.Laws.CopyOwn
import Derived.Laws.Externs
import Derived.Laws.FloatArith
import Derived.Laws.IdiomStrings
import Derived.Laws.NewFold
import Derived.Laws.StructEq
import Derived.Lib.BitFns
import Derived.Lib.Hide
import Derived.Lib.SmallJoins
import Derived.Lib.TrailingZeros
import Derived.Maps.RangeRun
import Derived.OrdersIn
import Derived.ProofKit
import Derived.RangeFuncBound
import Derived.RangeFuncCalls
import Derived.RangeFuncLeaves
import Derived.RangeFuncNested
import Derived.RecoverIn
import Derived.Shelf.Bits.Mul64
import Derived.Shelf.Slices.Turned
import Derived.Shelf.Spec.TrailingZeros
import Derived.Shelf.Strconv.Itoa0
import Derived.SizedLaws
import Derived.Sort.BigQuietIn
import Derived.StillTailTactics
import Derived.Test.YtpcgafhgfjlkmaaGreatDoorProg
import Derived.WalkKit
import Derived.Test.YtpcgafhgfjlkmaaGreatDoorJ26
import Derived.Test.YtpcgafhgfjlkmaaGreatDoorJ27
import Derived.Test.YtpcgafhgfjlkmaaGreatDoorJ30
set_option linter.unusedVariables false set_option linter.unusedSimpArgs false namespace Go.Proofs.YtpcgafhgfjlkmaaGreatDoor.Sw
set_option maxHeartbeats 8000000
open Go.Proofs.YtpcgafhgfjlkmaaGreatDoor renaming lo → qL, hi → qH
open Go.RowKit
set_option linter.unusedVariables false
set_option linter.unusedSimpArgs false
set_option maxRecDepth 10000
theorem of1_K {w0:World} {F:jb} {v:Value} {l:List Int} {n:Int} {i b1 b2:Nat} {x:Int} (hS:Sli w0 F iE v l) (hx:l[i]?=some x):
  Call Tryz.prog w0 231 [.int .i64 (i:Nat), .pointer (some ⟨b1,0,none⟩), .pointer (some ⟨b2,0,none⟩)] ((b1,cells [v] 22)::(b2,cells [.int .i64 n] 3)::F)
   (fun r H'=>r= .bool (decide (n≤x))∧H'=(b1,cells [v] 22)::(b2,cells [.int .i64 n] 3)::F):=by
 have hS2:Sli w0 ((b1,cells [v] 22)::(b2,cells [.int .i64 n] 3)::F) iE v l:=hS.part ja
 clear hS;refine Call.enter3 (n:=11) (by kernel_rfl) Tryz.func231 rfl rfl rfl ?_
 have hi:=jx hx
 refine zeW ?_;refine K.drawn [] [(0,0),(1,0),(2,0),(3,0),(4,0),(5,0),(6,0)] (by kernel_rfl) (by kernel_rfl) (by kernel_rfl) (by kernel_rfl) (by kernel_rfl) (by kernel_rfl) Part.nil ?_;refine zP ?_;refine zcC ?_;refine zaF ?_;refine zP ?_;refine KD.v0 rfl rfl (Val.geq rfl rfl) ?_;refine zaV ?_;exact zZ
def firstP (n:Int):List Int→Nat
 | []=>0
 |x::l=>if n≤x then 0 else firstP n l+1
theorem jkE {n:Int}: ∀ {l:List Int} {i:Nat},i≤l.length→(∀ j x,j<i→l[j]?=some x→ ¬n≤x)→(∀ x,l[i]?=some x→n≤x)→firstP n l=i
 | [],i,h,_,_=>by simp at h;subst h;rfl
 |x::l,0,_,_,h3=>by simp[firstP,h3 x rfl]
 |x::l,i+1,h1,h2,h3=>by
  have:=h2 0 x (by omega) rfl
  simp only[firstP,if_neg this];rw[jkE (by simpa using h1) (fun j y hj hy=>h2 (j+1) y (by omega) (by simpa using hy)) (fun y hy=>h3 y (by simpa using hy))]
def ofP (l:List Int) (n:Int):Int × Int:=if Jq l then(if firstP n l=l.length∨n<1 then(0,50) else((firstP n l:Nat),0)) else(0,2)
theorem classOf_K {w0:World} {H:jb} {v:Value} {l:List Int} {n:Int} (hS:Sli w0 H iE v l) (hvc:v.cells=[v].toArray) (hl:l.length≤140737488355328):
  Call Tryz.prog w0 178 [v, .int .i64 n] H (fun r H'=>r= .tuple [.int .i64 (ofP l n).1, .int .i64 (ofP l n).2].toArray∧H'=H):=by
 refine Call.enter2 (n:=26) (by kernel_rfl) Tryz.func178 rfl rfl rfl ?_;refine zy ?_;refine KL.e rfl (Eff.box rfl (by assumption)) ?_;rintro _ _ ⟨b2,rfl,rfl⟩;refine zbR ?_;intro b3;refine zk ?_;refine zX ?_;refine za5 fun T hT=>?_;refine(CallV.fn (Check_K (hS.part ja) hl)).mono ?_;rintro _ _ ⟨rfl,rfl⟩
 cases hc:Jq l with
 |false=>
  have ho:ofP l n=(0,2):=by simp[ofP,hc]
  refine ziB ?_;clear hT T;refine zcA ?_;refine zdy ?_;refine zas ?_;exact zjs
 |true=>
  have hS2: ∀ b2 b3,Sli w0 ((b2,cells [v] 22)::(b3,cells [.int .i64 n] 3)::H) iE v l:=fun b2 b3=>hS.part ja
  simp only[jbe,if_true];refine zd ?_;clear hT T;refine zdt ?_;refine zz ?_;refine zp ?_;refine zad ?_;refine zaJ fun T hT=>?_;refine(CallV.part (CallV.fn (jkX (H:=(b2,cells [v] 22)::(b3,cells [.int .i64 n] 3)::H) (n:=l.length) (fun i=>decide (n≤(l[i]?).getD 0)) hl ?_ ?_)) ja).mono ?_
  ·intro i j hij hj hp
   obtain⟨x,hx⟩:=jA (l:=l) (k:=i) (by omega)
   obtain⟨y,hy⟩:=jA hj
   have:=jgQ hc hij hx hy
   simp only[hx,hy,Option.getD_some,decide_eq_true_eq] at hp⊢
   omega
  ·intro i hi
   obtain⟨x,hx⟩:=jA hi
   refine(CallV.clo (cap:=[_,_]) (of1_K (F:=H) (n:=n) hS hx)).mono ?_;rintro _ _ ⟨rfl,rfl⟩;exact⟨by simp[hx],rfl⟩
  ·rintro _ _ ⟨i,hi,hlo,hhi,rfl,rfl⟩
   have hf:firstP n l=i:=jkE hi (fun j x hj hx=>by have:=hlo j hj;simpa [hx] using this) (fun x hx=>by have:=hhi i (Nat.le_refl _) (jx hx);simpa [hx] using this)
   by_cases hil:i=l.length
   ·have ho:ofP l n=(0,50):=by simp[ofP,hc,hf,hil]
    have hil':(i:Int)=(l.length:Nat):=by omega
    refine zd ?_;clear hT T;refine z6 ?_;refine zp ?_;refine zad ?_;refine zJ ?_;refine zds ?_;refine zgh ?_;exact zjs
   ·have hil': ¬(i:Int)=(l.length:Nat):=by omega
    by_cases hn1:n<1
    ·have ho:ofP l n=(0,50):=by simp[ofP,hc,hf,hn1]
     refine zd ?_;clear hT T;refine z6 ?_;refine zp ?_;refine zad ?_;refine zG ?_;refine zgd ?_;refine zab ?_;refine zC ?_;refine zgh ?_;exact zjs
    ·have ho:ofP l n=(((i:Nat):Int),0):=by simp[ofP,hc,hf,hil,hn1]
     refine zd ?_;clear hT T;refine z6 ?_;refine zp ?_;refine zad ?_;refine zG ?_;refine zgd ?_;refine zT ?_;refine zC ?_;refine zz ?_;refine zbl ?_;exact zjs
theorem jjK {n:Int}: ∀ (l:List Int),(∀ x∈l,0≤x)→(l.map Int.toNat).findIdx (fun(y:Nat)=>decide (n≤(y:Nat)))=firstP n l
 | [],_=>rfl
 |x::l,h=>by
  have ih:=jjK (n:=n) l fun y hy=>h y (.tail _ hy)
  have hx:=h x (.head _)
  rw[List.map_cons,List.findIdx_cons];unfold firstP
  by_cases c:n≤x
  ·rw[if_pos c,decide_eq_true (show n≤((x.toNat:Nat):Int) by omega)];rfl
  ·rw[if_neg c,decide_eq_false (show ¬n≤((x.toNat:Nat):Int) by omega),ih];rfl
theorem jkJ {l:List Int} (h:Jq l=true): ∀ x∈l,0≤x:=by
 simp only[Jq,Bool.and_eq_true] at h;intro x hx
 have:=(jdi h.2).1 x hx
 omega
theorem ofP_class {c:Cfg} {t n:Int} (h:Jq c.cl=true) (hn:1≤n):ofP c.cl n=if classI (gOf c t) n=(gOf c t).cl.length then(0,50) else(((classI (gOf c t) n:Nat):Int),0):=by
 have e1:classI (gOf c t) n=firstP n c.cl:=jjK c.cl (jkJ h)
 have e2:(gOf c t).cl.length=c.cl.length:=List.length_map ..
 unfold ofP;rw[h,e1,e2,if_pos rfl]
 by_cases hf:firstP n c.cl=c.cl.length
 ·rw[if_pos (.inl hf),if_pos hf]
 ·rw[if_neg (by omega),if_neg hf]
theorem CloneI_K {w0:World} {v:Value} {l:List Int} (hS:SlW w0 iE v l) (hl:l.length≤4294967296):
  Call Tryz.prog w0 105 [v] [] (fun r H'=> ∃ o,oOk iE l o∧r=oV o l.length∧H'=oH iE 3 l o):=by
 refine Call.enter1 (n:=8) (by kernel_rfl) Tryz.func105 rfl rfl rfl ?_
 have hS0:=hS
 obtain⟨a,c,rfl,h1,h2,h3⟩:=hS.shape
 cases a with
 |none=>
  have hn:l=[]:=by
   cases l with
   |nil=>rfl
   |cons x r=>obtain⟨b,o,h⟩:=h3 (by simp);cases h
  subst hn;refine zaa ?_;refine zdL ?_;refine zav ?_;exact ziN
 |some a=>
  refine zaa ?_;refine zdL ?_;refine zz ?_;refine zaj ?_;intro b5;refine ze ?_;refine KL.e rfl (Eff.appLit (E:=iE) (ys:=l) rfl rfl rfl rfl rfl rfl rfl jF (by first|exact Sli.blk jF rfl (by first|decide|simp) (by first|decide|(unfold maxLen;omega)) rfl|exact Sli.old (by assumption)|exact Sli.own jn (by assumption) j6|assumption|exact Sli.part (by assumption) ja) (by first|assumption|omega|(simp<;>fail)|(simp;omega)) rfl) ?_;rintro _ _ ⟨o',ok',rfl,rfl⟩;refine zf ?_;exact ziO
theorem CloneT_K {w0:World} {v:Value} {l:List Tn} (hS:SlW w0 tnE v l) (hl:l.length≤4294967296):
  Call Tryz.prog w0 106 [v] [] (fun r H'=> ∃ o,oOk tnE l o∧r=oV o l.length∧H'=oH tnE 57 l o):=by
 refine Call.enter1 (n:=8) (by kernel_rfl) Tryz.func106 rfl rfl rfl ?_
 have hS0:=hS
 obtain⟨a,c,rfl,h1,h2,h3⟩:=hS.shape
 cases a with
 |none=>
  have hn:l=[]:=by
   cases l with
   |nil=>rfl
   |cons x r=>obtain⟨b,o,h⟩:=h3 (by simp);cases h
  subst hn;refine zaa ?_;refine zdL ?_;refine zav ?_;exact ziN
 |some a=>
  refine zaa ?_;refine zdL ?_;refine zz ?_;refine zaj ?_;intro b5;refine ze ?_;refine KL.e rfl (Eff.appLit (E:=tnE) (ys:=l) rfl rfl rfl rfl rfl rfl rfl jF (by first|exact Sli.blk jF rfl (by first|decide|simp) (by first|decide|(unfold maxLen;omega)) rfl|exact Sli.old (by assumption)|exact Sli.own jn (by assumption) j6|assumption|exact Sli.part (by assumption) ja) (by first|assumption|omega|(simp<;>fail)|(simp;omega)) rfl) ?_;rintro _ _ ⟨o',ok',rfl,rfl⟩;refine zf ?_;exact ziO
theorem Own_K {w0:World} {F:jb} {c:Cfg} {vc vt:Value} (hR:Jo w0 F c vc vt) (h1:c.cl.length≤4294967296) (h2:c.tn.length≤4294967296):
  Call Tryz.prog w0 70 [jw c vc vt] F (fun r H'=> ∃ oc ot,oOk iE c.cl oc∧oOk tnE c.tn ot∧r=jw c (oV oc c.cl.length) (oV ot c.tn.length)∧H'=oH iE 3 c.cl oc++(oH tnE 57 c.tn ot++F)):=by
 have hcl:=hR.cl
 have htn:=hR.tn
 have q1:=hR.one1
 have q2:=hR.one2
 unfold jw jT;refine Call.enter1 (n:=12) (by kernel_rfl) Tryz.func70 rfl rfl rfl ?_;refine zdX ?_;intro b1 b2;refine zcW ?_
 (first|refine K.seq (K.drawn ([]) [(0,0),(1,0),(3,0),(4,0),(2,5),(6,0),(5,5),(7,2),(8,0),(9,2)] (by kernel_rfl) (by kernel_rfl) (by kernel_rfl) (by kernel_rfl) (by kernel_rfl) (by kernel_rfl) ja ?_)|refine K.seq (K.seq (K.drawn ([]) [(0,0),(1,0),(3,0),(4,0),(2,5),(6,0),(5,5),(7,2),(8,0),(9,2)] (by kernel_rfl) (by kernel_rfl) (by kernel_rfl) (by kernel_rfl) (by kernel_rfl) (by kernel_rfl) ja ?_))|refine K.drawn ([]) [(0,0),(1,0),(3,0),(4,0),(2,5),(6,0),(5,5),(7,2),(8,0),(9,2)] (by kernel_rfl) (by kernel_rfl) (by kernel_rfl) (by kernel_rfl) (by kernel_rfl) (by kernel_rfl) ja ?_)
 refine zfa ?_;refine zS ?_;refine zdU ?_;refine zS ?_;refine zcu fun T hT=>?_;refine(CallV.pure fun w hw=>CallV.fn (CloneI_K (hcl w (hw.part ja)) h1)).mono ?_;rintro _ _ ⟨_,⟨oc,kc,rfl,rfl⟩,rfl⟩;refine zg ?_;clear hT T;refine zfa ?_;refine zcu fun T hT=>?_;refine(CallV.pure fun w hw=>CallV.fn (CloneT_K (htn w (hw.part ja)) h2)).mono ?_;rintro _ _ ⟨_,⟨ot,kt,rfl,rfl⟩,rfl⟩;refine zg ?_;clear hT T;refine zbv ?_;refine zdU ?_;refine zbv ?_;refine zeS ?_;refine zlh ?_;exact KE.fin je rfl jd ja ⟨oc,ot,kc,kt,rfl,rfl⟩
open Go.RowKit
set_option maxRecDepth 10000
section
variable {w0 : World} {F : jb} {k : MkM} {B : BoM} {T : TbM} {N : PiM} {W : MwP} {m : MaP}
theorem jjx {hd v:Int} (hG:js w0) (hp:MpR k B T N W) (ok:MkOk k B.p) (hR:MkR k B.p m) (hm:jG B.p.g k.g.ring.length W m) (hst:m.steps≤1000000000) (hv:0≤v∧v<256):
  Call Tryz.prog w0 126 [.pointer (some ⟨k.b,0,none⟩), .int .i64 hd, .int .u8 v] (jp k B.p++(planH B.p++(seenH B T N++F))) (ja5 k B T N F m (j1 B.p.g k.g.ring.length W m hd v)):=by
 obtain⟨u,rfl⟩: ∃ u:Nat,v=u:=⟨v.toNat,by omega⟩
 exact mkStep_K hG hp ok hR hm hst (by omega)
set_option maxHeartbeats 4000000 in
theorem mkHelp_K (hG:js w0) (hp:MpR k B T N W) (ok:MkOk k B.p) (hR:MkR k B.p m) (hm:jG B.p.g k.g.ring.length W m) (hst:m.steps≤1000000000):
  Call Tryz.prog w0 127 [.pointer (some ⟨k.b,0,none⟩)] (jp k B.p++(planH B.p++(seenH B T N++F))) (ja5 k B T N F m (jae B.p.g k.g.ring.length W m)):=by
 have hac:=fun A=>jdf (w0:=w0) (F:=A) (k:=k) (p:=B.p)
 have hact:=hR.act
 have hhs:=hR.hs
 have hl9:=ok.hs
 have ho:=ok.o
 have hml:m.hs.length=k.hs.length:=by rw[hhs]
 have hstep:=fun A (k':MkM) (i:Nat) (u:Int) (hu:0≤u∧u<256) (kok:MkOk k' B.p) (kto:MkTo k k') (kR:MkR k' B.p m)=>jjx (w0:=w0) (F:=A) (hd:=(i:Nat)) hG (hp.to kto) kok kR (by rw[kto.l];exact hm) hst hu
 have hlen: ∀ k':MkM,MkTo k k'→k'.g.ring.length=k.g.ring.length:=fun k' h=>h.l
 unfold ja5 at hstep⊢
 cases ha:k.act with
 |false=>
  have hn:jae B.p.g k.g.ring.length W m=none:=help_idle (by rw[←hact];exact ha)
  rw[hn];simp only[Option.isSome,Option.getD];simp only[ha] at hac;refine Call.enter1 (n:=33) (by kernel_rfl) Tryz.func127 rfl rfl rfl ?_;refine ze0 ?_;intro b1 b2;refine zV ?_;refine zh4 ?_;refine zeQ ?_;refine zcl ?_;refine zbE ?_;exact KE.fin (H':=jp k B.p++(planH B.p++(seenH B T N++F))) je rfl jd (by first|exact ja|(simp only[jo,seenH_app];exact ja)) ⟨rfl,k,ok,MkTo.refl k,hR,rfl⟩
 |true=>
  simp only[ha] at hac
  have hown:((k.hs.length:Nat):Int)-1=((k.hs.length-1:Nat):Int):=by omega
  obtain⟨own,hod⟩: ∃ own:Nat,own=k.hs.length-1:=⟨_,rfl⟩
  rw[←hod] at hown
  have hhm:jae B.p.g k.g.ring.length W m=match fullM m with
   |some i=>j1 B.p.g k.g.ring.length W m (i:Nat) 3
   |none=>match j1 B.p.g k.g.ring.length W m (own:Nat) 2 with
    |some m'=>some m'
    |none=>match j1 B.p.g k.g.ring.length W m (own:Nat) 1 with
     |some m'=>some m'
     |none=>j1 B.p.g k.g.ring.length W m (own:Nat) 4:=by
   rw[hod,←hml];rfl
  refine Call.enter1 (n:=33) (by kernel_rfl) Tryz.func127 rfl rfl rfl ?_;refine ze0 ?_;intro b1 b2;refine zV ?_;refine zh4 ?_;refine zE ?_;refine z9 ?_;refine zV ?_;refine jat jkp ?_;rintro _ _ ⟨bl,rfl,rfl⟩;refine zb9 ?_;refine K.rangeFunc (lb:=[.pointer (some ⟨bl,0,none⟩)]) rfl
   (fun D G=>fullM m=none∧G=(D, .deferred (some []))::(b2,cells [.bool false] 4)::(b1,cells [.pointer (some ⟨k.b,0,none⟩)] 104)::(jp k B.p++(planH B.p++(seenH B T N++F))))
   (fun D c G=>c= .ret∧ ∃ i k',fullM m=some i∧MkOk k' B.p∧MkTo k k'∧MkR k' B.p ((j1 B.p.g k.g.ring.length W m (i:Nat) 3).getD m)∧G=(D, .deferred (some []))::(b2,cells [.bool (j1 B.p.g k.g.ring.length W m (i:Nat) 3).isSome] 4)::(b1,cells [.pointer (some ⟨k.b,0,none⟩)] 104)::(jp k' B.p++(planH B.p++(seenH B T N++F)))) ?_ ?_ ?_
  ·intro l D rc hyl
   refine(Call.part (jjw (F:=planH B.p++(seenH B T N++F)) (bl:=bl) ok hR.hs
    (fun H'=> ∃ i k',fullM m=some i∧MkOk k' B.p∧MkTo k k'∧MkR k' B.p ((j1 B.p.g k.g.ring.length W m (i:Nat) 3).getD m)∧H'=(l, .loop (rc .done (some .ret)))::((D, .deferred (some []))::(b2,cells [.bool (j1 B.p.g k.g.ring.length W m (i:Nat) 3).isSome] 4)::(b1,cells [.pointer (some ⟨k.b,0,none⟩)] 104)::(bl,cells [.pointer (some ⟨k.b,0,none⟩)] 104)::(jp k' B.p++(planH B.p++(seenH B T N++F)))))
    (A0:=(l, .loop (rc .ready none))::(D, .deferred (some []))::(b2,cells [.bool false] 4)::(b1,cells [.pointer (some ⟨k.b,0,none⟩)] 104)::[]) ?_) (by simp only[List.cons_append,List.nil_append];exact ja)).mono ?_
   ·intro i hf
    have hs3:=fun A=>hstep A k i 3 (by decide) ok (MkTo.refl k) hR
    simp only[List.cons_append,List.nil_append];refine zje ?_;refine zge ?_;refine K.block (K.seq (K.region ?_));refine zdu ?_;refine j4 (hs3 _) ja ?_;rintro _ _ ⟨rfl,k',kok,kto,kR,rfl⟩;refine zcl ?_;refine zbS ?_;refine KE.part ((l, .loop (rc .busy none))::((D, .deferred (some []))::(b2,cells [.bool (j1 B.p.g k.g.ring.length W m (i:Nat) 3).isSome] 4)::(b1,cells [.pointer (some ⟨k.b,0,none⟩)] 104)::(bl,cells [.pointer (some ⟨k.b,0,none⟩)] 104)::(jp k' B.p++(planH B.p++(seenH B T N++F))))) ja ?_;exact KE.roundR j3.head ⟨rfl,i,k',hf,kok,kto,kR,rfl⟩
   ·rintro _ _ (⟨hno,rfl⟩|⟨i,k',hf,kok,kto,kR,rfl⟩)
    ·refine .inl ⟨_,?_,hno,rfl⟩;exact zf0
    ·exact .inr ⟨.ret,_,ja,rfl,i,k',hf,kok,kto,kR,rfl⟩
  ·rintro D G ⟨hf,rfl⟩;rw[hf] at hhm;dsimp only at hhm
   have hs2:=fun A=>hstep A k own 2 (by decide) ok (MkTo.refl k) hR
   rw[hhm];simp only[jo,seenH_app];refine zeU ?_;refine zb2 ?_;refine zbI ?_;refine zp ?_;refine zbW ?_;refine zdO ?_;refine zaW ?_;rw[hown]
   cases h2:j1 B.p.g k.g.ring.length W m (own:Nat) 2 with
   |some m2=>
    simp only[h2,Option.isSome,Option.getD] at hs2⊢;refine zy ?_;refine zb6 fun T hT=>?_;refine zlT ?_;rintro _ _ ⟨rfl,k2,kok,kto,kR,rfl⟩;refine zd ?_;clear hT T;refine zd7 ?_;refine zd7 ?_;refine zcl ?_;exact KE.fin (H':=jp k2 B.p++(planH B.p++(seenH B T N++F))) je rfl jd (by first|exact ja|(simp only[jo,seenH_app];exact ja)) ⟨rfl,k2,kok,kto,kR,by simp only[jo,seenH_app]⟩
   |none=>
    simp only[h2,Option.isSome,Option.getD] at hs2⊢;refine zy ?_;refine zb6 fun T hT=>?_;refine zlT ?_;rintro _ _ ⟨rfl,k2,kok2,kto2,kR2,rfl⟩
    have hs1:=fun A=>hstep A k2 own 1 (by decide) kok2 kto2 kR2
    simp only[hlen k2 kto2,kto2.b] at hs1;refine zd ?_;clear hT T
    cases h1:j1 B.p.g k.g.ring.length W m (own:Nat) 1 with
    |some m1=>
     simp only[h1,Option.isSome,Option.getD] at hs1⊢;refine zgd ?_;refine zL ?_;refine zq fun T hT=>?_;refine zlU ?_;rintro _ _ ⟨rfl,k1,kok,kto,kR,rfl⟩;refine zd ?_;clear hT T;refine zC ?_;refine zd7 ?_;refine zcl ?_;exact KE.fin (H':=jp k1 B.p++(planH B.p++(seenH B T N++F))) je rfl jd (by first|exact ja|(simp only[jo,seenH_app];exact ja)) ⟨rfl,k1,kok,kto2.trans kto,kR,by simp only[jo,seenH_app]⟩
    |none=>
     simp only[h1,Option.isSome,Option.getD] at hs1⊢;refine zgd ?_;refine zL ?_;refine zq fun T hT=>?_;refine zlU ?_;rintro _ _ ⟨rfl,k1,kok1,kto1,kR1,rfl⟩
     have kto12:=kto2.trans kto1
     have hs4:=fun A=>hstep A k1 own 4 (by decide) kok1 kto12 kR1
     simp only[hlen k1 kto12,kto12.b] at hs4;refine zd ?_;clear hT T;refine zC ?_;refine zgd ?_;refine zL ?_;refine zq fun T hT=>?_;refine(CallV.part (CallV.fn (hs4 _)) (by first|exact ja|(simp only[jo,seenH_app];exact ja))).mono ?_;rintro _ _ ⟨rfl,k4,kok,kto,kR,rfl⟩;refine zd ?_;clear hT T;refine zC ?_;refine zcl ?_;exact KE.fin (H':=jp k4 B.p++(planH B.p++(seenH B T N++F))) je rfl jd (by first|exact ja|(simp only[jo,seenH_app];exact ja)) ⟨rfl,k4,kok,kto12.trans kto,kR,by simp only[jo,seenH_app]⟩
  ·rintro D c G ⟨rfl,i,k',hf,kok,kto,kR,rfl⟩;rw[hf] at hhm;dsimp only at hhm;rw[hhm];refine zdr ?_;exact KE.fin je rfl jd ja ⟨rfl,k',kok,kto,kR,rfl⟩
theorem jl7 {s:Nat} {c:Int} {g:FuncId} {fi:List Value} {R:jb→Prop} (ok:MkOk k B.p) (hc:(tiC k.c)[s]?=some c)
  (hdo:k.act=true→CallV Tryz.prog w0 (.func (.func g) fi.toArray #[]) [.int .i64 (s:Nat)] (jp k B.p++F) (fun r H'=>r= .tuple #[]∧R H')):
  Call Tryz.prog w0 278 [.pointer (some ⟨k.b,0,none⟩), .int .i64 (s:Nat), .func (.func g) fi.toArray #[]] (jp k B.p++F) (fun r H'=>r= .int .i64 0∧(k.act=true→R H')∧(k.act=false→H'=jp k B.p++F)):=by
 cases ha:k.act with
 |true=>
  have h1:=hdo ha
  refine zi3 ?_;refine zck ?_;refine jq (jc5 ok hc) ?_;rw[jo,ha];refine zaM ?_;refine zJ ?_;refine zan ?_;refine zbu ?_;refine zi ?_;refine zp ?_;refine zw ?_;refine zaS ?_;refine zaC fun T hT=>?_;refine(CallV.part h1 (by rw[jo,ha];exact ja)).mono ?_;rintro _ H' ⟨rfl,hR⟩;refine zd ?_;clear hT T;refine zW ?_;refine za8 ?_;exact KE.fin je rfl jd ja ⟨rfl,fun _=>hR,fun h=>by grind⟩
 |false=>
  refine zi3 ?_;refine zck ?_;refine jq (jc5 ok hc) ?_;rw[jo,ha];refine zaM ?_;refine zJ ?_;refine zan ?_;refine zbu ?_;refine zi ?_;refine zp ?_;refine zw ?_;refine zaG ?_;refine zf ?_;exact KE.fin (H':=jp k B.p++F) je rfl jd (by rw[jo,ha];exact ja) ⟨rfl,fun h=>(by grind),fun _=>by grind[jo]⟩
theorem mkShade_K {s:Nat} (ok:MkOk k B.p) (hR:MkR k B.p m) (hs:s<B.p.g.slots):
  Call Tryz.prog w0 249 [.pointer (some ⟨k.b,0,none⟩), .int .i64 (s:Nat)] (jp k B.p++(planH B.p++F))
   (fun r H'=>r= .int .i64 0∧ ∃ k',MkOk k' B.p∧MkTo k k'∧MkR k' B.p (jb9 B.p.g k.g.ring.length m (s:Nat))∧H'=jp k' B.p++(planH B.p++F)):=by
 obtain⟨c,hc⟩:=jeb ok hs
 have hact:=hR.act
 unfold jb9;rw[←hact];refine Call.enter2 (n:=10) (by rfl) Tryz.func249 rfl rfl rfl ?_;refine zdx ?_;refine ze ?_;refine zaJ fun T hT=>?_;refine(CallV.fn (jl7 (fi:=[.pointer (some ⟨k.b,0,none⟩)]) (R:=fun H'=> ∃ k',MkOk k' B.p∧MkTo k k'∧MkR k' B.p (JP B.p.g k.g.ring.length m (s:Nat))∧H'=jp k' B.p++(planH B.p++F)) ok hc fun _=>CallV.bound (first:=[.pointer (some ⟨k.b,0,none⟩)]) (jg7 ok hR hs))).mono ?_;rintro _ H' ⟨rfl,h1,h2⟩
 cases ha:k.act with
 |true=>
  obtain⟨k',kok,kto,kR,rfl⟩:=h1 ha
  refine zd ?_;clear hT T;rw[ha];refine zf ?_;exact KE.fin je rfl jd ja ⟨rfl,k',kok,kto,kR,rfl⟩
 |false=>
  obtain rfl:=h2 ha
  refine zd ?_;clear hT T;rw[ha];refine zf ?_;exact KE.fin je rfl jd ja ⟨rfl,k,ok,MkTo.refl k,hR,rfl⟩
theorem mkStop_K (ha:k.act=true):Call Tryz.prog w0 295 [.pointer (some ⟨k.b,0,none⟩)] (jp k B.p++F) (fun r H'=>r= .int .i64 0∧H'=jp {k with act:=false} B.p++F):=by
 refine Call.enter1 (n:=5) (by rfl) Tryz.func295 rfl rfl rfl ?_;refine zbB ?_;refine jq (jko (p:=B.p) (v:=false) ha) ?_;exact zt
end
theorem nil_R {k:MkM} {p:jQ} {nw:Nat} {b:Bool} (h:MkNil k p) (hr:1≤k.g.ring.length) (ha:k.act=b) (hl:k.hs.length=nw+1):MkR k p (J5 p.g nw b):=
 ⟨h.c,⟨h.g.ow,h.g.di,by rw[h.g.first,h.g.many];exact⟨rfl,Nat.zero_le _,hr,fun i hi=>absurd hi (Nat.not_lt_zero _)⟩,by show k.g.at_=k.g.end_;rw [h.g.at_,h.g.end_],by rw[h.g.end_];omega⟩,by rw[h.hs,hl];rfl,h.root,ha,h.steps⟩
set_option maxRecDepth 10000
section
variable {w0 : World} {F : jb} {y : CyM} {s : CyP} {g : PlG} {long : Nat}
def goesY (y:CyM) (ph:Nat) (act:Bool):CyM:={y with s:={y.s with act:=act},ph:=ph}
theorem CpM.goes (h:CpM y s) (ph:Nat) (act:Bool):CpM (goesY y ph act) {s with sa:=act,ph:=ph}:=
 ⟨h.p,h.ok,h.R,h.oka,h.A,⟨h.oks.d,h.oks.dn,h.oks.at_⟩,rfl,h.at_,h.D,h.ab,h.bb,h.mb,rfl,h.st,h.nw⟩
set_option maxHeartbeats 1000000 in
theorem cygoes_K (hG:js w0) (h:CpM y s) (eg:y.B.p.g=g) (hi:CyPre g y.k.g.ring.length s):
  Call Tryz.prog w0 125 [.pointer (some ⟨y.b,0,none⟩)] (cycH y++F)
   (fun r H'=>r= .tuple #[]∧H'=cycH (goesY y (Jb g s).ph (Jb g s).sa)++F):=by
 subst eg
 have hph:=hi.ph
 have hdone:=fun A=>mkDone_K (w0:=w0) (F:=A) hG h.p h.ok h.R hi.m
 have e1:=h.ph
 have e2:=h.sa
 have e3:=h.at_
 have hdn:=h.oks.dn
 have hsp:=fun A (x:SpM)=>jho (w0:=w0) (F:=A) (s:=x)
 have hst:=fun A (ha:y.s.act=false)=>jmM (w0:=w0) (F:=A) (s:=y.s) ha
 unfold goesY;simp only[seenH_app] at hdone
 by_cases h1:s.ph=1
 ·obtain⟨p1,p2,p3,p4⟩:=hi.p1 h1
  have hsl:=h.p.bo.p.g.slots
  have hst':=fun A=>hst A (e2.trans p2)
  have e1':y.ph=1:=e1.trans h1
  cases hd:JV y.B.p.g s.W s.m with
  |true=>
   have hg:Jb y.B.p.g s={s with sa:=true,ph:=2}:=by
    unfold Jb;rw [if_pos ⟨h1,hd⟩,if_neg (by omega)]
   rw[hg];simp only[hd] at hdone
   have hnd:jbW {y.s with act:=true}=false:=by unfold jbW;dsimp only;rw [decide_eq_false (by omega)];rfl
   have hsp':=fun A=>hsp A {y.s with act:=true}
   rw[hnd] at hsp'
   obtain⟨yb,B,a,T,N,k,sp,nw,ph,st⟩:=y
   dsimp only at*;subst e1';refine zia ?_;simp only[cycH_app];refine zib ?_;refine zbj ?_;refine zp ?_;refine zJ ?_;refine zan ?_;refine zca ?_;refine zai ?_;refine zn ?_;refine ji (hdone _) ja ?_;refine zw ?_;refine zk ?_;refine zcI ?_;refine zjR ?_;refine zaf ?_;refine zcD ?_;refine zV ?_;refine ji (hst' _) ja ?_;refine za0 ?_;refine zbj ?_;refine zd6 ?_;refine zbu ?_;refine zO ?_;refine zdm ?_;refine zev ?_;refine zcD ?_;refine zV ?_;refine ji (hsp' _) ja ?_;refine zaR ?_;refine zc4 ?_;refine ziL ?_;exact zic
  |false=>
   have hg:Jb y.B.p.g s=s:=by
    unfold Jb;rw [if_neg (by rw[hd];simp),if_neg (by omega)]
   rw[hg];simp only[hd] at hdone;rw[←e1,←e2]
   obtain⟨yb,B,a,T,N,k,sp,nw,ph,st⟩:=y
   dsimp only at*;subst e1';refine zia ?_;simp only[cycH_app];refine zib ?_;refine zbj ?_;refine zp ?_;refine zJ ?_;refine zan ?_;refine zca ?_;refine zai ?_;refine zn ?_;refine ji (hdone _) ja ?_;refine zw ?_;refine zk ?_;refine zR ?_;refine zbu ?_;refine zeK ?_;refine zk ?_;refine zaR ?_;refine zc4 ?_;refine KE.blkO rfl ?_;refine ziK ?_;refine KE.blkO rfl ?_;refine zdW ?_;exact zic
 ·by_cases h2:s.ph=2
  ·obtain⟨p1,p2,p3⟩:=hi.p2 h2
   have e1':y.ph=2:=e1.trans h2
   have hnd:jbW y.s=decide (s.at_=y.B.p.g.slots):=by
    unfold jbW;rw [e2,p2,e3,hdn];rfl
   have hsp':=fun A=>hsp A y.s
   rw[hnd] at hsp'
   by_cases ha:s.at_=y.B.p.g.slots
   ·have hg:Jb y.B.p.g s={s with ph:=3}:=by
     unfold Jb;rw [if_neg (by omega),if_pos ⟨h2,ha⟩]
    rw[hg];rw[decide_eq_true ha] at hsp';dsimp only;rw[←e2]
    obtain⟨yb,B,a,T,N,k,sp,nw,ph,st⟩:=y
    dsimp only at*;subst e1';refine zia ?_;simp only[cycH_app];refine zib ?_;refine zbj ?_;refine zeK ?_;refine zdo ?_;refine zk ?_;refine zR ?_;refine zbu ?_;refine zp ?_;refine zfu ?_;refine zcI ?_;refine zk4 ?_;refine KE.blkO rfl ?_;refine zdW ?_;refine zev ?_;refine zcD ?_;refine zV ?_;refine ji (hsp' _) ja ?_;refine zaS ?_;refine zbj ?_;refine zO ?_;refine zaY ?_;refine zc4 ?_;refine ziL ?_;exact zic
   ·have hg:Jb y.B.p.g s=s:=by
     unfold Jb;rw [if_neg (by omega),if_neg (by omega)]
    rw[hg];rw[decide_eq_false ha] at hsp';rw[←e1,←e2]
    obtain⟨yb,B,a,T,N,k,sp,nw,ph,st⟩:=y
    dsimp only at*;subst e1';refine zia ?_;simp only[cycH_app];refine zib ?_;refine zbj ?_;refine zeK ?_;refine zdo ?_;refine zk ?_;refine zR ?_;refine zbu ?_;refine zp ?_;refine zfu ?_;refine zcI ?_;refine zk4 ?_;refine KE.blkO rfl ?_;refine zdW ?_;refine zev ?_;refine zcD ?_;refine zV ?_;refine ji (hsp' _) ja ?_;refine zaR ?_;refine zc4 ?_;refine ziL ?_;exact zic
  ·have hg:Jb y.B.p.g s=s:=by
    unfold Jb;rw [if_neg (by omega),if_neg (by omega)]
   rw[hg,←e1,←e2]
   have h1': ¬((y.ph:Nat):Int)=1:=by omega
   have h2': ¬((y.ph:Nat):Int)=2:=by omega
   refine zia ?_;simp only[cycH_app];refine zib ?_;refine zbj ?_;refine zeK ?_;refine zdo ?_;refine zk ?_;refine zR ?_;refine zbu ?_;refine zeK ?_;refine zk ?_;refine zaR ?_;refine zc4 ?_;refine KE.blkO rfl ?_;refine ziK ?_;refine KE.blkO rfl ?_;refine zdW ?_;exact zic
def jcD (y:CyM) (ph:Nat) (act:Bool):CyM:={y with s:={y.s with act:=act},ph:=ph,st:=y.st+1}
theorem jfQ (hG:js w0) (h:CpM y s) (eg:y.B.p.g=g) (hi:CyPre g y.k.g.ring.length s) (hst:s.st≤100000000):
  Call Tryz.prog w0 86 [.pointer (some ⟨y.b,0,none⟩), .bool true] (cycH y++F)
   (fun r H'=>r= .bool true∧H'=cycH (jcD y (madeC g s).ph (madeC g s).sa)++F):=by
 have h':CpM {y with st:=y.st+1} {s with st:=s.st+1}:=⟨h.p,h.ok,h.R,h.oka,h.A,h.oks,h.sa,h.at_,h.D,h.ab,h.bb,h.mb,h.ph,by rw[h.st],h.nw⟩
 have hi':CyPre g y.k.g.ring.length {s with st:=s.st+1}:=⟨hi.w,hi.rf,hi.m,hi.i,hi.A,hi.D,hi.p0,hi.p1,hi.p2,hi.p3,hi.ph,hi.dn⟩
 have hgo:=fun A=>cygoes_K (w0:=w0) (F:=A) hG h' eg hi'
 have e1:=h.st
 have e2:((y.st:Nat):Int)+1=((y.st+1:Nat):Int):=by omega
 obtain⟨q,hq⟩: ∃ q,madeC g s=q:=⟨_,rfl⟩
 have hq':Jb g {s with st:=s.st+1}=q:=hq
 rw[hq'] at hgo;rw[hq];unfold goesY at hgo;unfold jcD
 obtain⟨yb,B,a,T,N,k,sp,nw,ph,st⟩:=y
 dsimp only at*;refine Call.enter2 (n:=16) (by rfl) Tryz.func86 rfl rfl rfl ?_;simp only[cycH_app];refine zaa ?_;refine zac ?_;refine zK ?_;refine zaL ?_;refine zp ?_;refine zal ?_;refine zaQ ?_;refine zaL ?_;refine zO ?_;refine za0 ?_;refine zx fun T hT=>?_;rw[e2];refine(CallV.part (CallV.fn (hgo _)) (by simp only[cycH_app];exact ja)).mono ?_;rintro _ _ ⟨rfl,rfl⟩;refine zd ?_;clear hT T;refine zW ?_;refine za8 ?_;exact zlV
theorem cymade_E {b:Nat} {H:jb}:Call Tryz.prog w0 86 [.pointer (some ⟨b,0,none⟩), .bool false] H (fun r H'=>r= .bool false∧H'=H):=by
 refine Call.enter2 (n:=16) (by rfl) Tryz.func86 rfl rfl rfl ?_;refine zaa ?_;refine zaG ?_;exact zt
end
open Go.RowKit
set_option maxRecDepth 10000
section
variable {w0 : World} {F : jb} {y : CyM} {s : CyP} {g : PlG} {long : Nat}
def bndV (f:FuncId) (b:Nat):Value:= .func (.func f) [.pointer (some ⟨b,0,none⟩)].toArray #[]
theorem cywork1_K (e1:y.ph=1):Call Tryz.prog w0 87 [.pointer (some ⟨y.b,0,none⟩)] (cycH y++F)
  (fun r H'=>r= .agg [bndV 126 y.k.b,bndV 127 y.k.b].toArray∧H'=cycH y++F):=by
 have hph:=fun A=>jfz (w0:=w0) (F:=A) (y:=y)
 obtain⟨yb,B,a,T,N,k,sp,nw,ph,st⟩:=y
 dsimp only at*;subst e1;refine zkA ?_;refine ze0 ?_;intro b1 b2;refine zV ?_;refine ji (hph _) ja ?_;simp only[cycH_app];refine zdQ ?_;refine zfu ?_;refine zhi ?_;refine zlC ?_;refine zbN ?_;refine zet ?_;refine zP ?_;refine zhY ?_;refine zbN ?_;refine zet ?_;refine zP ?_;refine zhY ?_;refine zhJ ?_;refine ziY ?_;refine zfe ?_;refine zgL ?_;refine zcd ?_;exact zc8
theorem cywork2_K (e1:y.ph=2):Call Tryz.prog w0 87 [.pointer (some ⟨y.b,0,none⟩)] (cycH y++F)
  (fun r H'=> ∃ bl,r= .agg [.func (.func 128) #[] [.pointer (some ⟨bl,0,none⟩)].toArray,bndV 129 y.s.b].toArray∧H'=(bl,cells [.pointer (some ⟨y.b,0,none⟩)] 45)::(cycH y++F)):=by
 have hph:=fun A=>jfz (w0:=w0) (F:=A) (y:=y)
 obtain⟨yb,B,a,T,N,k,sp,nw,ph,st⟩:=y
 dsimp only at*;subst e1;refine zkA ?_;refine ze0 ?_;intro b1 b2;refine zV ?_;refine ji (hph _) ja ?_;simp only[cycH_app];refine zdQ ?_;refine zG ?_;refine zau ?_;refine zfu ?_;refine zac ?_;refine zbF ?_;refine zb2 ?_;refine zbI ?_;refine zp ?_;refine zbF ?_;refine zfz ?_;refine zcd ?_;exact KE.fin je rfl jd (by first|exact ja|(simp only[cycH_app,seenH_app];exact ja)) ⟨b1,rfl,rfl⟩
theorem jjL (e1:y.ph≠1) (e2:y.ph≠2):Call Tryz.prog w0 87 [.pointer (some ⟨y.b,0,none⟩)] (cycH y++F)
  (fun r H'=>r= .agg [.func (.func 130) #[] #[], .func (.func 131) #[] #[]].toArray∧H'=cycH y++F):=by
 have hph:=fun A=>jfz (w0:=w0) (F:=A) (y:=y)
 have h1: ¬((y.ph:Nat):Int)=1:=by omega
 have h2: ¬((y.ph:Nat):Int)=2:=by omega
 refine zkA ?_;refine ze0 ?_;intro b1 b2;refine zV ?_;refine ji (hph _) ja ?_;refine zdQ ?_;refine zG ?_;refine zau ?_;refine zG ?_;refine zay ?_;refine zfz ?_;exact zc8
theorem CpM.made (h:CpM y s):CpM (jcD y (madeC g s).ph (madeC g s).sa) (madeC g s):=by
 obtain⟨a,b,c,d,e⟩:=jcO (g:=g) (s:={s with st:=s.st+1})
 have f:(madeC g s).st=s.st+1:=jeX (s:={s with st:=s.st+1})
 refine⟨?_,h.ok,?_,h.oka,?_,⟨h.oks.d,h.oks.dn,h.oks.at_⟩,rfl,?_,?_,h.ab,h.bb,h.mb,rfl,?_,h.nw⟩
 ·show MpR y.k y.B y.T y.N (Jb g {s with st:=s.st+1}).W;rw [a];exact h.p
 ·show MkR y.k y.B.p (Jb g {s with st:=s.st+1}).m;rw [b];exact h.R
 ·show y.a.r.bs=(Jb g {s with st:=s.st+1}).A;rw [c];exact h.A
 ·show y.s.at_=(Jb g {s with st:=s.st+1}).at_;rw [d];exact h.at_
 ·show y.s.d.bs=(Jb g {s with st:=s.st+1}).D;rw [e];exact h.D
 ·show y.st+1=(madeC g s).st;rw [f,h.st]
theorem CpM.mark {k':MkM} {m':MaP} (h:CpM y s) (kok:MkOk k' y.B.p) (kto:MkTo y.k k') (kR:MkR k' y.B.p m'):CpM {y with k:=k'} {s with m:=m'}:=
 ⟨h.p.to kto,kok,kR,h.oka,h.A,h.oks,h.sa,h.at_,h.D,h.ab,h.bb,h.mb.trans kto.b.symm,h.ph,h.st,by rw[kto.n];exact h.nw⟩
theorem jig:(madeC g s).W=s.W:=(jcO (g:=g) (s:={s with st:=s.st+1})).1
theorem CpR.mark {k':MkM} {m':MaP} {hd v:Int} (h:CpR g long y s) (h1:s.ph=1) (hm:j1 g long s.W s.m hd v=some m') (hle:JY g (madeC g {s with m:=m'})) (kok:MkOk k' y.B.p) (kto:MkTo y.k k') (kR:MkR k' y.B.p m'):
  CpR g long (jcD {y with k:=k'} (madeC g {s with m:=m'}).ph (madeC g {s with m:=m'}).sa) (madeC g {s with m:=m'}):=
 have okg:jc g:=by rw[←h.eg];exact h.p.bo.p.g
 ⟨(h.toCpM.mark kok kto kR).made,h.eg,kto.l.trans h.el,jef okg (jdz okg h.i h1 hm),hle⟩
theorem mark_to {k':MkM} {m':MaP} (h:CpR g long y s) (kto:MkTo y.k k') {ph:Nat} {sa:Bool}:JB y (jcD {y with k:=k'} ph sa) (madeC g {s with m:=m'}).W.x 0:=by
 refine⟨rfl,?_,rfl,rfl,rfl,rfl,kto.toMkAs,kto.f,rfl,rfl⟩;rw[jig];exact(jbz h.p.bo).symm
def jbS (y:CyM) (x:List Int) (gone:Bool):CyM:={y with B:=jbd y.B x,s:={y.s with d:=if gone then Jx y.s.d y.s.at_ true else y.s.d,at_:=y.s.at_+1}}
theorem jgi (B:BoM) (x:List Int):jR (jbd B x)=jR B∧(jbd B x).m=jaf B.m B.t x∧(jbd B x).p=B.p:=⟨rfl,rfl,rfl⟩
theorem CpM.sweep {s':CyP} {x:List Int} {b:Bool} (h:CpM y s) (hw:JX y.B.p.g {s.W with x:=x}) (hl:y.s.at_+1≤y.B.p.g.slots) (e1:s'={s with W:={s.W with x:=x},D:=(if b then s.D.set s.at_ true else s.D),at_:=s.at_+1}):CpM (jbS y x b) s':=by
 subst e1;refine⟨⟨setB_ok h.p.bo (by rw[hw.x,h.p.w.x]) hw.w,h.p.tb,h.p.pi,h.p.eT,h.p.eN,h.p.bb,h.p.tbb,h.p.nb,hw⟩,h.ok,h.R,h.oka,h.A,?_,h.sa,by show y.s.at_+1=_;rw [h.at_],?_,h.ab,h.bb,h.mb,h.ph,h.st,h.nw⟩
 ·cases b
  ·exact⟨h.oks.d,h.oks.dn,hl⟩
  ·exact⟨jdw h.oks.d _ _,by show(y.s.d.bs.set _ _).length=_;rw [List.length_set];exact h.oks.dn,hl⟩
 ·cases b
  ·exact h.D
  ·show y.s.d.bs.set _ _=s.D.set _ _
   rw[h.D,h.at_]
def SwQ (w0:World) (g:PlG) (y:CyM) (s:CyP):Prop:= ∃ s' b,sweepC g s=some s'∧CpM (jbS y s'.W.x b) s'∧ ∀ F,Call Tryz.prog w0 129 [.pointer (some ⟨y.s.b,0,none⟩)] (cycH y++F) (fun r H'=>r= .bool true∧H'=cycH (jbS y s'.W.x b)++F)
set_option maxHeartbeats 1000000 in
theorem jjM (h:CpR g long y s) (h2:s.ph=2):SwQ w0 g y s:=by
 have okg:jc g:=by rw[←h.eg];exact h.p.bo.p.g
 have hlt:=h.i.lt h2
 obtain⟨p1,p2,p3⟩:=h.i.p2 h2
 obtain⟨yy,hy⟩:=jY (g:=y.B.p.g) (i:=y.s.at_) (by rw[h.at_,h.eg];exact hlt)
 obtain⟨c,hc⟩:=jeb h.ok (s:=y.s.at_) (by rw[h.at_,h.eg];exact hlt)
 have hstep:=fun A=>spStep_K (w0:=w0) (F:=A) h.oks h.oka h.p.bo h.ok (h.sa.trans p2) hy hc h.ab h.bb h.mb
 have hmc:s.m.C[s.at_]?=some c:=by rw[←h.R.C,←h.at_];exact hc
 have hgone:goneC y.a y.s.at_ c=decide (s.A[s.at_]?=some true∧s.m.C[s.at_]?=some 0):=by
  unfold goneC;rw[h.A,h.at_,hmc]
  obtain⟨v,hv⟩:=jA (l:=s.A) (k:=s.at_) (by rw[h.i.A];exact hlt)
  rw[hv]
  cases v<;>simp
 rw[hgone] at hstep
 have hyA:ju g (s.at_:Nat)=yy:=by rw[←h.eg,←h.at_];exact jC hy
 by_cases hg:s.A[s.at_]?=some true∧s.m.C[s.at_]?=some 0
 ·have hsw:sweepC g s=some {s with W:={s.W with x:=JU s.W.x yy},D:=s.D.set s.at_ true,at_:=s.at_+1}:=by
   unfold sweepC;rw [if_pos ⟨p2,hlt⟩,if_pos hg,hyA]
  obtain⟨w1,w2,w3⟩:=h.i.toCyPre.wipe okg h2 hlt
  rw[hyA] at w1;refine⟨_,true,hsw,h.toCpM.sweep (by rw[h.eg];exact w1) (by rw[h.at_,h.eg];exact hlt) rfl,fun F=>?_⟩;simp only[decide_eq_true hg,if_true] at hstep;refine Call.at_ (hstep _) (by simp only[cycH_app];exact ja) ?_;rintro _ _ ⟨rfl,rfl⟩;exact⟨_,⟨rfl,rfl⟩,by unfold jbS;simp only[cycH_app,jgi];exact ja⟩
 ·have hsw:sweepC g s=some {s with W:={s.W with x:=s.W.x},D:=s.D,at_:=s.at_+1}:=by
   unfold sweepC;rw [if_pos ⟨p2,hlt⟩,if_neg hg]
  refine⟨_,false,hsw,h.toCpM.sweep h.p.w (by rw[h.at_,h.eg];exact hlt) rfl,fun F=>?_⟩;simp only[decide_eq_false hg,if_neg Bool.false_ne_true] at hstep;refine Call.at_ (hstep _) (by simp only[cycH_app];exact ja) ?_;rintro _ _ ⟨rfl,rfl⟩
  have hb:jbd y.B s.W.x=y.B:=jbz h.p.bo
  exact⟨_,⟨rfl,rfl⟩,by unfold jbS;dsimp only;rw [hb];simp only[cycH_app,if_neg Bool.false_ne_true];exact ja⟩
theorem CpR.sweep {s':CyP} {b:Bool} (h:CpR g long y s) (h2:s.ph=2) (hs:sweepC g s=some s') (hm:CpM (jbS y s'.W.x b) s') (hle:JY g (madeC g s')):
  CpR g long (jcD (jbS y s'.W.x b) (madeC g s').ph (madeC g s').sa) (madeC g s'):=
 have okg:jc g:=by rw[←h.eg];exact h.p.bo.p.g
 ⟨hm.made,h.eg,h.el,jef okg (jcu okg h.i h2 hs).1,hle⟩
theorem jj2 {x:List Int} {b:Bool} {ph:Nat} {sa:Bool}:JB y (jcD (jbS y x b) ph sa) x 0:=⟨rfl,rfl,rfl,rfl,rfl,rfl,⟨rfl,rfl,rfl,rfl,rfl,rfl⟩,rfl,rfl,rfl⟩
theorem CpR.refl (h:CpR g long y s):CyQ g long y 0 F s (cycH y++F):=⟨y,h,JB.refl h.toCpM,rfl⟩
theorem cysw1_K {hd v:Int} {bl:Nat} (hv:v=5∧0≤hd∧hd≤((y.nw:Nat):Int)) {x:List Int} {b:Bool} (hc: ∀ F,Call Tryz.prog w0 129 [.pointer (some ⟨y.s.b,0,none⟩)] (cycH y++F) (fun r H'=>r= .bool true∧H'=cycH (jbS y x b)++F)):
  Call Tryz.prog w0 128 [.int .i64 hd, .int .u8 v, .pointer (some ⟨bl,0,none⟩)] ((bl,cells [.pointer (some ⟨y.b,0,none⟩)] 45)::(cycH y++F)) (fun r H'=>r= .bool true∧H'=cycH (jbS y x b)++F):=by
 obtain⟨rfl,h1,h2⟩:=hv
 have h1':hd≥0:=h1
 refine zjt ?_;simp only[cycH_app];refine zf2 ?_;refine zd8 ?_;refine zaz ?_;refine zb1 ?_;refine zip ?_;refine zir ?_;refine zfw ?_;refine zam ?_;refine zbw ?_;refine zip ?_;refine zir ?_;refine zbI ?_;refine zai ?_;refine zq fun T hT=>?_;refine(CallV.part (CallV.fn (hc _)) (by simp only[cycH_app];exact ja)).mono ?_;rintro _ _ ⟨rfl,rfl⟩;refine zd ?_;clear hT T;refine zcE ?_;exact zlV
theorem cysw1_E {hd v:Int} {bl:Nat} (hv: ¬(v=5∧0≤hd∧hd≤((y.nw:Nat):Int))):
  Call Tryz.prog w0 128 [.int .i64 hd, .int .u8 v, .pointer (some ⟨bl,0,none⟩)] ((bl,cells [.pointer (some ⟨y.b,0,none⟩)] 45)::(cycH y++F)) (fun r H'=>r= .bool false∧H'=cycH y++F):=by
 by_cases h5:v=5
 ·subst h5
  by_cases h0:hd≥0
  ·have h2: ¬hd≤((y.nw:Nat):Int):=fun e=>hv ⟨rfl,h0,e⟩
   refine zjt ?_;simp only[cycH_app];refine zf2 ?_;refine zd8 ?_;refine zaz ?_;refine zb1 ?_;refine zip ?_;refine zir ?_;refine zfw ?_;refine zcr ?_;refine zw ?_;refine zdo ?_;refine zf ?_;exact zc8
  ·refine zjt ?_;simp only[cycH_app];refine zf2 ?_;refine zd8 ?_;refine zbO ?_;refine zw ?_;refine zfh ?_;refine zdo ?_;refine zf ?_;exact zc8
 ·refine zjt ?_;simp only[cycH_app];refine zf2 ?_;refine zG ?_;refine zaO ?_;refine zfh ?_;refine zdo ?_;refine zf ?_;exact zc8
theorem cyw2_K {hd v:Value} {H:jb}:Call Tryz.prog w0 130 [hd,v] H (fun r H'=>r= .bool false∧H'=H):=by
 refine Call.enter2 (n:=5) (by rfl) Tryz.func130 rfl rfl rfl ?_;refine z7 ?_;exact zt
theorem cyw3_K {H:jb}:Call Tryz.prog w0 131 [] H (fun r H'=>r= .bool false∧H'=H):=by
 refine Call.enter0 (n:=1) (by rfl) Tryz.func131 rfl rfl rfl ?_;refine z7 ?_;exact zt
set_option maxHeartbeats 4000000 in
theorem cyStep_K {hd v:Int} (hG:js w0) (h:CpR g long y s) (hv:0≤v∧v<256):
  Call Tryz.prog w0 48 [.pointer (some ⟨y.b,0,none⟩), .int .i64 hd, .int .u8 v] (cycH y++F) (fun r H'=>r= .bool (stepC g long y.nw s hd v).isSome∧CyQ g long y 0 F ((stepC g long y.nw s hd v).getD s) H'):=by
 have okg:jc g:=by rw[←h.eg];exact h.p.bo.p.g
 have hls:=h.le.s
 have hlm:=h.le.m
 have hst:s.st≤100000000:=by omega
 have hmst:s.m.steps≤1000000000:=by omega
 by_cases h1:s.ph=1
 ·have hss:stepC g long y.nw s hd v=(j1 g long s.W s.m hd v).map fun m'=>madeC g {s with m:=m'}:=by unfold stepC;rw [if_pos h1]
  have hstep:=fun A=>jjx (w0:=w0) (F:=A) (hd:=hd) (v:=v) hG h.p h.ok h.R (by rw[h.eg,h.el];exact h.i.m) hmst hv
  unfold ja5 at hstep;rw[h.eg,h.el] at hstep;simp only[seenH_app] at hstep
  cases hm:j1 g long s.W s.m hd v with
  |some m'=>
   have hle:=h.le.step (nw:=y.nw) okg h.i (k:=hd) (u:=v) (s':=madeC g {s with m:=m'}) (by rw[hss,hm];rfl)
   rw[hss];simp only[hm,Option.map_some,Option.isSome_some,Option.getD_some] at hstep⊢
   have hmk:=fun A k' kok kto kR=>jfQ (w0:=w0) (F:=A) hG (h.toCpM.mark (k':=k') (m':=m') kok kto kR) h.eg (by show CyPre g k'.g.ring.length _;rw [kto.l,h.el];exact jdz okg h.i h1 hm) hst
   have hR:=fun k' kok kto kR=>h.mark (k':=k') h1 hm hle kok kto kR
   have hT:=fun k' kto=>mark_to (k':=k') (m':=m') (ph:=(madeC g {s with m:=m'}).ph) (sa:=(madeC g {s with m:=m'}).sa) h kto
   unfold CyQ
   obtain⟨s',hs'⟩: ∃ s',madeC g {s with m:=m'}=s':=⟨_,rfl⟩
   simp only[hs'] at hmk hR hT⊢;refine zid ?_;refine zck ?_;refine zju ?_;unfold bndV;refine zie ?_;refine zaC fun T hT=>?_;refine zjv ?_;rintro _ _ ⟨rfl,k',kok,kto,kR,rfl⟩;refine zd ?_;clear hT T;refine zq fun T hT=>?_;refine(CallV.part (CallV.fn (hmk _ k' kok kto kR)) (by simp only[cycH_app,kto.b];exact ja)).mono ?_;rintro _ _ ⟨rfl,rfl⟩;refine zd ?_;clear hT T;refine zf ?_;exact KE.fin je rfl jd ja ⟨rfl,_,hR k' kok kto kR,hT k' kto,rfl⟩
  |none=>
   rw[hss];simp only[hm,Option.map_none,Option.isSome_none,Option.getD_none] at hstep⊢
   have hR:=fun k' kok kto kR=>CpR.mk (h.toCpM.mark (k':=k') (m':=s.m) kok kto kR) h.eg (kto.l.trans h.el) h.i h.le
   have hT:=fun k' (kto:MkTo y.k k')=>(⟨rfl,(jbz h.p.bo).symm,rfl,rfl,rfl,rfl,kto.toMkAs,kto.f,rfl,rfl⟩:JB y {y with k:=k'} s.W.x 0)
   unfold CyQ;refine zid ?_;refine zck ?_;refine zju ?_;unfold bndV;refine zie ?_;refine zaC fun T hT=>?_;refine zjv ?_;rintro _ _ ⟨rfl,k',kok,kto,kR,rfl⟩;refine zd ?_;clear hT T;refine ziF ?_;refine zf ?_;exact zlW
 ·by_cases h2:s.ph=2
  ·by_cases hc:v=5∧0≤hd∧hd≤((y.nw:Nat):Int)
   ·obtain⟨s',b,hs,hM,hcall⟩:=jjM (w0:=w0) h h2
    have hss:stepC g long y.nw s hd v=some (madeC g s'):=by unfold stepC;rw [if_neg h1,if_pos ⟨h2,hc⟩,hs];rfl
    have hle:=h.le.step (nw:=y.nw) okg h.i (k:=hd) (u:=v) hss
    have hcy:=jcu okg h.i h2 hs
    rw[hss];simp only[Option.isSome_some,Option.getD_some]
    have hmk:=fun A=>jfQ (w0:=w0) (F:=A) hG hM h.eg (by show CyPre g y.k.g.ring.length _;rw [h.el];exact hcy.1) (by rw[hcy.2.2.2.2.2.2.2];exact hst)
    have hR:=h.sweep h2 hs hM hle
    have hT:JB y (jcD (jbS y s'.W.x b) (madeC g s').ph (madeC g s').sa) (madeC g s').W.x 0:=by rw[jig];exact jj2
    unfold CyQ
    obtain⟨q,hq⟩: ∃ q,madeC g s'=q:=⟨_,rfl⟩
    rw[hq] at hmk hR hT⊢;refine zid ?_;refine zll ?_;rintro _ _ ⟨bl,rfl,rfl⟩;unfold bndV;refine zie ?_;refine zaC fun T hT=>?_;refine(CallV.part (CallV.clo (cap:=[.pointer (some ⟨bl,0,none⟩)]) (cysw1_K hc hcall)) ja).mono ?_;rintro _ _ ⟨rfl,rfl⟩;refine zd ?_;clear hT T;refine zn ?_;refine ji (hmk _) ja ?_;refine zf ?_;exact KE.fin je rfl jd ja ⟨rfl,_,hR,hT,rfl⟩
   ·have hss:stepC g long y.nw s hd v=none:=by unfold stepC;rw [if_neg h1,if_neg (fun e=>hc e.2)]
    rw[hss];simp only[Option.isSome_none,Option.getD_none]
    have hQ:=fun A=>CpR.refl (F:=A) h
    refine zid ?_;refine zll ?_;rintro _ _ ⟨bl,rfl,rfl⟩;unfold bndV;refine zie ?_;refine zaC fun T hT=>?_;refine(CallV.part (CallV.clo (cap:=[.pointer (some ⟨bl,0,none⟩)]) (cysw1_E hc)) ja).mono ?_;rintro _ _ ⟨rfl,rfl⟩;refine zd ?_;clear hT T;refine ziF ?_;exact zlj
  ·have hss:stepC g long y.nw s hd v=none:=by unfold stepC;rw [if_neg h1,if_neg (fun e=>h2 e.1)]
   rw[hss];simp only[Option.isSome_none,Option.getD_none]
   have hQ:=fun A=>CpR.refl (F:=A) h
   refine zid ?_;refine zck ?_;refine ji (jjL (by rw[h.ph];exact h1) (by rw[h.ph];exact h2)) ja ?_;refine zie ?_;refine zat ?_;refine jq cyw2_K ?_;refine ziF ?_;exact zlj
end
end Go.Proofs.YtpcgafhgfjlkmaaGreatDoor.Sw
