/-The walker and the contracts that the law needs,part 27. -/
import Derived.Test.YtpcgafhgfjlkmaaGreatDoorD1
import Derived.ArgAppend
import Derived.ChangeMaps5
import Derived.Deep.Fields
import Derived.Deep.LoopGhost
import Derived.Deep.OwnRows
import Derived.Deep.Quiet
import Derived.Deep.Slices
import Derived.IntWalk
import Derived.Laws.Cells
import Derived.Laws.CopyOwn
import Derived.Laws.Externs
import Derived.Laws.FloatArith
import Derived.Laws.IdiomStrings
import Derived.Laws.NewFold
import Derived.Laws.StructEq
import Derived.Lib.BitFns
import Derived.Lib.Hide
import Derived.Lib.SmallJoins
import Derived.Lib.TrailingZeros
import Derived.Maps.RangeRun
import Derived.OrdersIn
import Derived.ProofKit
import Derived.RangeFuncBound
import Derived.RangeFuncCalls
import Derived.RangeFuncLeaves
import Derived.RangeFuncNested
import Derived.RecoverIn
import Derived.Shelf.Bits.Mul64
import Derived.Shelf.Slices.Turned
import Derived.Shelf.Spec.TrailingZeros
import Derived.Shelf.Strconv.Itoa0
import Derived.SizedLaws
import Derived.Sort.BigQuietIn
import Derived.StillTailTactics
import Derived.Test.YtpcgafhgfjlkmaaGreatDoorProg
import Derived.WalkKit
import Derived.Test.YtpcgafhgfjlkmaaGreatDoorJ25
set_option linter.unusedVariables false set_option linter.unusedSimpArgs false set_option linter.unusedVariables false
set_option linter.unusedSimpArgs false
namespace Go.Proofs.YtpcgafhgfjlkmaaGreatDoor.Sw
set_option maxHeartbeats 8000000
open Go.Proofs.YtpcgafhgfjlkmaaGreatDoor renaming lo → qL, hi → qH
open Go.RowKit
set_option maxRecDepth 10000
structure ArM where
 b:Nat
 r:jan
def jW (a:ArM) (p:jQ):jb:=(a.b,cells [.pointer (some ⟨p.b,0,none⟩), .pointer (some ⟨a.r.b,0,none⟩), .int .i64 (usedL p.g.L a.r.bs:Nat)] 115)::jH a.r
theorem arenaH_app {a:ArM} {p:jQ} {F:jb}:jW a p++F=(a.b,cells [.pointer (some ⟨p.b,0,none⟩), .pointer (some ⟨a.r.b,0,none⟩), .int .i64 (usedL p.g.L a.r.bs:Nat)] 115)::(jH a.r++F):=rfl
structure jah (a:ArM) (p:jQ):Prop where
 pl:J6 p
 r:RowOk a.r
 n:a.r.bs.length=p.g.slots
theorem jfE {a:ArM} {p:jQ} (ok:jah a p) (A:List Bool):usedL p.g.L A≤1048576:=by
 have h:=jk2 (B:=64) (l:=p.g.L) (A:=A) (fun q hq=>by
  obtain⟨i,hi⟩:=List.getElem?_of_mem hq
  exact(ok.pl.g.fits hi).2.2.1)
 have:=ok.pl.g.slots.2
 grind[jbX]
def setA (a:ArM) (i:Nat) (v:Bool):ArM:=⟨a.b,Jx a.r i v⟩
theorem setA_ok {a:ArM} {p:jQ} (ok:jah a p) (i:Nat) (v:Bool):jah (setA a i v) p:=⟨ok.pl,jdw ok.r i v,by simp[setA,Jx,ok.n]⟩
theorem jea {w0:World} {F:jb} {a:ArM} {p:jQ}:
  Call Tryz.prog w0 59 [.pointer (some ⟨a.b,0,none⟩)] (jW a p++F) (fun r H'=>r= .bool false∧H'=jW a p++F):=by
 refine Call.enter1 (n:=12) (by rfl) Tryz.func59 rfl rfl rfl ?_;simp only[Jg,arenaH_app];refine zcp ?_;refine zbh ?_;refine zef ?_;refine zf ?_;exact zlK
theorem Has_K {w0:World} {F:jb} {a:ArM} {p:jQ} {i:Int} (ok:jah a p):
  Call Tryz.prog w0 24 [.pointer (some ⟨a.b,0,none⟩), .int .i64 i] (jW a p++F) (fun r H'=>r= .bool (getB a.r.bs i)∧H'=jW a p++F):=by
 have okr:=ok.r
 refine Call.enter2 (n:=16) (by rfl) Tryz.func24 rfl rfl rfl ?_;refine zbB ?_;refine jq (jea (a:=a) (p:=p)) ?_;simp only[Jg,arenaH_app];refine zU ?_;refine zan ?_;refine zbh ?_;refine zL ?_;refine zn ?_;refine ji (Get_K (i:=i) okr) ja ?_;simp only[Jg,jO];refine zcE ?_;exact zlK
theorem aCopy_K {w0:World} {F:jb} {a:ArM} {p:jQ} (ok:jah a p):
  Call Tryz.prog w0 152 [.pointer (some ⟨a.b,0,none⟩)] (jW a p++F) (fun r H'=> ∃ a':ArM,jah a' p∧a'.r.bs=a.r.bs∧r= .pointer (some ⟨a'.b,0,none⟩)∧H'=jW a' p++(jW a p++F)):=by
 have okr:=ok.r
 refine Call.enter1 (n:=20) (by rfl) Tryz.func152 rfl rfl rfl ?_;refine zY ?_;refine jq (jea (a:=a) (p:=p)) ?_;simp only[Jg,arenaH_app];refine zbU ?_;refine K.drawn _ [(0,1),(1,1),(2,1),(3,1),(4,0),(5,0),(6,0),(7,0),(9,1),(10,1),(11,1),(12,1),(8,2),(13,0),(14,2),(15,0)] (by rfl) (by rfl) (by kernel_rfl) (by rfl) (by rfl) (by rfl) Part.all ?_;refine zdA ?_;refine zgc ?_;refine zeZ ?_;refine zdA ?_;refine zeL ?_;refine zl fun T hT=>?_;refine(CallV.part (CallV.fn (jia okr)) ja).mono ?_;rintro _ _ ⟨r',kr',hbs,rfl,rfl⟩;refine zg ?_;clear hT T;simp only[Jg,jO];refine zlk ?_;intro b19;refine zbQ ?_;refine zaV ?_;exact KE.fin (H':=jW ⟨b19,r'⟩ p++(jW a p++F)) je rfl jd (by simp only[arenaH_app,Jg,hbs];exact ja) ⟨⟨b19,r'⟩,⟨ok.pl,kr',by rw[hbs];exact ok.n⟩,hbs,rfl,rfl⟩
theorem aNew_K {w0:World} {F:jb} {p:jQ} (ok:J6 p):
  Call Tryz.prog w0 99 [.pointer (some ⟨p.b,0,none⟩)] (planH p++F) (fun r H'=> ∃ a:ArM,jah a p∧a.r.bs=List.replicate p.g.slots false∧r= .tuple [.pointer (some ⟨a.b,0,none⟩), .int .i64 0].toArray∧H'=jW a p++(planH p++F)):=by
 have hs:=ok.g.slots
 have hne: ¬((p.g.slots:Nat):Int)=0:=by omega
 refine Call.enter1 (n:=20) (by rfl) Tryz.func99 rfl rfl rfl ?_;refine zfH ?_;refine jq (jdu ok) ?_;refine zG ?_;refine zz ?_;refine zo ?_;refine jq (jdu ok) ?_;refine zn ?_;refine jat (je5 (n:=p.g.slots) (by omega)) ?_;rintro _ _ ⟨r,kr,hbs,rfl,rfl⟩;refine zQ ?_;refine zm ?_;refine zei ?_;intro b18;refine zbl ?_
 have hu:usedL p.g.L r.bs=0:=by grind[jfD]
 exact KE.fin (H':=jW ⟨b18,r⟩ p++(planH p++F)) je rfl jd (by simp only[arenaH_app,hu];exact ja) ⟨⟨b18,r⟩,⟨ok,kr,by grind⟩,hbs,rfl,rfl⟩
theorem turn_K {w0:World} {F:jb} {a:ArM} {p:jQ} {i:Nat} {v:Bool} {x:jg} {g:FuncId} {cap:List Value} {u:Int} (ok:jah a p) (hx:p.g.L[i]?=some x) (hu:u=(usedL p.g.L (a.r.bs.set i v):Nat))
  (hf: ∀ H',Part H' ((a.b,cells [.pointer (some ⟨p.b,0,none⟩), .pointer (some ⟨a.r.b,0,none⟩), .int .i64 (usedL p.g.L a.r.bs:Nat)] 115)::F)→CallV Tryz.prog w0 (.func (.func g) #[] cap.toArray) [.int .i64 (x.size:Nat)] H' (fun r H''=>r= .int .i64 u∧H''=H')):
  Call Tryz.prog w0 236 [.pointer (some ⟨a.b,0,none⟩), .int .i64 (i:Nat), .bool v, .func (.func g) #[] cap.toArray] (jW a p++(planH p++F)) (fun r H'=>r= .tuple #[]∧H'=jW (setA a i v) p++(planH p++F)):=by
 have okr:=ok.r
 have okp:=ok.pl
 have hil:i<a.r.bs.length:=by rw[ok.n,←jbX];grind
 refine Call.enter4 (n:=32) (by rfl) Tryz.func236 rfl rfl rfl ?_;simp only[Jg,jO,arenaH_app];refine zy ?_;refine zK ?_;refine zB ?_;refine zx fun T hT=>?_;refine(CallV.part (CallV.fn (Size0_K okp hx)) (by first|exact ja|(simp only[Jg,jO,arenaH_app];exact ja))).mono ?_;rintro _ _ ⟨rfl,rfl⟩;refine zd ?_;clear hT T;simp only[jO];refine zQ ?_;refine zK ?_;refine zF ?_;refine zaC fun T hT=>?_;refine(CallV.part (CallV.fn (jdU (v:=v) okr hil)) (by first|exact ja|(simp only[Jg,jO,arenaH_app];exact ja))).mono ?_;rintro _ _ ⟨rfl,rfl⟩;refine zd ?_;clear hT T;refine za0 ?_;refine zm ?_;refine zx fun T hT=>?_;refine(hf _ ja).mono ?_;rintro _ _ ⟨rfl,rfl⟩;refine zd ?_;clear hT T;refine zaQ ?_;refine zbn ?_;refine zO ?_;refine zN ?_;subst hu;exact KE.finN (H':=jW (setA a i v) p++(planH p++F)) je rfl jd (by simp only[arenaH_app,jO,setA];exact ja) ⟨rfl,rfl⟩
open Go.RowKit
set_option maxRecDepth 10000
structure FnP where
 f:FuncId
 first:List Value
 cap:List Value
def fnE:Enc FnP:=⟨fun x=> [.func (.func x.f) x.first.toArray x.cap.toArray],1,fun _=>rfl,by intro x v hv;simp at hv;subst hv;rfl⟩
theorem all_not {q:Nat→Bool} {k n:Nat} (hk:k<n) (h:q k=false):(List.range n).all q=false:=by
 grind
structure HoS where
 k:Nat
theorem hold_K {w0:World} {H:jb} {v:Value} {l:List FnP} {z:Int} (q:Nat→Bool) (hS:Sli w0 H fnE v l) (hl:l.length≤1000)
  (hy: ∀ i x,l[i]?=some x→CallV Tryz.prog w0 (.func (.func x.f) x.first.toArray x.cap.toArray) [.int .i64 z] H (fun r H'=>r= .bool (q i)∧H'=H)):
  Call Tryz.prog w0 174 [.int .i64 z,v] H (fun r H'=>r= .bool ((List.range l.length).all q)∧H'=H):=by
 refine Call.enter2 (n:=18) (by rfl) Tryz.func174 rfl rfl rfl ?_;refine zfF ?_;refine zcH ?_;refine K.loopT (σ:=HoS) [(0,_),(7,_),(8,_)] (fun s kp_=>(9, .int .i64 (s.k:Nat))::kp_) (fun s=>H) (fun s=>s.k≤l.length∧(List.range s.k).all q=true) (fun s=>l.length-s.k) (⟨0⟩) jj ja (⟨Nat.zero_le _,rfl⟩) ?_;rintro⟨k⟩ ⟨hk,hq⟩;dsimp only at hk hq⊢
 by_cases hlt:k<l.length
 ·obtain⟨x,hx⟩:=jA hlt
  have hyk:=hy k x hx
  refine zaN ?_;refine zbr ?_;refine z8 ?_;refine zu ?_;refine zaC fun T hT=>?_;refine hyk.mono ?_;rintro _ _ ⟨rfl,rfl⟩
  cases hqk:q k with
  |true=>
   have hq':(List.range (k+1)).all q=true:=by grind
   refine zd ?_;clear hT T;refine zE ?_;refine zbq ?_;refine zbL ?_;refine zal ?_;refine zff ?_;exact KE.again ⟨k+1⟩ jj ja ⟨hlt,hq'⟩ (by grind)
  |false=>
   have hr:=all_not hlt hqk
   refine zd ?_;clear hT T;rw[hr];refine zeQ ?_;refine zfj ?_;exact zZ
 ·have:k=l.length:=by omega
  subst this;rw[hq];refine zeR ?_;exact zt
theorem step1_K {w0:World} {F:jb} {s:SpM} {k:MkM} {p:jQ} {b1 i:Nat} {c:Int} (ok:MkOk k p) (hc:(tiC k.c)[i]?=some c) (hm:s.mb=k.b):
  Call Tryz.prog w0 175 [.int .i64 (i:Nat), .pointer (some ⟨b1,0,none⟩)] ((b1,cells [.pointer (some ⟨s.b,0,none⟩)] 105)::(J9 s++(jp k p++F)))
   (fun r H'=>r= .bool (decide (c=0))∧H'=(b1,cells [.pointer (some ⟨s.b,0,none⟩)] 105)::(J9 s++(jp k p++F))):=by
 refine Call.enter2 (n:=17) (by rfl) Tryz.func175 rfl rfl rfl ?_;simp only[sweepH_app,hm];refine z7 ?_;refine zb2 ?_;refine zI ?_;refine zo ?_;refine ji (jc5 ok hc) ja ?_;refine zcZ ?_;refine KL.v rfl (Val.eql rfl rfl) ?_;exact zt
section
variable {w0 : World} {F : jb} {s : SpM} {a : ArM} {B : BoM} {k : MkM} {x : List Int} {n : Nat}
def goneC (a:ArM) (i:Nat) (c:Int):Bool:=(a.r.bs[i]?).getD false&&decide (c=0)
theorem spStep_K {y:jg} {c:Int} (ok:SpOk s B.p.g.slots) (oka:jah a B.p) (okB:jag B x) (okk:MkOk k B.p) (h1:s.act=true) (hy:B.p.g.L[s.at_]?=some y) (hc:(tiC k.c)[s.at_]?=some c) (e1:s.ab=a.b) (e2:s.bb=B.b) (e3:s.mb=k.b):
  Call Tryz.prog w0 129 [.pointer (some ⟨s.b,0,none⟩)] (J9 s++(jW a B.p++(jR B++(jv B.m++(planH B.p++(jp k B.p++F))))))
   (fun r H'=>r= .bool true∧H'=if goneC a s.at_ c=true then J9 {s with d:=Jx s.d s.at_ true,at_:=s.at_+1}++(jW a B.p++(jR B++(jv (jaf B.m B.t (JU x y))++(planH B.p++(jp k B.p++F))))) else J9 {s with at_:=s.at_+1}++(jW a B.p++(jR B++(jv B.m++(planH B.p++(jp k B.p++F)))))):=by
 have hil:s.at_<B.p.g.slots:=by grind[jbX,jx]
 have hs16:=okB.p.g.slots.2
 have hdl:s.at_<s.d.bs.length:=by rw[ok.dn];omega
 have hd:jbW s=false:=by
  grind[jbW]
 have okd:=ok.d
 have he:((s.at_:Nat):Int)+1=((s.at_+1:Nat):Int):=by omega
 have hgb:getB a.r.bs (s.at_:Nat)=(a.r.bs[s.at_]?).getD false:=jdC
 obtain⟨v,hv⟩: ∃ v,v=(a.r.bs[s.at_]?).getD false:=⟨_,rfl⟩
 have hgone:goneC a s.at_ c=(v&&decide (c=0)):=by grind[goneC]
 rw[←hv] at hgb
 obtain⟨sb,sd,sat,sact,sab,sbb,smb⟩:=s
 dsimp only at e1 e2 e3 h1 hy hc hil hdl hd okd he hgb hv hgone⊢;subst e1 e2 e3 h1;rw[hgone];refine Call.enter1 (n:=47) (by rfl) Tryz.func129 rfl rfl rfl ?_;refine zdV ?_;intro b1;refine zX ?_;refine zV ?_;refine ji (jgH (s:=⟨sb,sd,sat,true,a.b,B.b,k.b⟩)) ja ?_;refine zE ?_;refine zgd ?_;refine zq fun T hT=>?_;refine(CallV.part (CallV.fn (jho (s:=⟨sb,sd,sat,true,a.b,B.b,k.b⟩))) ja).mono ?_;rintro _ _ ⟨rfl,rfl⟩;rw[hd];refine zd ?_;clear hT T;simp only[sweepH_app];refine zC ?_;refine zkw ?_;refine K.drawn _ [(0,1),(1,1),(2,1),(3,1),(4,0),(5,0),(6,0),(7,0),(8,0),(9,0),(10,2),(11,2)] (by rfl) (by rfl) (by kernel_rfl) (by rfl) (by rfl) (by rfl) Part.all ?_;refine zgm ?_;refine KD.v1 rfl rfl (Val.fieldAddr0 (k:=4) rfl rfl) ?_;refine zba ?_;refine zbN ?_;refine zdf ?_;refine zhY ?_;refine zhY ?_;refine zh3 ?_;intro b20;refine zbQ ?_;refine zl fun T hT=>?_
 have hall:(List.range 2).all (fun i=>if i=0 then v else decide (c=0))=(v&&decide (c=0)):=by
  show(v&&(decide (c=0)&&true))=_
  grind
 refine(CallV.part (CallV.fn (hold_K (H:=(b20,cells [.func (.func 24) #[.pointer (some ⟨a.b,0,none⟩)] #[], .func (.func 175) #[] #[.pointer (some ⟨b1,0,none⟩)]] 62)::(b1,cells [.pointer (some ⟨sb,0,none⟩)] 105)::(J9 ⟨sb,sd,sat,true,a.b,B.b,k.b⟩++(jW a B.p++(jR B++(jv B.m++(planH B.p++(jp k B.p++F)))))))
  (l:=[⟨24,[.pointer (some ⟨a.b,0,none⟩)],[]⟩,⟨175,[],[.pointer (some ⟨b1,0,none⟩)]⟩]) (z:=(sat:Nat)) (fun i=>if i=0 then v else decide (c=0)) (Sli.blk jF rfl (by simp) (by decide) rfl) (by simp) ?_)) (by simp only[sweepH_app];exact ja)).mono ?_
 ·intro i f hf
  match i,hf with
  |0,hf=>
   cases hf
   refine CallV.bound (first:=[.pointer (some ⟨a.b,0,none⟩)]) ?_
   have h:=Call.ro (w0:=w0) (A:=jW a B.p) (H:=(b20,cells [.func (.func 24) #[.pointer (some ⟨a.b,0,none⟩)] #[], .func (.func 175) #[] #[.pointer (some ⟨b1,0,none⟩)]] 62)::(b1,cells [.pointer (some ⟨sb,0,none⟩)] 105)::(J9 ⟨sb,sd,sat,true,a.b,B.b,k.b⟩++(jW a B.p++(jR B++(jv B.m++(planH B.p++(jp k B.p++F))))))) (fun F=>Has_K (F:=F) (i:=(sat:Nat)) oka) ja
   rw[hgb] at h;exact h
  |1,hf=>
   cases hf
   refine CallV.clo (cap:=[.pointer (some ⟨b1,0,none⟩)]) ?_
   exact Call.ro (w0:=w0) (A:=(b1,cells [.pointer (some ⟨sb,0,none⟩)] 105)::(J9 ⟨sb,sd,sat,true,a.b,B.b,k.b⟩++jp k B.p)) (fun F=>by
    simp only[List.cons_append,List.append_assoc]
    exact step1_K (s:=⟨sb,sd,sat,true,a.b,B.b,k.b⟩) okk hc rfl) ja
  |i+2,hf=>simp at hf
 ·rintro _ _ ⟨rfl,rfl⟩;rw[show([⟨24,[.pointer (some ⟨a.b,0,none⟩)],[]⟩,⟨175,[],[.pointer (some ⟨b1,0,none⟩)]⟩]:List FnP).length=2 from rfl,hall]
  cases hg:(v&&decide (c=0)) with
  |true=>
   refine zg ?_;clear hT T;simp only[sweepH_app];refine zD ?_;refine KE.next (K.condT rfl (K.seq ?_));refine zjd ?_;refine zbN ?_;refine zd1 ?_;refine zbN ?_;refine zc0 ?_;refine zl fun T hT=>?_;refine(CallV.part (CallV.fn (bWipe_K okB hy)) ja).mono ?_;rintro _ _ ⟨rfl,rfl⟩;refine zg ?_;clear hT T;refine zD ?_;refine zbG ?_;refine zjd ?_;refine zbN ?_;refine zix ?_;refine zbN ?_;refine zc0 ?_;refine zl fun T hT=>?_;refine(CallV.part (CallV.fn (jdU (v:=true) okd hdl)) ja).mono ?_;rintro _ _ ⟨rfl,rfl⟩;refine zg ?_;clear hT T;refine zeS ?_;refine zb2 ?_;refine zah ?_;refine zd6 ?_;refine zah ?_;refine zeN ?_;rw[he,if_pos hg];exact zZ
  |false=>
   refine zg ?_;clear hT T;simp only[sweepH_app];refine zD ?_;refine zdS ?_;refine zb2 ?_;refine zah ?_;refine zd6 ?_;refine zah ?_;refine zeN ?_;rw[he,if_neg (by rw[hg];decide)];exact zZ
end
open Go.RowKit
set_option maxRecDepth 10000
structure FuI where
 i:Nat
theorem fullM_is {m:MaP} {i:Nat} (hi:i<m.hs.length) (h:(J1 m i).is=true) (hno: ∀ j,j<i→(J1 m j).is=false):fullM m=some i:=by
 simp_all[fullM,hi]
theorem fullM_no {m:MaP} (hno: ∀ j,j<m.hs.length→(J1 m j).is=false):fullM m=none:=by
 grind[fullM]
section
variable {w0 : World} {F : jb} {k : MkM} {B : BoM} {T : TbM} {N : PiM} {W : MwP} {m : MaP}
theorem jkp {H:jb} {b:Nat}:
  Call Tryz.prog w0 172 [.pointer (some ⟨b,0,none⟩)] H (fun u H'=> ∃ bl,u= .func (.func 228) #[] [.pointer (some ⟨bl,0,none⟩)].toArray∧H'=(bl,cells [.pointer (some ⟨b,0,none⟩)] 104)::H):=by
 refine Call.enter1 (n:=4) (by rfl) Tryz.func172 rfl rfl rfl ?_;refine zcN ?_;intro b1;refine zbF ?_;refine zf ?_;exact KE.fin je rfl jd ja ⟨b1,rfl,rfl⟩
theorem jjw {A0:jb} {bl:Nat} {yv:Value} (ok:MkOk k B.p) (hhs:k.hs=m.hs) (E:jb→Prop)
  (hy: ∀ i,fullM m=some i→CallV Tryz.prog w0 yv [.int .i64 (i:Nat)] (A0++((bl,cells [.pointer (some ⟨k.b,0,none⟩)] 104)::(jp k B.p++F))) (fun u H'=>u= .bool false∧E H')):
  Call Tryz.prog w0 228 [yv, .pointer (some ⟨bl,0,none⟩)] (A0++((bl,cells [.pointer (some ⟨k.b,0,none⟩)] 104)::(jp k B.p++F)))
   (fun _ H'=>(fullM m=none∧H'=A0++((bl,cells [.pointer (some ⟨k.b,0,none⟩)] 104)::(jp k B.p++F)))∨E H'):=by
 have ho:=ok.o
 have hh9:=ok.hs
 have hml:m.hs.length=k.hs.length:=by grind
 refine Call.enter2 (n:=24) (by rfl) Tryz.func228 rfl rfl rfl ?_;simp only[jo];refine zy ?_;refine zb2 ?_;refine zbI ?_;refine zp ?_;refine zbp ?_;refine zcH ?_;refine K.loopT (σ:=FuI) [(0,_),(8,_),(9,_)] (fun s kp_=>(10, .int .i64 (s.i:Nat))::kp_) (fun s=>A0++((bl,cells [.pointer (some ⟨k.b,0,none⟩)] 104)::(jp k B.p++F))) (fun s=>s.i≤k.hs.length∧ ∀ j,j<s.i→(J1 m j).is=false) (fun s=>k.hs.length-s.i) (⟨0⟩) jj (by first|exact ja|(simp only[jo];exact ja)) (⟨Nat.zero_le _,fun j h=>absurd h (Nat.not_lt_zero _)⟩) ?_;rintro⟨i⟩ ⟨hi,hno⟩;dsimp only at hi hno⊢;simp only[jo]
 by_cases hlt:i<k.hs.length
 ·obtain⟨h,hh⟩:=jA hlt
  have hha:J1 m i=h:=jbk (by grind)
  obtain⟨hsl,hfi,his⟩:=h
  cases his with
  |true=>
   have hf:=fullM_is (by omega) (by grind) hno
   refine zaN ?_;refine zfE ?_;refine ze5 ?_;refine zaD ?_;intro b4;refine zk ?_;refine zbb ?_;refine zW ?_;refine zI ?_;refine zbM ?_;refine zq fun T hT=>?_;refine(CallV.part (hy i hf) (by first|exact ja|(simp only[jo];exact ja))).mono ?_;rintro _ H' ⟨rfl,hE⟩;refine zd ?_;clear hT T;refine ziw ?_;refine zw ?_;refine zcI ?_;refine zdr ?_;refine zbE ?_;refine zbS ?_;exact KE.fin je rfl jd ja (.inr hE)
  |false=>
   refine zaN ?_;refine zfE ?_;refine ze5 ?_;refine zaD ?_;intro b4;refine zk ?_;refine zbb ?_;refine zW ?_;refine zI ?_;refine zdc ?_;refine zC ?_;refine zbq ?_;refine zbL ?_;refine zal ?_;refine zff ?_
   exact KE.again ⟨i+1⟩ jj (by first|exact ja|(simp only[jo];exact ja)) ⟨hlt,fun j (hj:j<i+1)=>by
    grind⟩ (by grind)
 ·refine zgR ?_;refine zk7 ?_;exact KE.finN je rfl jd (by first|exact ja|(simp only[jo];exact ja)) (.inl ⟨fullM_no fun j hj=>hno j (by omega),rfl⟩)
end
section
variable {w0 : World} {F : jb} {k : MkM} {B : BoM} {T : TbM} {N : PiM} {W : MwP} {m : MaP}
theorem mkDone_K (hG:js w0) (hp:MpR k B T N W) (ok:MkOk k B.p) (hR:MkR k B.p m) (hm:jG B.p.g k.g.ring.length W m):
  Call Tryz.prog w0 167 [.pointer (some ⟨k.b,0,none⟩)] (jp k B.p++(planH B.p++(seenH B T N++F))) (fun r H'=>r= .bool (JV B.p.g W m)∧H'=jp k B.p++(planH B.p++(seenH B T N++F))):=by
 have okg:=ok.g
 have hac:=fun A=>jdf (w0:=w0) (F:=A) (k:=k) (p:=B.p)
 have hact:=hR.act
 have hroots:=fun A=>jjv (w0:=w0) (F:=A) hp ok
 have hem:=fun A=>grEmpty_K (w0:=w0) (F:=A) hG okg hR.G hm.G
 have hrt:=hm.root
 have hr:=hR.root
 rw[←hr] at hrt
 have hd:JV B.p.g W m=(k.act&&((fullM m).isNone&&(decide (((k.root:Nat):Int)=((W.T.length+B.p.g.slots:Nat):Int))&&jbn m.G))):=by
  grind[JV]
 cases ha:k.act with
 |false=>
  have hdf:JV B.p.g W m=false:=by grind
  rw[hdf];simp only[ha] at hac;refine Call.enter1 (n:=23) (by rfl) Tryz.func167 rfl rfl rfl ?_;refine zy ?_;refine zaD ?_;intro b2;refine zdH ?_;refine zo ?_;refine zh4 ?_;refine zeQ ?_;refine zcl ?_;refine zbE ?_;exact zlG
 |true=>
  simp only[ha] at hac;refine Call.enter1 (n:=23) (by rfl) Tryz.func167 rfl rfl rfl ?_;refine zy ?_;refine zaD ?_;intro b2;refine zdH ?_;refine zo ?_;refine zh4 ?_;refine zE ?_;refine z9 ?_;refine zo ?_;refine jat jkp ?_;rintro _ _ ⟨bl,rfl,rfl⟩;refine zb9 ?_;refine K.rangeFunc (lb:=[.pointer (some ⟨bl,0,none⟩)]) rfl
   (fun D G=>fullM m=none∧G=(D, .deferred (some []))::(b2,cells [.bool false] 4)::(jp k B.p++(planH B.p++(seenH B T N++F))))
   (fun D c G=>c= .ret∧ ∃ i,fullM m=some i∧G=(D, .deferred (some []))::(b2,cells [.bool false] 4)::(jp k B.p++(planH B.p++(seenH B T N++F)))) ?_ ?_ ?_
  ·intro l D rc hyl
   refine(Call.part (jjw (F:=planH B.p++(seenH B T N++F)) (bl:=bl) ok hR.hs
    (fun H'=> ∃ i,fullM m=some i∧H'=(l, .loop (rc .done (some .ret)))::((D, .deferred (some []))::(b2,cells [.bool false] 4)::(bl,cells [.pointer (some ⟨k.b,0,none⟩)] 104)::(jp k B.p++(planH B.p++(seenH B T N++F)))))
    (A0:=(l, .loop (rc .ready none))::(D, .deferred (some []))::(b2,cells [.bool false] 4)::[]) ?_) (by simp only[List.cons_append,List.nil_append];exact ja)).mono ?_
   ·intro i hf;simp only[List.cons_append,List.nil_append];refine zje ?_;refine K.skip ?_;refine zlq ?_;refine K.block (K.seq (K.region ?_));refine zcl ?_;refine zbS ?_;refine KE.part ((l, .loop (rc .busy none))::((D, .deferred (some []))::(b2,cells [.bool false] 4)::(bl,cells [.pointer (some ⟨k.b,0,none⟩)] 104)::(jp k B.p++(planH B.p++(seenH B T N++F))))) ja ?_;exact KE.roundR j3.head ⟨rfl,i,hf,rfl⟩
   ·rintro _ _ (⟨hno,rfl⟩|⟨i,hf,rfl⟩)
    ·refine .inl ⟨_,?_,hno,rfl⟩;exact zf0
    ·exact .inr ⟨.ret,_,ja,rfl,i,hf,rfl⟩
  ·rintro D G ⟨hf,rfl⟩
   by_cases hrr:((k.root:Nat):Int)=((W.T.length+B.p.g.slots:Nat):Int)
   ·have hdf:JV B.p.g W m=jbn m.G:=by rw[hd,ha,hf,decide_eq_true hrr];rfl
    rw[hdf];simp only[jo,seenH_app];refine zbD ?_;refine za1 ?_;refine zlL ?_;refine zdA ?_;refine zh2 ?_;refine zba ?_;refine zc1 fun T hT=>?_;refine zjc ?_;rintro _ _ ⟨rfl,rfl⟩;simp only[jo,seenH_app];refine zg ?_;clear hT T;refine zha ?_;refine zj ?_;refine zd2 ?_;refine zi6 ?_;refine zao ?_;refine zcb fun T hT=>?_;refine(CallV.part (CallV.fn (hem _)) (by first|exact ja|(simp only[jo,seenH_app];exact ja))).mono ?_;rintro _ _ ⟨rfl,rfl⟩;refine zg ?_;clear hT T;refine zem ?_;refine zby ?_;refine zgL ?_;exact zlM
   ·have hdf:JV B.p.g W m=false:=by rw[hd,ha,decide_eq_false hrr];simp
    rw[hdf];simp only[jo,seenH_app];refine zbD ?_;refine za1 ?_;refine zlL ?_;refine zdA ?_;refine zh2 ?_;refine zba ?_;refine zc1 fun T hT=>?_;refine zjc ?_;rintro _ _ ⟨rfl,rfl⟩;simp only[jo,seenH_app];refine zg ?_;clear hT T;refine zhb ?_;refine zcT ?_;refine zlB ?_;refine zbV ?_;refine zby ?_;refine zgL ?_;exact zlM
  ·rintro D c G ⟨rfl,i,hf,rfl⟩
   have hdf:JV B.p.g W m=false:=by rw[hd,hf];simp
   rw[hdf];refine zdr ?_;exact zZ
end
open Go.RowKit
set_option maxRecDepth 10000
theorem Call.at_ {P:Program} {w0:World} {f:FuncId} {args:List Value} {H H':jb} {R R':Value→jb→Prop} (h:Call P w0 f args H' R) (hp:Part H H') (hr: ∀ v H1,R v H1→ ∃ H2,R' v H2∧Part H1 H2):Call P w0 f args H R':=
 ⟨h.ent,fun w hw=>(h.out w (hw.part hp)).mono (by
  rintro e w' ⟨v,H1,he,hh,hR⟩
  obtain⟨H2,h2,hp⟩:=hr _ _ hR
  exact⟨v,H2,he,hh.part hp,h2⟩)⟩
structure CyM where
 b:Nat
 B:BoM
 a:ArM
 T:TbM
 N:PiM
 k:MkM
 s:SpM
 nw:Nat
 ph:Nat
 st:Nat
def cycH (y:CyM):jb:=(y.b,cells [.pointer (some ⟨y.B.p.b,0,none⟩), .pointer (some ⟨y.a.b,0,none⟩), .pointer (some ⟨y.B.b,0,none⟩), .pointer (some ⟨y.T.b,0,none⟩), .pointer (some ⟨y.N.b,0,none⟩), .pointer (some ⟨y.k.b,0,none⟩), .pointer (some ⟨y.s.b,0,none⟩), .int .i64 (y.nw:Nat), .int .u8 (y.ph:Nat), .int .i64 (y.st:Nat)] 107)::(J9 y.s++(jW y.a y.B.p++(jp y.k y.B.p++(planH y.B.p++(jR y.B++(jy y.T++(JD y.N++jv y.B.m)))))))
theorem cycH_app {y:CyM} {F:jb}:cycH y++F=(y.b,cells [.pointer (some ⟨y.B.p.b,0,none⟩), .pointer (some ⟨y.a.b,0,none⟩), .pointer (some ⟨y.B.b,0,none⟩), .pointer (some ⟨y.T.b,0,none⟩), .pointer (some ⟨y.N.b,0,none⟩), .pointer (some ⟨y.k.b,0,none⟩), .pointer (some ⟨y.s.b,0,none⟩), .int .i64 (y.nw:Nat), .int .u8 (y.ph:Nat), .int .i64 (y.st:Nat)] 107)::(J9 y.s++(jW y.a y.B.p++(jp y.k y.B.p++(planH y.B.p++(jR y.B++(jy y.T++(JD y.N++(jv y.B.m++F)))))))):=by
 simp[cycH]
structure CpM (y:CyM) (s:CyP):Prop where
 p:MpR y.k y.B y.T y.N s.W
 ok:MkOk y.k y.B.p
 R:MkR y.k y.B.p s.m
 oka:jah y.a y.B.p
 A:y.a.r.bs=s.A
 oks:SpOk y.s y.B.p.g.slots
 sa:y.s.act=s.sa
 at_:y.s.at_=s.at_
 D:y.s.d.bs=s.D
 ab:y.s.ab=y.a.b
 bb:y.s.bb=y.B.b
 mb:y.s.mb=y.k.b
 ph:y.ph=s.ph
 st:y.st=s.st
 nw:y.k.hs.length=y.nw+1
structure JB (y y':CyM) (x:List Int) (n:Nat):Prop where
 b:y'.b=y.b
 B:y'.B=jbd y.B x
 a:y'.a.b=y.a.b
 T:y'.T.b=y.T.b
 G:y'.T.gens=y.T.gens
 N:y'.N.b=y.N.b
 k:MkAs y.k y'.k
 f:y'.k.c.f=y.k.c.f+n
 s:y'.s.b=y.s.b
 nw:y'.nw=y.nw
theorem setB_setB {B:BoM} {x z:List Int}:jbd (jbd B x) z=jbd B z:=by grind[jbd,jke]
theorem MkAs.trans {a b c:MkM} (h:MkAs a b) (h':MkAs b c):MkAs a c:=⟨h'.b.trans h.b,h'.bb.trans h.bb,h'.tb.trans h.tb,h'.nb.trans h.nb,h'.n.trans h.n,h'.l.trans h.l⟩
theorem JB.refl {y:CyM} {s:CyP} (h:CpM y s):JB y y s.W.x 0:=⟨rfl,(jbz h.p.bo).symm,rfl,rfl,rfl,rfl,⟨rfl,rfl,rfl,rfl,rfl,rfl⟩,rfl,rfl,rfl⟩
theorem JB.trans {y y' y'':CyM} {x x':List Int} {n n':Nat} (h:JB y y' x n) (h':JB y' y'' x' n'):JB y y'' x' (n+n'):=
 ⟨h'.b.trans h.b,by rw[h'.B,h.B,setB_setB],h'.a.trans h.a,h'.T.trans h.T,h'.G.trans h.G,h'.N.trans h.N,h.k.trans h'.k,by rw[h'.f,h.f];omega,h'.s.trans h.s,h'.nw.trans h.nw⟩
theorem JB.p {y y':CyM} {x:List Int} {n:Nat} (h:JB y y' x n):y'.B.p=y.B.p:=by rw[h.B];rfl
structure CpR (g:PlG) (long:Nat) (y:CyM) (s:CyP):Prop extends CpM y s where
 eg:y.B.p.g=g
 el:y.k.g.ring.length=long
 i:jr g long s
 le:JY g s
def CyQ (g:PlG) (long:Nat) (y:CyM) (n:Nat) (F:jb) (s':CyP) (H':jb):Prop:= ∃ y',CpR g long y' s'∧JB y y' s'.W.x n∧H'=cycH y'++F
section
variable {w0 : World} {F : jb} {y : CyM}
theorem cynone_K:Call Tryz.prog w0 54 [.pointer (some ⟨y.b,0,none⟩)] (cycH y++F) (fun r H'=>r= .bool false∧H'=cycH y++F):=by
 refine Call.enter1 (n:=12) (by rfl) Tryz.func54 rfl rfl rfl ?_;simp only[cycH_app];refine zcp ?_;refine zaq ?_;refine zef ?_;refine zf ?_;exact zc8
theorem jfz:Call Tryz.prog w0 18 [.pointer (some ⟨y.b,0,none⟩)] (cycH y++F) (fun r H'=>r= .int .u8 (y.ph:Nat)∧H'=cycH y++F):=by
 refine Call.enter1 (n:=9) (by rfl) Tryz.func18 rfl rfl rfl ?_;refine zhC ?_;simp only[cycH_app];refine zR ?_;refine zbu ?_;refine zcQ ?_;exact zc8
theorem cyPlan_K:Call Tryz.prog w0 74 [.pointer (some ⟨y.b,0,none⟩)] (cycH y++F) (fun r H'=>r= .pointer (some ⟨y.B.p.b,0,none⟩)∧H'=cycH y++F):=by
 refine Call.enter1 (n:=9) (by rfl) Tryz.func74 rfl rfl rfl ?_;refine zhC ?_;simp only[cycH_app];refine zR ?_;refine zB ?_;refine zf ?_;exact zc8
theorem cyArena_K:Call Tryz.prog w0 23 [.pointer (some ⟨y.b,0,none⟩)] (cycH y++F) (fun r H'=>r= .pointer (some ⟨y.a.b,0,none⟩)∧H'=cycH y++F):=by
 refine Call.enter1 (n:=9) (by rfl) Tryz.func23 rfl rfl rfl ?_;refine zhC ?_;simp only[cycH_app];refine zR ?_;refine zF ?_;refine zf ?_;exact zc8
theorem cyBody_K:Call Tryz.prog w0 39 [.pointer (some ⟨y.b,0,none⟩)] (cycH y++F) (fun r H'=>r= .pointer (some ⟨y.B.b,0,none⟩)∧H'=cycH y++F):=by
 refine Call.enter1 (n:=9) (by rfl) Tryz.func39 rfl rfl rfl ?_;refine zhC ?_;simp only[cycH_app];refine zR ?_;refine zI ?_;refine zf ?_;exact zc8
theorem cyTable_K:Call Tryz.prog w0 27 [.pointer (some ⟨y.b,0,none⟩)] (cycH y++F) (fun r H'=>r= .pointer (some ⟨y.T.b,0,none⟩)∧H'=cycH y++F):=by
 refine Call.enter1 (n:=9) (by rfl) Tryz.func27 rfl rfl rfl ?_;refine zhC ?_;simp only[cycH_app];refine zR ?_;refine zct ?_;refine zcQ ?_;exact zc8
theorem cyPins_K:Call Tryz.prog w0 194 [.pointer (some ⟨y.b,0,none⟩)] (cycH y++F) (fun r H'=>r= .pointer (some ⟨y.N.b,0,none⟩)∧H'=cycH y++F):=by
 refine Call.enter1 (n:=9) (by rfl) Tryz.func194 rfl rfl rfl ?_;refine zhC ?_;simp only[cycH_app];refine zR ?_;refine zah ?_;refine zcQ ?_;exact zc8
end
end Go.Proofs.YtpcgafhgfjlkmaaGreatDoor.Sw
