/-The walker and the contracts that the law needs,part 20. -/
import Derived.Test.YtpcgafhgfjlkmaaGreatDoorD1
import Derived.ArgAppend
import Derived.ChangeMaps5
import Derived.Deep.Fields
import Derived.Deep.LoopGhost
import Derived.Deep.OwnRows
import Derived.Deep.Quiet
import Derived.Deep.Slices
import Derived.IntWalk
import Derived.Laws.Cells
import Derived.Laws.CopyOwn
import Derived.Laws.Externs
import Derived.Laws.FloatArith
import Derived.Laws.IdiomStrings
import Derived.Laws.NewFold
import Derived.Laws.StructEq
import Derived.Lib.BitFns
import Derived.Lib.Hide
import Derived.Lib.SmallJoins
import Derived.Lib.TrailingZeros
import Derived.Maps.RangeRun
import Derived.OrdersIn
import Derived.ProofKit
import Derived.RangeFuncBound
import Derived.RangeFuncCalls
import Derived.RangeFuncLeaves
import Derived.RangeFuncNested
import Derived.RecoverIn
import Derived.Shelf.Bits.Mul64
import Derived.Shelf.Slices.Turned
import Derived.Shelf.Spec.TrailingZeros
import Derived.Shelf.Strconv.Itoa0
import Derived.SizedLaws
import Derived.Sort.BigQuietIn
import Derived.StillTailTactics
import Derived.Test.YtpcgafhgfjlkmaaGreatDoorProg
import Derived.WalkKit
import Derived.Test.YtpcgafhgfjlkmaaGreatDoorRows
import Derived.OpenShut
import Derived.LaidMore
import Derived.Lay
import Derived.LaidHandle
import Derived.Test.YtpcgafhgfjlkmaaGreatDoorJ17
import Derived.Test.YtpcgafhgfjlkmaaGreatDoorJ18
set_option linter.unusedVariables false set_option linter.unusedSimpArgs false set_option linter.unusedVariables false
set_option linter.unusedSimpArgs false
namespace Go.Proofs.YtpcgafhgfjlkmaaGreatDoor.Sw
set_option maxHeartbeats 8000000
open Go.Proofs.YtpcgafhgfjlkmaaGreatDoor renaming lo → qL, hi → qH
open Go.RowKit
set_option maxRecDepth 10000
structure SwP where
 A:List Bool
 R:List (List Int)
 C:List Int
 act:Bool
 at_:Nat
 D:List Bool
def SwP.x (s:SwP):List Int:=(s.R[0]?).getD []
structure SwOk (g:PlG) (s:SwP):Prop where
 A:s.A.length=g.slots
 C:s.C.length=g.slots
 D:s.D.length=g.slots
 R:s.R[0]?=some s.x
 x:s.x.length=g.words
 w:JW s.x
 c: ∀ v∈s.C,v=0∨v=2
 at_:s.at_≤g.slots
 idle:s.act=false→s.at_=0∧s.D=List.replicate g.slots false
def stepS (g:PlG) (s:SwP):SwP × Bool:=
 if s.act=true∧s.at_<g.slots then
  match g.L[s.at_]? with
  |some p=>if s.A[s.at_]?=some true∧s.C[s.at_]?=some 0 then(⟨s.A,s.R.set 0 (JU s.x p),s.C,s.act,s.at_+1,s.D.set s.at_ true⟩,true) else(⟨s.A,s.R,s.C,s.act,s.at_+1,s.D⟩,true)
  |none=>(s,true)
 else(s,false)
theorem x_set {R:List (List Int)} {x y:List Int} (h:R[0]?=some x):(R.set 0 y)[0]?=some y:=by
 grind
theorem SwOk.putx {g:PlG} {s:SwP} (ok:SwOk g s) {y:List Int} (h1:y.length=g.words) (h2:JW y) {A:List Bool} (hA:A.length=g.slots):SwOk g ⟨A,s.R.set 0 y,s.C,s.act,s.at_,s.D⟩:=by
 have e:SwP.x ⟨A,s.R.set 0 y,s.C,s.act,s.at_,s.D⟩=y:=by unfold SwP.x;rw [x_set ok.R];rfl
 exact⟨hA,ok.C,ok.D,by rw[e];exact x_set ok.R,by grind,by grind,ok.c,ok.at_,ok.idle⟩
theorem jY {g:PlG} {i:Nat} (h:i<g.slots): ∃ p,g.L[i]?=some p:=jA (by grind[jbX])
theorem jhE: ∀ A D:List Bool,(jcm A D).length=A.length
 | [],D=>by rfl
 |a::A,[]=>rfl
 |a::A,d::D=>by simp[jcm,jhE A D]
theorem jlE (A D:List Bool):(jaZ A D).2.length=A.length:=by
 grind[jaZ,jhE]
theorem jdh {g:PlG} {A:List Bool} {n:Int} (h:(takeP g A n).2.1=0): ∃ (k i:Nat),n=k∧k<g.m∧jbr A (g.first k) (g.n k)=some i∧takeP g A n=((i:Int),0,A.set i true)∧i<A.length:=by
 grind[takeP,jbr]
def jdR (s:SwP) (i:Nat):Bool:=(s.A[i]?).getD false&&decide (s.C[i]?=some 0)
structure Run (g:PlG) (s:SwP) (j:Nat) (t:SwP):Prop where
 A:t.A=s.A
 C:t.C=s.C
 act:t.act=true
 at_:t.at_=j
 dl:t.D.length=g.slots
 D: ∀ i,i<g.slots→t.D[i]?=some (decide (i<j)&&jdR s i)
 tl:t.R.tail=s.R.tail
 R:t.R[0]?=some t.x
 xl:t.x.length=g.words
 x: ∀ i p,g.L[i]?=some p→ ∀ a,p.addr≤a→a<p.addr+p.size→t.x[a]?=if decide (i<j)&&jdR s i then some 0 else s.x[a]?
theorem Run.ok {g:PlG} {s t:SwP} {j:Nat} (hg:jc g) (h:Run g s j t) (ok:SwOk g t) (hj:j<g.slots): ∃ t',stepS g t=(t',true)∧Run g s (j+1) t':=by
 obtain⟨p,hp⟩:=jY hj
 have hfit:=hg.fits hp
 unfold stepS;rw[if_pos ⟨h.act,by rw[h.at_];omega⟩,h.at_,hp];dsimp only
 have hAl:j<s.A.length:=by rw[←h.A,ok.A];omega
 have hg':(s.A[j]?=some true∧s.C[j]?=some 0)↔jdR s j=true:=by
  grind[jdR]
 rw[h.A,h.C]
 by_cases hc:s.A[j]?=some true∧s.C[j]?=some 0
 ·rw[if_pos hc]
  have hgn:=hg'.1 hc
  refine⟨_,rfl,?_⟩
  have e:SwP.x ⟨s.A,t.R.set 0 (JU t.x p),s.C,t.act,j+1,t.D.set j true⟩=JU t.x p:=by unfold SwP.x;rw [x_set h.R];rfl
  refine⟨rfl,rfl,h.act,rfl,by rw[List.length_set];exact h.dl,?_,?_,by rw[e];exact x_set h.R,by rw[e,jcR (by rw[h.xl];omega)];exact h.xl,?_⟩
  ·intro i hi;dsimp only
   by_cases hij:i=j
   ·subst hij;rw[List.getElem?_set_self (by rw[h.dl];omega),hgn];simp
   ·rw[List.getElem?_set_ne (by omega),h.D i hi]
    congr 2
    grind
  ·rw[←h.tl]
   cases t.R<;>rfl
  ·intro i q hq a ha1 ha2;rw[e]
   have hxl:=h.xl
   by_cases hij:i=j
   ·grind[JU,Go.Proofs.YtpcgafhgfjlkmaaGreatDoor.cleared]
   ·have hap:=hg.apart hq hp hij
    rw[show(decide (i<j+1)&&jdR s i)=(decide (i<j)&&jdR s i) by grind,←h.x i q hq a ha1 ha2]
    grind[JU,Go.Proofs.YtpcgafhgfjlkmaaGreatDoor.cleared]
 ·rw[if_neg hc]
  have hgn:jdR s j=false:=by
   grind
  refine⟨_,rfl,⟨rfl,rfl,h.act,rfl,h.dl,?_,h.tl,h.R,h.xl,?_⟩⟩
  ·intro i hi;dsimp only;rw[h.D i hi]
   by_cases hij:i=j
   ·grind
   ·congr 2
    grind
  ·intro i q hq a ha1 ha2
   have:=h.x i q hq a ha1 ha2
   show t.x[a]?=_
   grind
theorem ok_all: ∀ {A D:List Bool},(∀ i:Nat,D[i]?=some true→A[i]?=some true)→jcC A D=true
 | [],D,_=>by rfl
 |a::A,[],_=>rfl
 |a::A,d::D,h=>by
  have h1:=h 0
  have h2:=ok_all (A:=A) (D:=D) (fun i hi=>by have:=h (i+1);grind)
  grind[jcC]
theorem jhF: ∀ {A D:List Bool} (i:Nat),A.length=D.length→(jcm A D)[i]?=(A[i]?).map fun a=>a&&!((D[i]?).getD false)
 | [],D,i,h=>by rfl
 |a::A,[],i,h=>by grind
 |a::A,d::D,0,h=>by rfl
 |a::A,d::D,i+1,h=>by
  exact jhF i (by grind)
open Go.RowKit
set_option maxRecDepth 10000
structure TiM where
 b:Nat
 l:List Int
 f:Nat
 o:Own
def jbN (f:Nat) (v:Int):Int:=if v=2*(f:Int) then 1 else if v=2*(f:Int)+1 then 2 else 0
def tiC (t:TiM):List Int:=t.l.map (jbN t.f)
def jal (t:TiM):jb:=(t.b,cells [oV t.o t.l.length, .int .u64 (t.f:Nat)] 278)::oH uE 33 t.l t.o
theorem jaM {t:TiM} {F:jb}:jal t++F=(t.b,cells [oV t.o t.l.length, .int .u64 (t.f:Nat)] 278)::(oH uE 33 t.l t.o++F):=rfl
structure TiOk (t:TiM):Prop where
 o:oOk uE t.l t.o
 n:t.l.length≤65536
 f:1≤t.f∧t.f≤1000000000
 v: ∀ v∈t.l,0≤v∧v≤2*(t.f:Int)+1
theorem jba (t:TiM):(tiC t).length=t.l.length:=by simp[tiC]
section
variable {w0 : World} {F : jb} {t : TiM}
theorem jjX (ok:TiOk t):Call Tryz.prog w0 289 [.pointer (some ⟨t.b,0,none⟩)] (jal t++F) (fun r H'=>r= .bool false∧H'=jal t++F):=by
 have hf:=ok.f
 have hne: ¬((t.f:Nat):Int)=0:=by omega
 refine Call.enter1 (n:=12) (by rfl) Tryz.func289 rfl rfl rfl ?_;simp only[jaM];refine zcp ?_;refine zbh ?_;refine zbz ?_;refine zf ?_;exact zg5
theorem jk5 {s:Nat} (ok:TiOk t) (hs:s<t.l.length):Call Tryz.prog w0 261 [.pointer (some ⟨t.b,0,none⟩), .int .i64 (s:Nat)] (jal t++F) (fun r H'=>r= .int .i64 0∧H'=jal t++F):=by
 have ho:=ok.o
 have hge: ¬((s:Nat):Int)≥(t.l.length:Nat):=by omega
 refine Call.enter2 (n:=20) (by rfl) Tryz.func261 rfl rfl rfl ?_;refine zae ?_;refine zaP ?_;refine jq (jjX ok) ?_;simp only[jaM];refine zbk ?_;refine zci ?_;refine zaq ?_;refine zfC ?_;refine zay ?_;refine zf ?_;exact zg5
theorem ticol_K {v:Int} (ok:TiOk t):Call Tryz.prog w0 262 [.pointer (some ⟨t.b,0,none⟩), .int .u64 v] (jal t++F) (fun r H'=>r= .int .u8 (jbN t.f v)∧H'=jal t++F):=by
 have hf:=ok.f
 by_cases h1:v=2*(t.f:Int)
 ·have e:jbN t.f v=1:=by grind[jbN]
  rw[e];refine zkk ?_;simp only[jaM];refine zaa ?_;refine zdQ ?_;refine zK ?_;refine zF ?_;refine zg6 ?_;refine zfu ?_;refine zac ?_;refine zd0 ?_;exact zg5
 ·by_cases h2:v=2*(t.f:Int)+1
  ·have e:jbN t.f v=2:=by grind[jbN]
   rw[e];refine zkk ?_;simp only[jaM];refine zaa ?_;refine zdQ ?_;refine zK ?_;refine zF ?_;refine zg6 ?_;refine zG ?_;refine zau ?_;refine zK ?_;refine zF ?_;refine zg6 ?_;refine zal ?_;refine zfu ?_;refine zac ?_;refine zd0 ?_;exact zg5
  ·have e:jbN t.f v=0:=by grind[jbN]
   rw[e];refine zkk ?_;simp only[jaM];refine zaa ?_;refine zdQ ?_;refine zK ?_;refine zF ?_;refine zg6 ?_;refine zG ?_;refine zau ?_;refine zK ?_;refine zF ?_;refine zg6 ?_;refine zal ?_;refine zG ?_;refine zay ?_;refine zf ?_;exact zg5
theorem jiy {s:Nat} {c:Int} (ok:TiOk t) (hc:(tiC t)[s]?=some c):Call Tryz.prog w0 213 [.pointer (some ⟨t.b,0,none⟩), .int .i64 (s:Nat)] (jal t++F) (fun r H'=>r= .tuple [.int .u8 c, .int .i64 0].toArray∧H'=jal t++F):=by
 have hs:s<t.l.length:=by grind[jx,jba]
 have ho:=ok.o
 obtain⟨v,hv⟩:=jA hs
 have hcv:c=jbN t.f v:=by
  grind[tiC]
 subst hcv;refine Call.enter2 (n:=22) (by rfl) Tryz.func213 rfl rfl rfl ?_;refine zae ?_;refine zX ?_;refine zat ?_;refine jq (jk5 ok hs) ?_;simp only[jaM];refine zdt ?_;refine zj1 ?_;refine zB ?_;refine zfE ?_;refine zcJ ?_;refine zq fun T hT=>?_;refine(CallV.part (CallV.fn (ticol_K (v:=v) ok)) (by first|exact ja|(simp only[jaM];exact ja))).mono ?_;rintro _ _ ⟨rfl,rfl⟩;refine zd ?_;clear hT T;simp only[jaM];refine zaI ?_;exact zg5
theorem jgU {s:Nat} (ok:TiOk t) (hs:s<t.l.length):Call Tryz.prog w0 266 [.pointer (some ⟨t.b,0,none⟩), .int .i64 (s:Nat)] (jal t++F) (fun r H'=>r= .int .i64 0∧ ∃ t',TiOk t'∧t'.b=t.b∧t'.f=t.f∧tiC t'=(tiC t).set s 2∧H'=jal t'++F):=by
 have ho:=ok.o
 have hf:=ok.f
 obtain⟨v,hv⟩:=jA hs
 refine Call.enter2 (n:=24) (by rfl) Tryz.func266 rfl rfl rfl ?_;refine zck ?_;refine jq (jk5 ok hs) ?_;simp only[jaM];refine z6 ?_;refine zJ ?_;refine zcI ?_;refine K.drawn [] [(0,0),(1,0),(2,0),(3,0),(4,0),(5,0),(6,0),(7,0),(8,0),(9,0),(10,0),(11,0),(12,2)] (by rfl) (by rfl) (by kernel_rfl) (by rfl) (by rfl) (by rfl) Part.nil ?_;refine zfJ ?_;refine zeZ ?_;refine zhP ?_;refine zc5 ?_;refine zbP ?_;refine zhH ?_;refine zfe ?_;refine zaf ?_;refine za8 ?_
 have hle:(t.l.set s (2*(t.f:Int)+1)).length=t.l.length:=List.length_set
 refine KE.fin (H':=jal ⟨t.b,t.l.set s (2*(t.f:Int)+1),t.f,t.o⟩++F) je rfl jd (by simp only[jaM,hle];exact ja) ⟨rfl,⟨t.b,t.l.set s (2*(t.f:Int)+1),t.f,t.o⟩,⟨ho.set s _,by rw[hle];exact ok.n,hf,?_⟩,rfl,rfl,?_,rfl⟩
 ·intro u hu
  rcases List.mem_or_eq_of_mem_set hu with h|h
  ·exact ok.v u h
  grind
 ·unfold tiC;rw[List.map_set]
  grind[jbN]
theorem tiFlip_K (ok:TiOk t) (hb:t.f≤1000000):Call Tryz.prog w0 313 [.pointer (some ⟨t.b,0,none⟩)] (jal t++F) (fun r H'=>r= .tuple #[]∧ ∃ t',TiOk t'∧t'.b=t.b∧t'.f=t.f+1∧tiC t'=List.replicate t.l.length 0∧H'=jal t'++F):=by
 have hf:=ok.f
 have ho:=ok.o
 have he:((t.f:Nat):Int)+1=((t.f+1:Nat):Int):=by omega
 refine Call.enter1 (n:=12) (by rfl) Tryz.func313 rfl rfl rfl ?_;refine zy ?_;refine zo ?_;refine jq (jjX ok) ?_;simp only[jaM];refine zU ?_;refine zaS ?_;refine zK ?_;refine zF ?_;refine zal ?_;refine zaQ ?_;refine zhF ?_;refine zO ?_;refine zN ?_;rw[he];refine KE.finN (H':=jal ⟨t.b,t.l,t.f+1,t.o⟩++F) je rfl jd (by simp only[jaM];exact ja) ⟨rfl,⟨t.b,t.l,t.f+1,t.o⟩,⟨ho,ok.n,by grind,?_⟩,rfl,rfl,?_,rfl⟩
 ·intro v hv
  have:=ok.v v hv
  grind
 ·refine List.eq_replicate_iff.2 ⟨by simp[tiC],fun c hc=>?_⟩
  obtain⟨v,hv,rfl⟩:=List.mem_map.1 hc
  have:=ok.v v hv
  grind[jbN]
end
theorem tiNew_K {w0:World} {H:jb} {n:Nat} (hn:n≤65536):Call Tryz.prog w0 150 [.int .i64 (n:Nat)] H (fun r H'=> ∃ t,TiOk t∧t.f=1∧tiC t=List.replicate n 0∧r= .tuple [.pointer (some ⟨t.b,0,none⟩), .int .i64 0].toArray∧H'=jal t++H):=by
 have hgt: ¬((n:Nat):Int)>65536:=by omega
 refine Call.enter1 (n:=14) (by rfl) Tryz.func150 rfl rfl rfl ?_;refine zae ?_;refine z6 ?_;refine zT ?_;refine zdE ?_;refine zaG ?_;refine KL.e rfl (Eff.makeR (E:=uE) (x0:=0) rfl rfl rfl rfl rfl rfl (by omega)) ?_;rintro _ _ ⟨o11,ok11,rfl,rfl⟩;refine zei ?_;intro b13;refine zaI ?_;refine KE.fin (H':=jal ⟨b13,List.replicate n 0,1,o11⟩++H) je rfl jd (by rw[jaM];simp only[List.length_replicate];exact ja) ⟨⟨b13,List.replicate n 0,1,o11⟩,⟨ok11,by grind,by grind,fun v hv=>?_⟩,rfl,?_,rfl,rfl⟩
 ·grind
 simp[tiC,jbN]
open Go.RowKit
set_option maxRecDepth 10000
structure GrM where
 b:Nat
 ow:jan
 di:jan
 ring:List Int
 o:Own
 first:Nat
 many:Nat
 at_:Nat
 end_:Nat
def JH (g:GrM) (p:jQ):jb:=(g.b,cells [.pointer (some ⟨g.ow.b,0,none⟩), .pointer (some ⟨g.di.b,0,none⟩), .pointer (some ⟨p.b,0,none⟩),oV g.o g.ring.length, .int .i64 (g.first:Nat), .int .i64 (g.many:Nat), .int .i64 (g.at_:Nat), .int .i64 (g.end_:Nat)] 276)::(jH g.ow++(jH g.di++oH iE 3 g.ring g.o))
theorem Jv {g:GrM} {p:jQ} {F:jb}:JH g p++F=(g.b,cells [.pointer (some ⟨g.ow.b,0,none⟩), .pointer (some ⟨g.di.b,0,none⟩), .pointer (some ⟨p.b,0,none⟩),oV g.o g.ring.length, .int .i64 (g.first:Nat), .int .i64 (g.many:Nat), .int .i64 (g.at_:Nat), .int .i64 (g.end_:Nat)] 276)::(jH g.ow++(jH g.di++(oH iE 3 g.ring g.o++F))):=by
 simp[JH]
structure GrOk (g:GrM) (p:jQ):Prop where
 pl:J6 p
 ow:RowOk g.ow
 di:RowOk g.di
 o:oOk iE g.ring g.o
 n1:g.ow.bs.length=p.g.slots
 n2:g.di.bs.length=p.g.pages
 l:1≤g.ring.length∧g.ring.length≤64
structure GrNil (g:GrM) (p:jQ):Prop where
 ow:g.ow.bs=List.replicate p.g.slots false
 di:g.di.bs=List.replicate p.g.pages false
 first:g.first=0
 many:g.many=0
 at_:g.at_=0
 end_:g.end_=0
section
variable {w0 : World} {F : jb} {p : jQ} {g : GrM}
theorem Pages0_K (ok:J6 p):
  Call Tryz.prog w0 211 [.pointer (some ⟨p.b,0,none⟩)] (planH p++F) (fun r H'=>r= .int .i64 (p.g.pages:Nat)∧H'=planH p++F):=by
 refine Call.enter1 (n:=9) (by rfl) Tryz.func211 rfl rfl rfl ?_;refine zY ?_;refine zgv ?_;rw[jO];refine zR ?_;refine zI ?_;exact zt
theorem jhK (ok:GrOk g p):
  Call Tryz.prog w0 263 [.pointer (some ⟨g.b,0,none⟩)] (JH g p++F) (fun r H'=>r= .bool false∧H'=JH g p++F):=by
 have hl:=ok.l
 have ho:=ok.o
 have hne: ¬((g.ring.length:Nat):Int)=0:=by omega
 refine Call.enter1 (n:=13) (by rfl) Tryz.func263 rfl rfl rfl ?_;simp only[Jv];refine zcp ?_;refine zd9 ?_;refine zbp ?_;refine zi ?_;refine zbz ?_;refine zf ?_;exact zhS
theorem grNew_K {n:Nat} (ok:J6 p) (hn:1≤n∧n≤64):
  Call Tryz.prog w0 149 [.pointer (some ⟨p.b,0,none⟩), .int .i64 (n:Nat)] (planH p++F) (fun r H'=> ∃ g,GrOk g p∧GrNil g p∧g.ring.length=n∧r= .tuple [.pointer (some ⟨g.b,0,none⟩), .int .i64 0].toArray∧H'=JH g p++(planH p++F)):=by
 have hs:=ok.g.slots
 have hp:=ok.g.pages
 have hne: ¬((p.g.slots:Nat):Int)=0:=by omega
 have h1: ¬((n:Nat):Int)<1:=by omega
 have h2: ¬((n:Nat):Int)>64:=by omega
 refine Call.enter2 (n:=41) (by rfl) Tryz.func149 rfl rfl rfl ?_;refine zeY ?_;refine zaP ?_;refine jq (jdu ok) ?_;refine zG ?_;refine zbk ?_;refine zdE ?_;refine zay ?_;refine zo ?_;refine jq (jdu ok) ?_;refine zn ?_;refine jat (je5 (n:=p.g.slots) (by omega)) ?_;rintro _ _ ⟨r1,kr1,hb1,rfl,rfl⟩;refine zQ ?_;refine zo ?_;refine ji (Pages0_K ok) ja ?_;refine zn ?_;refine jat (je5 (n:=p.g.pages) (by omega)) ?_;rintro _ _ ⟨r2,kr2,hb2,rfl,rfl⟩;refine zQ ?_;refine zm ?_;refine zM ?_;refine zm ?_;refine KL.e rfl (Eff.makeR (E:=iE) (x0:=0) rfl rfl rfl rfl rfl rfl (by omega)) ?_;rintro _ _ ⟨o38,ok38,rfl,rfl⟩;refine zei ?_;intro b40;refine zaI ?_;exact KE.fin (H':=JH ⟨b40,r1,r2,List.replicate n 0,o38,0,0,0,0⟩ p++(planH p++F)) je rfl jd (by simp only[Jv,List.length_replicate];exact ja) ⟨⟨b40,r1,r2,List.replicate n 0,o38,0,0,0,0⟩,⟨ok,kr1,kr2,ok38,by grind,by grind,by grind⟩,⟨hb1,hb2,rfl,rfl,rfl,rfl⟩,by simp,rfl,rfl⟩
theorem grClear_K (ok:GrOk g p):
  Call Tryz.prog w0 314 [.pointer (some ⟨g.b,0,none⟩)] (JH g p++F) (fun r H'=>r= .tuple #[]∧ ∃ g',GrOk g' p∧GrNil g' p∧g'.b=g.b∧g'.ring.length=g.ring.length∧H'=JH g' p++F):=by
 have k1:=ok.ow
 have k2:=ok.di
 have ho:=ok.o
 refine Call.enter1 (n:=29) (by rfl) Tryz.func314 rfl rfl rfl ?_;refine zy ?_;refine zo ?_;refine jq (jhK ok) ?_;simp only[Jv];refine zeQ ?_;refine zK ?_;refine zaZ ?_;refine zB ?_;refine zn ?_;refine j4 (jix k1) ja ?_;rintro _ _ ⟨rfl,r1,kr1,hr1,hb1,rfl⟩;refine zW ?_;refine zK ?_;refine zaZ ?_;refine zlc ?_;refine j4 (jix k2) ja ?_;rintro _ _ ⟨rfl,r2,kr2,hr2,hb2,rfl⟩;refine za0 ?_;refine zm ?_;refine zcy ?_;refine zah ?_;refine zfK ?_;refine zca ?_;refine zfK ?_;refine zbI ?_;refine zfK ?_;refine za2 ?_;refine zO ?_;refine zN ?_;rw[←hr1,←hr2];rw[ok.n1] at hb1;rw[ok.n2] at hb2;exact KE.finN (H':=JH ⟨g.b,r1,r2,g.ring,g.o,0,0,0,0⟩ p++F) je rfl jd (by simp only[Jv];exact ja) ⟨rfl,⟨g.b,r1,r2,g.ring,g.o,0,0,0,0⟩,⟨ok.pl,kr1,kr2,ho,by grind,by grind,ok.l⟩,⟨hb1,hb2,rfl,rfl,rfl,rfl⟩,rfl,rfl,by grind[Jv]⟩
end
structure PiM where
 b:Nat
 r:jan
 l:List Int
 o:Own
def JD (q:PiM):jb:=(q.b,cells [.pointer (some ⟨q.r.b,0,none⟩),oV q.o q.l.length] 209)::(jH q.r++oH bE 5 q.l q.o)
theorem jbi {q:PiM} {F:jb}:JD q++F=(q.b,cells [.pointer (some ⟨q.r.b,0,none⟩),oV q.o q.l.length] 209)::(jH q.r++(oH bE 5 q.l q.o++F)):=by
 simp[JD]
structure PiOk (q:PiM):Prop where
 r:RowOk q.r
 o:oOk bE q.l q.o
 n:q.r.bs=q.l.map fun v=>decide (0<v)
 m:q.l.length≤65536
 v: ∀ v∈q.l,0≤v∧v≤255
section
variable {w0 : World} {F : jb} {q : PiM}
theorem pinone_K:Call Tryz.prog w0 208 [.pointer (some ⟨q.b,0,none⟩)] (JD q++F) (fun r H'=>r= .bool false∧H'=JD q++F):=by
 refine Call.enter1 (n:=12) (by rfl) Tryz.func208 rfl rfl rfl ?_;simp only[jbi];refine zcp ?_;refine zaq ?_;refine zef ?_;refine zf ?_;exact zhT
theorem piLen_K (ok:PiOk q):Call Tryz.prog w0 148 [.pointer (some ⟨q.b,0,none⟩)] (JD q++F) (fun r H'=>r= .int .i64 (q.l.length:Nat)∧H'=JD q++F):=by
 have ho:=ok.o
 refine Call.enter1 (n:=10) (by rfl) Tryz.func148 rfl rfl rfl ?_;refine zY ?_;refine zg7 ?_;simp only[jbi];refine zR ?_;refine zF ?_;refine zbp ?_;refine zf ?_;exact zhT
theorem CloneB_K {w0:World} {v:Value} {l:List Int} (hS:SlW w0 bE v l) (hl:l.length≤4294967296):
  Call Tryz.prog w0 210 [v] [] (fun r H'=> ∃ o,oOk bE l o∧r=oV o l.length∧H'=oH bE 5 l o):=by
 refine Call.enter1 (n:=8) (by rfl) Tryz.func210 rfl rfl rfl ?_
 have hS0:=hS
 obtain⟨a,c,rfl,h1,h2,h3⟩:=hS.shape
 cases a with
 |none=>
  have hn:l=[]:=by
   grind
  subst hn;refine zaa ?_;refine zdL ?_;refine zav ?_;exact ziN
 |some a=>
  refine zaa ?_;refine zdL ?_;refine zz ?_;refine zaj ?_;intro b5;refine ze ?_;refine KL.e rfl (Eff.appLit (E:=bE) (ys:=l) rfl rfl rfl rfl rfl rfl rfl jF (by first|exact Sli.blk jF rfl (by first|decide|simp) (by first|decide|(unfold maxLen;omega)) rfl|exact Sli.old (by assumption)|exact Sli.own jn (by assumption) j6|assumption|exact Sli.part (by assumption) ja) (by omega) rfl) ?_;rintro _ _ ⟨o',ok',rfl,rfl⟩;refine zf ?_;exact ziO
theorem piCopy_K (ok:PiOk q):Call Tryz.prog w0 147 [.pointer (some ⟨q.b,0,none⟩)] (JD q++F) (fun r H'=> ∃ q',PiOk q'∧q'.l=q.l∧r= .pointer (some ⟨q'.b,0,none⟩)∧H'=JD q'++(JD q++F)):=by
 have ho:=ok.o
 have okr:=ok.r
 have hm:=ok.m
 refine Call.enter1 (n:=17) (by rfl) Tryz.func147 rfl rfl rfl ?_;refine zY ?_;refine zg7 ?_;simp only[jbi];refine zbU ?_;refine K.drawn _ [(0,0),(1,0),(2,0),(3,0),(5,1),(6,1),(7,1),(8,1),(4,2),(9,2),(10,0),(11,2),(12,0)] (by rfl) (by rfl) (by kernel_rfl) (by rfl) (by rfl) (by rfl) Part.all ?_;refine zb4 ?_;refine zdA ?_;refine zhI ?_;refine zba ?_;refine zl fun T hT=>?_;refine(CallV.part (CallV.fn (jia okr)) ja).mono ?_;rintro _ _ ⟨r',kr',hbs,rfl,rfl⟩;refine zg ?_;clear hT T;refine zl fun T hT=>?_;refine(CallV.pure fun w hw=>CallV.fn (CloneB_K (Sli.own jn ho rfl w hw) (by omega))).mono ?_;rintro _ _ ⟨_,⟨o1,ko1,rfl,rfl⟩,rfl⟩;refine zg ?_;clear hT T;refine zlk ?_;intro b16;refine zbQ ?_;refine zaV ?_;exact KE.fin (H':=JD ⟨b16,r',q.l,o1⟩++(JD q++F)) je rfl jd (by simp only[jbi];exact ja) ⟨⟨b16,r',q.l,o1⟩,⟨kr',ko1,by rw[hbs];exact ok.n,hm,ok.v⟩,rfl,rfl,by grind[jbi]⟩
end
theorem piNew_K {w0:World} {H:jb} {n:Nat} (hn:n≤65536):Call Tryz.prog w0 101 [.int .i64 (n:Nat)] H (fun r H'=> ∃ q,PiOk q∧q.l=List.replicate n 0∧r= .tuple [.pointer (some ⟨q.b,0,none⟩), .int .i64 0].toArray∧H'=JD q++H):=by
 have hgt: ¬((n:Nat):Int)>65536:=by omega
 refine Call.enter1 (n:=23) (by rfl) Tryz.func101 rfl rfl rfl ?_;refine zae ?_;refine z6 ?_;refine zT ?_;refine zdE ?_;refine zz ?_;refine zo ?_;refine jat (je5 (n:=n) (by omega)) ?_;rintro _ _ ⟨r1,kr1,hb1,rfl,rfl⟩;refine zQ ?_;refine zm ?_;refine KL.e rfl (Eff.makeR (E:=bE) (x0:=0) rfl rfl rfl rfl rfl rfl (by omega)) ?_;rintro _ _ ⟨o19,ok19,rfl,rfl⟩;refine zei ?_;intro b21;refine zbl ?_;refine KE.fin (H':=JD ⟨b21,r1,List.replicate n 0,o19⟩++H) je rfl jd (by simp only[jbi,List.length_replicate];exact ja) ⟨⟨b21,r1,List.replicate n 0,o19⟩,⟨kr1,ok19,by simp_all,by grind,fun v hv=>?_⟩,rfl,rfl,rfl⟩
 grind
open Go.RowKit
set_option maxRecDepth 10000
structure jab where
 slot:Int
 field:Int
 is:Bool
def jaP:Enc jab:=⟨fun h=> [.int .i64 h.slot, .int .i64 h.field, .bool h.is],3,fun _=>rfl,by intro x v hv;simp at hv;rcases hv with rfl|rfl|rfl<;>rfl⟩
structure MkM where
 b:Nat
 c:TiM
 g:GrM
 hs:List jab
 o:Own
 root:Nat
 act:Bool
 steps:Nat
 bb:Nat
 tb:Nat
 nb:Nat
def jp (k:MkM) (p:jQ):jb:=(k.b,cells [.pointer (some ⟨k.bb,0,none⟩), .pointer (some ⟨p.b,0,none⟩), .pointer (some ⟨k.tb,0,none⟩), .pointer (some ⟨k.nb,0,none⟩), .pointer (some ⟨k.c.b,0,none⟩), .pointer (some ⟨k.g.b,0,none⟩),oV k.o k.hs.length, .int .i64 (k.root:Nat), .bool k.act, .int .i64 (k.steps:Nat)] 219)::(jal k.c++(JH k.g p++oH jaP 240 k.hs k.o))
theorem jo {k:MkM} {p:jQ} {F:jb}:jp k p++F=(k.b,cells [.pointer (some ⟨k.bb,0,none⟩), .pointer (some ⟨p.b,0,none⟩), .pointer (some ⟨k.tb,0,none⟩), .pointer (some ⟨k.nb,0,none⟩), .pointer (some ⟨k.c.b,0,none⟩), .pointer (some ⟨k.g.b,0,none⟩),oV k.o k.hs.length, .int .i64 (k.root:Nat), .bool k.act, .int .i64 (k.steps:Nat)] 219)::(jal k.c++(JH k.g p++(oH jaP 240 k.hs k.o++F))):=by
 simp[jp]
structure MkOk (k:MkM) (p:jQ):Prop where
 c:TiOk k.c
 g:GrOk k.g p
 n:k.c.l.length=p.g.slots
 o:oOk jaP k.hs k.o
 hs:1≤k.hs.length∧k.hs.length≤9
structure MkNil (k:MkM) (p:jQ):Prop where
 c:tiC k.c=List.replicate p.g.slots 0
 g:GrNil k.g p
 hs:k.hs=List.replicate k.hs.length ⟨0,0,false⟩
 root:k.root=0
 steps:k.steps=0
structure MkAs (k k':MkM):Prop where
 b:k'.b=k.b
 bb:k'.bb=k.bb
 tb:k'.tb=k.tb
 nb:k'.nb=k.nb
 n:k'.hs.length=k.hs.length
 l:k'.g.ring.length=k.g.ring.length
theorem jeb {k:MkM} {p:jQ} (ok:MkOk k p) {s:Nat} (h:s<p.g.slots): ∃ c,(tiC k.c)[s]?=some c:=jA (by rw[jba,ok.n];omega)
section
variable {w0 : World} {F : jb} {k : MkM} {p : jQ}
theorem jhB:Call Tryz.prog w0 212 [.pointer (some ⟨k.b,0,none⟩)] (jp k p++F) (fun r H'=>r= .bool false∧H'=jp k p++F):=by
 refine Call.enter1 (n:=12) (by rfl) Tryz.func212 rfl rfl rfl ?_;simp only[jo];refine zcp ?_;refine zca ?_;refine zai ?_;refine zef ?_;refine zf ?_;exact zi2
theorem jc5 {s:Nat} {c:Int} (ok:MkOk k p) (hc:(tiC k.c)[s]?=some c):Call Tryz.prog w0 151 [.pointer (some ⟨k.b,0,none⟩), .int .i64 (s:Nat)] (jp k p++F) (fun r H'=>r= .tuple [.int .u8 c, .int .i64 0].toArray∧H'=jp k p++F):=by
 have okc:=ok.c
 refine Call.enter2 (n:=16) (by rfl) Tryz.func151 rfl rfl rfl ?_;refine zfH ?_;refine jq (jhB (k:=k) (p:=p)) ?_;simp only[jo];refine zR ?_;refine zah ?_;refine zdu ?_;refine ji (jiy okc hc) ja ?_;refine zfY ?_;refine zaI ?_;exact zi2
theorem jdf:Call Tryz.prog w0 170 [.pointer (some ⟨k.b,0,none⟩)] (jp k p++F) (fun r H'=>r= .bool k.act∧H'=jp k p++F):=by
 refine Call.enter1 (n:=12) (by rfl) Tryz.func170 rfl rfl rfl ?_;refine zbB ?_;refine jq (jhB (k:=k) (p:=p)) ?_;simp only[jo];refine zU ?_;refine zan ?_;refine zbu ?_;refine zi ?_;refine zp ?_;refine zcE ?_;exact zi2
theorem jko {v:Bool} (hv:k.act=!v):Call Tryz.prog w0 312 [.pointer (some ⟨k.b,0,none⟩), .bool v] (jp k p++F) (fun r H'=>r= .int .i64 0∧H'=jp {k with act:=v} p++F):=by
 have hb:(k.act==v)=false:=by grind
 refine Call.enter2 (n:=19) (by rfl) Tryz.func312 rfl rfl rfl ?_;refine zae ?_;refine zaP ?_;refine jq (jhB (k:=k) (p:=p)) ?_;simp only[jo];refine zau ?_;refine zbj ?_;refine zdz ?_;refine KL.v rfl (Val.eqlB rfl rfl rfl) ?_;refine zaW ?_;rw[hb];refine K.condF rfl (K.skip ?_);refine zeU ?_;refine zcy ?_;refine zbu ?_;refine zeN ?_;exact zi2
theorem mkStart_K (ok:MkOk k p) (hv:k.act=false) (hf:k.c.f≤1000000):Call Tryz.prog w0 298 [.pointer (some ⟨k.b,0,none⟩)] (jp k p++F)
  (fun r H'=>r= .int .i64 0∧ ∃ k',MkOk k' p∧MkNil k' p∧MkAs k k'∧k'.act=true∧k'.c.f=k.c.f+1∧H'=jp k' p++F):=by
 have okc:=ok.c
 have okg:=ok.g
 have oko:=ok.o
 refine Call.enter1 (n:=29) (by rfl) Tryz.func298 rfl rfl rfl ?_;refine zbB ?_;refine jq (jko (p:=p) hv) ?_;simp only[jo];refine z6 ?_;refine zJ ?_;refine zac ?_;refine zK ?_;refine zah ?_;refine zV ?_;refine j4 (tiFlip_K okc hf) ja ?_;rintro _ _ ⟨rfl,c',kc,cb,cf,cc,rfl⟩;refine zW ?_;refine zcF ?_;refine zV ?_;refine j4 (grClear_K okg) ja ?_;rintro _ _ ⟨rfl,g',kg,gn,gb,gl,rfl⟩;refine zW ?_;refine zcD ?_;refine zp ?_;refine KL.eN (Eff.clearS (x0:=(⟨0,0,false⟩:jab)) (i:=0) rfl (clr_all (by assumption)) rfl rfl (Nat.zero_le _) (Nat.le_refl _) jn (by omega)) ?_;rintro _ _ ⟨rfl,okc,rfl⟩;refine zN ?_;rw[jiR] at okc⊢;refine zek ?_;refine zcy ?_;refine za2 ?_;refine zfK ?_;refine zaL ?_;refine zaw ?_;refine za8 ?_;rw[←cb,←gb]
 have hcn:c'.l.length=p.g.slots:=by have:=congrArg List.length cc;rw [jba,List.length_replicate,ok.n] at this;omega
 have hcc:=cc
 rw[ok.n] at hcc;exact KE.fin (H':=jp ⟨k.b,c',g',List.replicate k.hs.length ⟨0,0,false⟩,k.o,0,true,0,k.bb,k.tb,k.nb⟩ p++F) je rfl jd (by simp only[jo,List.length_replicate];exact ja) ⟨rfl,⟨k.b,c',g',List.replicate k.hs.length ⟨0,0,false⟩,k.o,0,true,0,k.bb,k.tb,k.nb⟩,⟨kc,kg,hcn,okc,by simpa using ok.hs⟩,⟨hcc,gn,by simp,rfl,rfl⟩,⟨rfl,rfl,rfl,rfl,by simp,gl⟩,rfl,cf,by grind[jo]⟩
end
open Go.RowKit
set_option maxRecDepth 10000
def slL (x:jg):List Value:=[.int .i64 (x.cls:Nat), .int .i64 (x.size:Nat), .int .i64 (x.addr:Nat), .int .i64 (x.page:Nat)]
def slE:Enc jg:=⟨slL,4,fun _=>rfl,by intro x v hv;simp[slL] at hv;rcases hv with rfl|rfl|rfl|rfl<;>rfl⟩
namespace PlG
def firsts (g:PlG):List Int:=(cutL g.pgs (fun k j=>g.first k+j*g.per k) g.m).map fun n=>((n:Nat):Int)
def manys (g:PlG):List Int:=(cutL g.pgs (fun k j=>min (g.per k) (g.n k-j*g.per k)) g.m).map fun n=>((n:Nat):Int)
def clI (g:PlG):List Int:=g.cl.map fun n=>((n:Nat):Int)
end PlG
structure PlV where
 L:Value
 F:Value
 M:Value
 C:Value
structure jdd (w0:World) (D:jb) (v:PlV) (g:PlG):Prop where
 L:Sli w0 D slE v.L g.L
 F:Sli w0 D iE v.F g.firsts
 M:Sli w0 D iE v.M g.manys
 C:Sli w0 D iE v.C g.clI
 oL:v.L.oneCell'=true
 oF:v.F.oneCell'=true
 oM:v.M.oneCell'=true
 oC:v.C.oneCell'=true
theorem jdd.part {w0:World} {D D':jb} {v:PlV} {g:PlG} (h:jdd w0 D v g) (hp:Part D' D):jdd w0 D' v g:=⟨h.L.part hp,h.F.part hp,h.M.part hp,h.C.part hp,h.oL,h.oF,h.oM,h.oC⟩
structure ArD (w0:World) (D:jb) (v:PlV) (va:Value) (g:PlG) (A:List Bool):Prop where
 p:jdd w0 D v g
 a:Sli w0 D boE va A
 o:va.oneCell'=true
theorem ArD.part {w0:World} {D D':jb} {v:PlV} {va:Value} {g:PlG} {A:List Bool} (h:ArD w0 D v va g A) (hp:Part D' D):ArD w0 D' v va g A:=⟨h.p.part hp,h.a.part hp,h.o⟩
structure RwD where
 a:Option Addr
 n:Nat
 c:Nat
 x:List Int
def rwE:Enc RwD:=⟨fun r=> [.slice r.a r.n r.c],1,fun _=>rfl,by intro x v hv;simp at hv;subst hv;rfl⟩
structure MemD (w0:World) (D:jb) (vr:Value) (R:List RwD):Prop where
 r:Sli w0 D rwE vr R
 o:vr.oneCell'=true
 x: ∀ q∈R,Sli w0 D uE (.slice q.a q.n q.c) q.x
theorem MemD.part {w0:World} {D D':jb} {vr:Value} {R:List RwD} (h:MemD w0 D vr R) (hp:Part D' D):MemD w0 D' vr R:=⟨h.r.part hp,h.o,fun q hq=>(h.x q hq).part hp⟩
open Go.RowKit
set_option maxRecDepth 10000
namespace PlG
def fp (g:PlG) (k:Nat):Nat:=((g.firsts[k]?).getD 0).toNat
def mp (g:PlG) (k:Nat):Nat:=((g.manys[k]?).getD 0).toNat
def pgOf (g:PlG) (s:Nat):Nat:=((g.L[s]?).map (·.page)).getD 0
end PlG
section
variable {g : PlG}
theorem jdS {k j:Nat} (hk:k<g.m) (hj:j<g.pgs k):g.fp (g.page k+j)=g.first k+j*g.per k:=by
 grind[PlG.fp,PlG.firsts,PlG.page,jeQ]
theorem mp_at {k j:Nat} (hk:k<g.m) (hj:j<g.pgs k):g.mp (g.page k+j)=min (g.per k) (g.n k-j*g.per k):=by
 grind[PlG.mp,PlG.manys,PlG.page,jeQ]
theorem jeU (ok:jc g) {k j:Nat} (hk:k<g.m):j<g.pgs k↔j*g.per k<g.n k:=by
 have h2:=ok.per hk
 unfold PlG.pgs;rw[Nat.lt_iff_add_one_le,Nat.le_div_iff_mul_le (by omega),Nat.succ_mul]
 omega
theorem jet (ok:jc g) {s:Nat} {y:jg} (h:g.L[s]?=some y):y.page<g.pages∧g.fp y.page≤s∧s<g.fp y.page+g.mp y.page:=by
 obtain⟨k,d,hk,hd,rfl,rfl⟩:=L_at h
 have h1:=ok.pg_lt hk hd
 have h2:=ok.inpg hk hd
 have h3:=ok.per hk
 simp only[PlG.sl];rw[jdS hk h2,mp_at hk h2]
 have h4:=Nat.div_mul_le_self d (g.per k)
 have h5:d<(d/g.per k+1)*g.per k:=by
  have:=Nat.lt_succ_self (d/g.per k)
  exact(Nat.div_lt_iff_lt_mul (by omega)).1 this
 grind
theorem jcB (ok:jc g) {k:Nat} (hk:k<g.pages):1≤g.mp k∧g.mp k≤32∧g.fp k+g.mp k≤g.slots:=by
 obtain⟨c,j,hc,hj,rfl⟩:=jfR (n:=g.pgs) hk
 have hm:=mp_at hc hj
 have hf:=jdS hc hj
 have hper:=ok.per hc
 have h1:=(jeU ok hc).1 hj
 have h2:=jbD (n:=g.n) hc
 grind[PlG.page,PlG.slots,PlG.first]
theorem jeV {s:Nat} {y:jg} (h:g.L[s]?=some y):g.pgOf s=y.page:=by grind[PlG.pgOf]
end
structure GyP where
 q:List Nat
 ow:List Bool
 di:List Bool
 pg:Option Nat
 at_:Nat
def jam (g:PlG) (long:Nat) (G:GyP) (s:Nat):GyP:=
 if G.q.length<long then{G with q:=G.q++ [s]} else{G with ow:=G.ow.set s true,di:=G.di.set (g.pgOf s) true}
def ja3 (G:GyP):Option (Nat × GyP):=match G.pg with
 |some k=>some (k,G)
 |none=>match G.q with
  | []=>match nextB G.di 0 true with
   |some k=>some (k,{G with di:=G.di.set k false,pg:=some k,at_:=0})
   |none=>none
  |_::_=>none
def walk1 (g:PlG) (k:Nat) (G:GyP):Option Nat × GyP:=
  (if (G.ow[g.fp k+G.at_]?).getD false then some (g.fp k+G.at_) else none,
   {G with ow:=G.ow.set (g.fp k+G.at_) false,pg:=if G.at_+1=g.mp k then none else some k,at_:=if G.at_+1=g.mp k then 0 else G.at_+1})
def walkG (g:PlG) (G:GyP):Option (Option Nat × GyP):=(ja3 G).map fun x=>walk1 g x.1 x.2
def jbn (G:GyP):Bool:=G.q.isEmpty&&(decide (G.ow.count true=0)&&G.pg.isNone)
structure jbh (g:PlG) (long:Nat) (G:GyP):Prop where
 q: ∀ s∈G.q,s<g.slots
 ql:G.q.length≤long
 ow:G.ow.length=g.slots
 di:G.di.length=g.pages
 pg: ∀ k,G.pg=some k→k<g.pages∧G.at_<g.mp k
 no:G.pg=none→G.at_=0
 /--what is owed lies in a dirty page,or ahead in the page that is walked through-/
 od: ∀ s:Nat,G.ow[s]?=some true→G.di[g.pgOf s]?=some true∨ ∃ k,G.pg=some k∧g.pgOf s=k∧g.fp k+G.at_≤s
structure MaP where
 C:List Int
 G:GyP
 hs:List jab
 root:Nat
 act:Bool
 steps:Nat
structure MwP where
 x:List Int
 T:List jh
 N:List Int
def ju (g:PlG) (s:Int):jg:=(g.L[s.toNat]?).getD ⟨0,0,0,0⟩
def JP (g:PlG) (long:Nat) (m:MaP) (s:Int):MaP:=if 0≤s∧m.C[s.toNat]?=some 0 then{m with C:=m.C.set s.toNat 1,G:=jam g long m.G s.toNat} else m
def jb9 (g:PlG) (long:Nat) (m:MaP) (s:Int):MaP:=if m.act then JP g long m s else m
def jP (g:PlG) (W:MwP) (r:Nat):Option Int:=match W.T[r]? with
 |some e=>if e.st=1 then some e.slot else none
 |none=>if (W.N[r-W.T.length]?).getD 0>0 then some ((r-W.T.length:Nat):Int) else none
def JO (g:PlG) (long:Nat) (m:MaP) (o:Option Int):MaP:=match o with
 |some s=>JP g long m s
 |none=>m
def jbq (g:PlG) (long:Nat) (W:MwP) (m:MaP):Option MaP:=
 if m.root<W.T.length+g.slots then some (JO g long {m with root:=m.root+1} (jP g W m.root)) else none
def J2:jab:=⟨0,0,false⟩
def J1 (m:MaP) (k:Nat):jab:=(m.hs[k]?).getD J2
def jbI (m:MaP) (k:Nat):Option MaP:=if (J1 m k).is then none else match m.G.q with
 | []=>none
 |s::q=>some {m with G:={m.G with q:=q},hs:=m.hs.set k ⟨(s:Nat),0,true⟩}
def refO (g:PlG) (x:List Int) (s i:Int):Option Int:=if (refP x g.slots (ju g s) i).2=0∧0≤(refP x g.slots (ju g s) i).1 then some (refP x g.slots (ju g s) i).1 else none
def refsN (x:List Int) (y:jg):Int:=match headP x y with
 |some h=>h.r
 |none=>0
def scanM (g:PlG) (long:Nat) (W:MwP) (m:MaP) (k:Nat):Option MaP:=
 if (J1 m k).is then
  (if (J1 m k).field+1<refsN W.x (ju g (J1 m k).slot) then
   some {JO g long m (refO g W.x (J1 m k).slot (J1 m k).field) with hs:=m.hs.set k ⟨(J1 m k).slot,(J1 m k).field+1,true⟩}
  else some {JO g long m (refO g W.x (J1 m k).slot (J1 m k).field) with hs:=m.hs.set k J2,C:=(JO g long m (refO g W.x (J1 m k).slot (J1 m k).field)).C.set (J1 m k).slot.toNat 2})
 else none
def jbc (g:PlG) (m:MaP) (k:Nat):Option MaP:=if (J1 m k).is then none else match walkG g m.G with
 |none=>none
 |some (none,G)=>some {m with G:=G}
 |some (some s,G)=>some {m with G:=G,hs:=m.hs.set k ⟨(s:Nat),0,true⟩}
def jak (g:PlG) (long:Nat) (W:MwP) (m:MaP) (k:Nat) (u:Int):Option MaP:=
 if u=1 then jbq g long W m else if u=2 then jbI m k else if u=3 then scanM g long W m k else if u=4 then jbc g m k else none
def upM (m:MaP):MaP:={m with steps:=m.steps+1}
def j1 (g:PlG) (long:Nat) (W:MwP) (m:MaP) (k:Int) (u:Int):Option MaP:=
 if m.act=true∧0≤k∧k<(m.hs.length:Nat) then(jak g long W m k.toNat u).map upM else none
def fullM (m:MaP):Option Nat:=(List.range m.hs.length).find? fun k=>(J1 m k).is
def jae (g:PlG) (long:Nat) (W:MwP) (m:MaP):Option MaP:=match fullM m with
 |some k=>j1 g long W m (k:Nat) 3
 |none=>match j1 g long W m ((m.hs.length-1:Nat):Int) 2 with
  |some m'=>some m'
  |none=>match j1 g long W m ((m.hs.length-1:Nat):Int) 1 with
   |some m'=>some m'
   |none=>j1 g long W m ((m.hs.length-1:Nat):Int) 4
def JV (g:PlG) (W:MwP) (m:MaP):Bool:=m.act&&((fullM m).isNone&&(decide (W.T.length+g.slots≤m.root)&&jbn m.G))
def nilG (g:PlG):GyP:=⟨[],List.replicate g.slots false,List.replicate g.pages false,none,0⟩
def J5 (g:PlG) (nw:Nat) (act:Bool):MaP:=⟨List.replicate g.slots 0,nilG g,List.replicate (nw+1) J2,0,act,0⟩
def je3 (g:PlG) (m:MaP):MaP:=J5 g (m.hs.length-1) true
structure jG (g:PlG) (long:Nat) (W:MwP) (m:MaP):Prop where
 C:m.C.length=g.slots
 c: ∀ v∈m.C,v=0∨v=1∨v=2
 G:jbh g long m.G
 hs:1≤m.hs.length∧m.hs.length≤9
 h: ∀ (k:Nat) (h:jab),m.hs[k]?=some h→(h.is=true∧0≤h.slot∧h.slot<((g.slots:Nat):Int)∧0≤h.field∧(h.field=0∨h.field<refsN W.x (ju g h.slot)))∨h=J2
 root:m.root≤W.T.length+g.slots
structure JX (g:PlG) (W:MwP):Prop where
 x:W.x.length=g.words
 w:JW W.x
 N:W.N.length=g.slots
 n: ∀ v∈W.N,0≤v∧v≤255
 t: ∀ e∈W.T,e.st=1→0≤e.slot∧e.slot<((g.slots:Nat):Int)
open Go.RowKit
set_option maxRecDepth 10000
theorem jeZ {f h:Nat→Nat}: ∀ {n:Nat},(∀ i,i<n→f i=h i)→jz f n=jz h n
 |0,_=>rfl
 |n+1,e=>by
  have h1:=jeZ (n:=n) fun i hi=>e i (by omega)
  grind[jz]
theorem jfa {f h:Nat→Nat} {s:Nat}: ∀ {n:Nat},s<n→(∀ i,i<n→i≠s→h i=f i)→jz h n+f s=jz f n+h s
 |0,hs,_=>by omega
 |n+1,hs,e=>by
  simp only[jz]
  by_cases hn:s=n
  ·grind[h1,jeZ]
  ·have h1:=jfa (f:=f) (h:=h) (n:=n) (by omega) fun i hi hne=>e i (by omega) hne
   grind
theorem cum_le' {f h:Nat→Nat}: ∀ {n:Nat},(∀ i,i<n→f i≤h i)→jz f n≤jz h n
 |0,_=>Nat.le_refl _
 |n+1,e=>by
  have h1:=cum_le' (n:=n) fun i hi=>e i (by omega)
  grind[jz]
theorem cum_add {f h:Nat→Nat}: ∀ n:Nat,jz (fun i=>f i+h i) n=jz f n+jz h n
 |0=>rfl
 |n+1=>by have:=cum_add (f:=f) (h:=h) n;grind[jz]
theorem jeG (c:Nat): ∀ n:Nat,jz (fun _=>c) n=n*c
 |0=>by simp[jz]
 |n+1=>by have:=jeG c n;grind[jz]
theorem jhO {f:Nat→Nat} {n:Nat} (h: ∀ i,i<n→f i=0):jz f n=0:=by
 rw[jeZ (h:=fun _=>0) h,jeG];omega
theorem ji5 {f h:Nat→Nat} {a:Nat}: ∀ b:Nat,(∀ i,i<b→f (a+i)=h i)→jz f (a+b)=jz f a+jz h b
 |0,_=>by rfl
 |b+1,e=>by
  have h1:=ji5 (f:=f) (h:=h) (a:=a) b fun i hi=>e i (by omega)
  grind[jz]
def szA (g:PlG) (s:Nat):Nat:=(ju g (s:Nat)).size
section
variable {g : PlG}
theorem jC {s:Nat} {y:jg} (h:g.L[s]?=some y):ju g (s:Nat)=y:=by grind[ju]
theorem jiz {s:Nat} {y:jg} (h:g.L[s]?=some y):szA g s=y.size:=by grind[szA,jC]
theorem jh3 (ok:jc g) {s:Nat} (hs:s<g.slots):2≤szA g s∧szA g s≤64:=by
 obtain⟨y,hy⟩:=jY hs
 rw[jiz hy]
 have:=ok.fits hy
 omega
theorem jj5 (ok:jc g): ∀ k,k≤g.m→jz (szA g) (g.first k)≤g.page k*g.pg
 |0,_=>by simp[PlG.first,jz]
 |k+1,h=>by
  have h1:=jj5 ok k (by omega)
  have hk:k<g.m:=by omega
  have h2:jz (szA g) (g.first k+g.n k)=jz (szA g) (g.first k)+jz (fun _=>g.y k) (g.n k):=ji5 _ fun i hi=>by
   rw[jiz (L_get hk hi)];rfl
  rw[jeG] at h2
  have h3:g.first (k+1)=g.first k+g.n k:=rfl
  have h4:g.page (k+1)=g.page k+g.pgs k:=rfl
  rw[h3,h4,h2,Nat.add_mul]
  have hper:=ok.per hk
  have h5:g.n k≤g.pgs k*g.per k:=by
   unfold PlG.pgs
   have:=Nat.div_add_mod (g.n k+g.per k-1) (g.per k)
   have h6:=Nat.mod_lt (g.n k+g.per k-1) (show 0<g.per k by omega)
   grind
  have h6:g.per k*g.y k≤g.pg:=Nat.div_mul_le_self _ _
  have h7:g.n k*g.y k≤g.pgs k*g.per k*g.y k:=Nat.mul_le_mul_right _ h5
  have h8:g.pgs k*(g.per k*g.y k)≤g.pgs k*g.pg:=Nat.mul_le_mul_left _ h6
  grind
theorem jiX (ok:jc g):jz (szA g) g.slots≤g.words:=jj5 ok g.m (Nat.le_refl _)
theorem jiI (ok:jc g):2*g.slots≤g.words:=by
 have h1:=jiX ok
 have h2:jz (fun _=>2) g.slots≤jz (szA g) g.slots:=cum_le' fun i hi=>(jh3 ok hi).1
 rw[jeG] at h2
 omega
end
def wtA (g:PlG) (C:List Int) (s:Nat):Nat:=if C[s]?=some 0 then szA g s+33 else 0
def wtO (g:PlG) (ow:List Bool) (s:Nat):Nat:=if ow[s]?=some true then szA g s+1 else 0
def wtD (di:List Bool) (k:Nat):Nat:=if di[k]?=some true then 32 else 0
def wtH (g:PlG) (hs:List jab) (k:Nat):Nat:=if ((hs[k]?).getD J2).is then szA g ((hs[k]?).getD J2).slot.toNat-((hs[k]?).getD J2).field.toNat else 0
def wtP (g:PlG) (G:GyP):Nat:=match G.pg with
 |some k=>g.mp k-G.at_
 |none=>0
def wtQ (g:PlG) (q:List Nat):Nat:=(q.map fun s=>szA g s+1).sum
def jbK (g:PlG) (G:GyP):Nat:=wtQ g G.q+(jz (wtO g G.ow) g.slots+(jz (wtD G.di) g.pages+wtP g G))
def jS (g:PlG) (W:MwP) (m:MaP):Nat:=jz (wtA g m.C) g.slots+(jbK g m.G+(jz (wtH g m.hs) m.hs.length+(W.T.length+g.slots-m.root)))
section
variable {g : PlG} {long : Nat} {W : MwP} {m m' : MaP} {G G' : GyP}
theorem jhY {C:List Int} {s:Nat} {c:Int} (hs:s<g.slots) (h0:c≠0):jz (wtA g (C.set s c)) g.slots+wtA g C s=jz (wtA g C) g.slots:=by
 grind[wtA,hi,jfa,h1]
theorem jlK {C:List Int} {s:Nat} {c:Int} (h0:c≠0):jz (wtA g (C.set s c)) g.slots≤jz (wtA g C) g.slots:=by
 grind[wtA,hi,jhY,jeZ]
theorem jkY {ow:List Bool} {s:Nat} (b:Bool) (hs:s<g.slots) (hl:s<ow.length):jz (wtO g (ow.set s b)) g.slots+wtO g ow s=jz (wtO g ow) g.slots+(if b then szA g s+1 else 0):=by
 grind[wtO,hi,jfa]
theorem jkZ {di:List Bool} {k:Nat} (b:Bool) (hk:k<g.pages) (hl:k<di.length):jz (wtD (di.set k b)) g.pages+wtD di k=jz (wtD di) g.pages+(if b then 32 else 0):=by
 grind[wtD,hi,jfa]
theorem jfU {hs:List jab} {k:Nat} (h:jab) (hk:k<hs.length):jz (wtH g (hs.set k h)) hs.length+wtH g hs k=jz (wtH g hs) hs.length+(if h.is then szA g h.slot.toNat-h.field.toNat else 0):=by
 grind[wtH,hi,jfa]
theorem put_left (ok:jc g) (hG:jbh g long G) {s:Nat} (hs:s<g.slots):jbK g (jam g long G s)≤jbK g G+(szA g s+33):=by
 unfold jam
 split
 ·grind[jbK,wtQ,wtP]
 ·obtain⟨y,hy⟩:=jY hs
  have h1:=jkY (g:=g) (ow:=G.ow) true hs (by rw[hG.ow];omega)
  have hp:g.pgOf s<g.pages:=by rw[jeV hy];exact(jet ok hy).1
  have h2:=jkZ (g:=g) (di:=G.di) true hp (by rw[hG.di];omega)
  grind[jbK,wtQ,wtP]
theorem jiY (ok:jc g) (hm:jG g long W m) (s:Int):jS g W (JP g long m s)≤jS g W m:=by
 unfold JP
 split
 ·rename_i h
  obtain⟨n,rfl⟩: ∃ n:Nat,s=n:=⟨s.toNat,by omega⟩
  have hn:n<g.slots:=by rw[←hm.C];grind
  have h1:=jhY (g:=g) (C:=m.C) (c:=1) hn (by decide)
  have h2:=put_left ok hm.G hn
  grind[wtA,szA,jS]
 omega
theorem jlM (ok:jc g) (hG:jbh g long G) {k:Nat} (hk:G.pg=some k):
  jbK g (walk1 g k G).2+(match (walk1 g k G).1 with|some s=>szA g s+1|none=>0)+1≤jbK g G:=by
 obtain⟨h1,h2⟩:=hG.pg k hk
 obtain⟨b1,b2,b3⟩:=jcB ok h1
 have hs:g.fp k+G.at_<g.slots:=by omega
 have ho:=jkY (g:=g) (ow:=G.ow) false hs (by rw[hG.ow];omega)
 grind[wtP,walk1,szA,wtO,jbK,wtQ,jz,wtD]
theorem jg6 (ok:jc g) (hG:jbh g long G) {k:Nat} (h:ja3 G=some (k,G')):jbh g long G'∧G'.pg=some k∧jbK g G'≤jbK g G:=by
 unfold ja3 at h
 cases hp:G.pg with
 |some k'=>
  grind
 |none=>
  rw[hp] at h
  cases hq:G.q with
  |cons a l=>grind
  |nil=>
   rw[hq] at h
   cases hn:nextB G.di 0 true with
   |none=>grind
   |some k'=>
    rw[hn] at h;simp only[Option.some.injEq,Prod.mk.injEq] at h
    obtain⟨rfl,rfl⟩:=h
    obtain⟨n1,n2,n3,n4⟩:=jcV hn
    have hk:k'<g.pages:=by rw[←hG.di];omega
    obtain⟨b1,b2,b3⟩:=jcB ok hk
    refine⟨⟨fun s hs=>(by grind),Nat.zero_le _,hG.ow,by rw[List.length_set];exact hG.di,?_,?_,?_⟩,rfl,?_⟩
    ·grind
    ·grind
    ·intro s hs
     rcases hG.od s hs with hd|⟨k,hk',_⟩
     ·by_cases hpk:g.pgOf s=k'
      ·have hsl:s<g.slots:=by rw[←hG.ow];grind
       obtain⟨y,hy⟩:=jY hsl
       have:=jet ok hy
       grind[jeV]
      grind
     grind
    grind[wtD,wtP,jbK,h1,jkZ,h2,h3]
theorem walk1_ok (ok:jc g) (hG:jbh g long G) {k:Nat} (hk:G.pg=some k):jbh g long (walk1 g k G).2∧ ∀ s,(walk1 g k G).1=some s→s<g.slots∧G.ow[s]?=some true:=by
 obtain⟨h1,h2⟩:=hG.pg k hk
 obtain⟨b1,b2,b3⟩:=jcB ok h1
 have hs:g.fp k+G.at_<g.slots:=by omega
 have hl:g.fp k+G.at_<G.ow.length:=by rw[hG.ow];omega
 constructor
 ·refine⟨hG.q,hG.ql,by show(G.ow.set _ _).length=_;rw [List.length_set];exact hG.ow,hG.di,?_,?_,?_⟩
  ·grind[walk1]
  ·simp[walk1]
  ·intro s hs'
   change (G.ow.set (g.fp k+G.at_) false)[s]?=some true at hs'
   by_cases hse:s=g.fp k+G.at_
   ·grind
   ·rw[List.getElem?_set_ne (by omega)] at hs'
    rcases hG.od s hs' with hd|⟨k',hk',e1,e2⟩
    ·exact .inl hd
    ·have hsl:s<g.slots:=by rw[←hG.ow];grind
     obtain⟨y,hy⟩:=jY hsl
     have:=jet ok hy
     grind[walk1,jeV]
 grind[walk1]
theorem put_ok (ok:jc g) (hG:jbh g long G) {s:Nat} (hs:s<g.slots):jbh g long (jam g long G s):=by
 unfold jam
 obtain⟨y,hy⟩:=jY hs
 have hp:g.pgOf s<g.pages:=by rw[jeV hy];exact(jet ok hy).1
 split
 ·refine⟨fun t ht=>?_,by grind,hG.ow,hG.di,hG.pg,hG.no,hG.od⟩
  rcases List.mem_append.1 ht with h|h
  ·exact hG.q t h
  grind
 ·refine⟨hG.q,hG.ql,by rw[List.length_set];exact hG.ow,by rw[List.length_set];exact hG.di,hG.pg,hG.no,fun t ht=>?_⟩;dsimp only at ht⊢
  by_cases hts:t=s
  ·subst hts
   left;rw [List.getElem?_set_self (by rw[hG.di];omega)]
  ·rw[List.getElem?_set_ne (by omega)] at ht
   rcases hG.od t ht with hd|h
   ·grind
   grind
theorem jj7 (ok:jc g) (hm:jG g long W m) (s:Int):jG g long W (JP g long m s):=by
 unfold JP
 split
 ·rename_i h
  have hn:s.toNat<g.slots:=by rw[←hm.C];grind
  refine⟨by rw[List.length_set];exact hm.C,fun v hv=>?_,put_ok ok hm.G hn,hm.hs,hm.h,hm.root⟩
  rcases List.mem_or_eq_of_mem_set hv with h1|h1
  ·exact hm.c v h1
  omega
 omega
theorem jgY (ok:jc g) (hm:jG g long W m) (o:Option Int):jG g long W (JO g long m o):=by
 cases o with
 |none=>exact hm
 |some s=>exact jj7 ok hm s
theorem jiK (ok:jc g) (hm:jG g long W m) (o:Option Int):jS g W (JO g long m o)≤jS g W m:=by
 cases o with
 |none=>exact Nat.le_refl _
 |some s=>exact jiY ok hm s
theorem jhq (s:Int):(JP g long m s).hs=m.hs∧(JP g long m s).root=m.root∧(JP g long m s).act=m.act∧(JP g long m s).steps=m.steps:=by
 grind[JP]
theorem jeB (o:Option Int):(JO g long m o).hs=m.hs∧(JO g long m o).root=m.root∧(JO g long m o).act=m.act∧(JO g long m o).steps=m.steps:=by
 cases o with
 |none=>exact⟨rfl,rfl,rfl,rfl⟩
 |some s=>exact jhq s
theorem root_ok (ok:jc g) (hm:jG g long W m) (h:jbq g long W m=some m'):jG g long W m'∧jS g W m'+1≤jS g W m∧m'.steps=m.steps∧m'.act=m.act∧m'.hs.length=m.hs.length:=by
 unfold jbq at h
 split at h
 ·rename_i hr
  have hm1:jG g long W {m with root:=m.root+1}:=⟨hm.C,hm.c,hm.G,hm.hs,hm.h,hr⟩
  grind[jP,jS,jeB,jgY,h1,jiK,h2]
 grind
theorem jf7 (hm:jG g long W m) {k:Nat} (hk:k<m.hs.length) {h:jab} (hh:(h.is=true∧0≤h.slot∧h.slot<(g.slots:Nat)∧0≤h.field∧(h.field=0∨h.field<refsN W.x (ju g h.slot)))∨h=J2) {C:List Int} {G:GyP} (hC:C.length=g.slots) (hc: ∀ v∈C,v=0∨v=1∨v=2) (hG:jbh g long G):
  jG g long W {m with C:=C,G:=G,hs:=m.hs.set k h}:=by
 refine⟨hC,hc,hG,by rw[List.length_set];exact hm.hs,fun j h' hj=>?_,hm.root⟩
 change (m.hs.set k h)[j]?=some h' at hj
 by_cases hjk:j=k
 ·grind
 ·rw[List.getElem?_set_ne (by omega)] at hj;exact hm.h j h' hj
theorem jbk {k:Nat} {h:jab} (hk:m.hs[k]?=some h):J1 m k=h:=by grind[J1]
theorem take_ok (ok:jc g) (hm:jG g long W m) {k:Nat} (hk:k<m.hs.length) (h:jbI m k=some m'):jG g long W m'∧jS g W m'+1≤jS g W m∧m'.steps=m.steps∧m'.act=m.act∧m'.hs.length=m.hs.length:=by
 unfold jbI at h
 split at h
 ·grind
 ·rename_i hn
  cases hq:m.G.q with
  |nil=>grind
  |cons s q=>
   rw[hq] at h
   cases h
   have hs:s<g.slots:=hm.G.q s (by grind)
   have hG:jbh g long {m.G with q:=q}:=⟨fun t ht=>hm.G.q t (by grind),by have:=hm.G.ql;grind,hm.G.ow,hm.G.di,hm.G.pg,hm.G.no,hm.G.od⟩
   refine⟨jf7 (C:=m.C) hm hk (.inl ⟨rfl,by grind,by grind,Int.le_refl 0, .inl rfl⟩) hm.C hm.c hG,?_,rfl,rfl,by grind⟩
   grind[wtH,wtQ,szA,jS,jbK,wtP,jz,h1,jfU,h2,h3]
theorem jjo (ok:jc g) {s:Nat} (hs:s<g.slots) (x:List Int):refsN x (ju g (s:Nat))+1≤(szA g s:Nat):=by
 obtain⟨y,hy⟩:=jY hs
 rw[jC hy,jiz hy]
 have:=ok.fits hy
 unfold refsN
 cases hh:headP x y with
 |none=>grind
 |some h=>
  obtain⟨_,hl⟩:=jaY hh
  obtain⟨hm,_,hl⟩:=jaD hl
  grind[Jd]
theorem scan_ok (ok:jc g) (hm:jG g long W m) {k:Nat} (hk:k<m.hs.length) (h:scanM g long W m k=some m'):jG g long W m'∧jS g W m'+1≤jS g W m∧m'.steps=m.steps∧m'.act=m.act∧m'.hs.length=m.hs.length:=by
 unfold scanM at h
 split at h
 ·rename_i hn
  obtain⟨hd,hhd⟩:=jA hk
  rw[jbk hhd] at h hn
  rcases hm.h k hd hhd with⟨e1,e2,e3,e4,e5⟩|e
  ·obtain⟨s,hs⟩: ∃ s:Nat,hd.slot=s:=⟨hd.slot.toNat,by omega⟩
   obtain⟨f,hf⟩: ∃ f:Nat,hd.field=f:=⟨hd.field.toNat,by omega⟩
   rw[hs] at e3 e5 h;rw[hf] at e5 h
   have hsl:s<g.slots:=by omega
   have hrs:=jjo ok hsl W.x
   obtain⟨o,ho⟩: ∃ o,o=refO g W.x (s:Nat) (f:Nat):=⟨_,rfl⟩
   rw[←ho] at h
   have k1:=jgY ok hm o
   have k2:=jiK ok hm o
   obtain⟨q1,q2,q3,q4⟩:=jeB (g:=g) (long:=long) (m:=m) o
   obtain⟨m1,hm1⟩: ∃ m1,m1=JO g long m o:=⟨_,rfl⟩
   rw[←hm1] at h k1 k2 q1 q2 q3 q4
   have h2:wtH g m1.hs k=szA g s-f:=by grind[wtH]
   have hsz:=(jh3 ok hsl).1
   have hk1:k<m1.hs.length:=by grind
   split at h
   ·rename_i hlt
    have h1:=jfU (g:=g) (hs:=m1.hs) ⟨(s:Nat),(f:Nat)+1,true⟩ hk1
    have h4:=jf7 (C:=m1.C) (h:=⟨(s:Nat),(f:Nat)+1,true⟩) k1 hk1 (.inl ⟨rfl,by grind,e3,by grind, .inr hlt⟩) k1.C k1.c k1.G
    grind[jS]
   ·have h1:=jfU (g:=g) (hs:=m1.hs) J2 hk1
    have h4:=jf7 (C:=m1.C.set s 2) (h:=J2) k1 hk1 (.inr rfl) (by rw[List.length_set];exact k1.C) (fun v hv=>by
     rcases List.mem_or_eq_of_mem_set hv with h|h
     ·exact k1.c v h
     omega) k1.G
    have h5:=jlK (g:=g) (C:=m1.C) (s:=s) (c:=2) (by decide)
    have e:J2.is=false:=rfl
    grind[szA,jS]
  ·rw[e] at hn;cases hn
 grind
theorem walk_ok (ok:jc g) (hm:jG g long W m) {k:Nat} (hk:k<m.hs.length) (h:jbc g m k=some m'):jG g long W m'∧jS g W m'+1≤jS g W m∧m'.steps=m.steps∧m'.act=m.act∧m'.hs.length=m.hs.length:=by
 unfold jbc at h
 split at h
 ·grind
 ·rename_i hn
  unfold walkG at h
  cases hop:ja3 m.G with
  |none=>grind
  |some x=>
   obtain⟨j,G1⟩:=x
   rw[hop] at h
   obtain⟨k1,k2,k3⟩:=jg6 ok hm.G hop
   have k4:=jlM ok k1 k2
   obtain⟨k5,k6⟩:=walk1_ok ok k1 k2
   simp only[Option.map_some] at h
   obtain⟨r,hr⟩: ∃ r,r=walk1 g j G1:=⟨_,rfl⟩
   rw[←hr] at h k4 k5 k6
   obtain⟨o,G2⟩:=r
   cases o with
   |none=>
    cases h
    refine⟨⟨hm.C,hm.c,k5,hm.hs,hm.h,hm.root⟩,?_,rfl,rfl,rfl⟩
    grind[jS]
   |some s=>
    cases h
    obtain⟨hs,_⟩:=k6 s rfl
    refine⟨jf7 (C:=m.C) hm hk (.inl ⟨rfl,by grind,by grind,Int.le_refl 0, .inl rfl⟩) hm.C hm.c k5,?_,rfl,rfl,by grind⟩
    grind[wtH,jS,h1,jfU,h2]
theorem jeM (ok:jc g) (hm:jG g long W m) {k:Nat} (hk:k<m.hs.length) {u:Int} (h:jak g long W m k u=some m'):jG g long W m'∧jS g W m'+1≤jS g W m∧m'.steps=m.steps∧m'.act=m.act∧m'.hs.length=m.hs.length:=by
 grind[jak,root_ok,take_ok,scan_ok,walk_ok]
theorem up_ok (hm:jG g long W m):jG g long W (upM m):=⟨hm.C,hm.c,hm.G,hm.hs,hm.h,hm.root⟩
theorem jec (ok:jc g) (hm:jG g long W m) {k u:Int} (h:j1 g long W m k u=some m'):jG g long W m'∧jS g W m'+1≤jS g W m∧m'.steps=m.steps+1∧m'.act=m.act∧m'.hs.length=m.hs.length:=by
 unfold j1 at h
 split at h
 ·cases hu:jak g long W m k.toNat u with
  |none=>grind
  |some m1=>
   rw[hu] at h;simp only[Option.map_some,Option.some.injEq] at h;subst h
   obtain⟨k1,k2,k3,k4,k5⟩:=jeM ok hm (by omega) hu
   exact⟨up_ok k1,k2,by show m1.steps+1=_;omega,k4,k5⟩
 grind
theorem jdk {m':MaP} (h:jae g long W m=some m'): ∃ k u:Int,j1 g long W m k u=some m':=by
 grind[jae]
theorem jgG (ok:jc g) (nw:Nat):jS g W (J5 g nw true)≤18*g.words+W.T.length:=by
 have h1:jz (wtA g (List.replicate g.slots 0)) g.slots=jz (szA g) g.slots+g.slots*33:=by
  rw[←jeG,←cum_add]
  refine jeZ fun i hi=>?_
  unfold wtA;rw[List.getElem?_replicate,if_pos hi,if_pos rfl]
 have h2:jz (wtO g (List.replicate g.slots false)) g.slots=0:=jhO fun i hi=>by
  unfold wtO;rw [List.getElem?_replicate,if_pos hi];simp
 have h3:jz (wtD (List.replicate g.pages false)) g.pages=0:=jhO fun i hi=>by
  unfold wtD;rw [List.getElem?_replicate,if_pos hi];simp
 have h4:jz (wtH g (List.replicate (nw+1) J2)) (List.replicate (nw+1) J2).length=0:=jhO fun i hi=>by
  unfold wtH;rw[List.getElem?_replicate,if_pos (show i<nw+1 by simpa using hi)];rfl
 have h5:=jiX ok
 have h6:=jiI ok
 unfold jS jbK J5 nilG;dsimp only;rw[h1,h2,h3,h4]
 show _+(0+(0+(0+0))+(0+(W.T.length+g.slots-0)))≤_
 omega
theorem new_ok {nw:Nat} {act:Bool} (hl:1≤long) (hn:nw≤8):jG g long W (J5 g nw act):=by
 refine⟨by simp[J5],fun v hv=>?_,⟨fun s hs=>(by cases hs),by simp[J5,nilG],by simp[J5,nilG],by simp[J5,nilG],fun k hk=>(by cases hk),fun _=>rfl,fun s hs=>?_⟩,by grind[J5],fun k h hk=>?_,Nat.zero_le _⟩
 ·exact .inl (List.mem_replicate.1 hv).2
 ·grind[J5,nilG]
 grind[J5]
end
open Go.ChangeShapes Go.WideShapes Go.ChangeAt Go.RowKit
set_option maxRecDepth 100000
def laidL : List (String × DataW Unit) := [("math/bits.deBruijn64tab", Rows.laid_math_bits_deBruijn64tab), ("commonage/head.widths", Rows.laid_commonage_head_widths)]
def tabZ:List Int:=Lib.deBruijn64tab.map fun n=>((n:Nat):Int)
def wdZ:List Int:=wdL.map fun n=>((n:Nat):Int)
theorem jkK {W:World} {n t e f:Nat} {k:IntKind} {zs:List Int} {cs:Array Value} {p:List MemPlace} (ht:Tryz.prog.underlying t=some (.array n e)) (he:Tryz.prog.underlying e=some (.int k)) (hc:Tryz.prog.cellsOf e=1) (hz:zs.length=n)
  (hd:DataW.trod (fun x:TypeId × Value=>()) Tryz.prog W 0 (fun _=>true) false f t cs.toList=some (.agg (zs.map fun n=> .lit (.int k n)),p)) (r:Nat) (hr:r<n):cs.toList[r]?=some (.int k (zs.getD r 0)):=by
 obtain⟨xs,m,_,ex,_,hl,hel⟩:=DataW.trod_array ht hd
 have hE:=hel r hr
 rw[hc,Nat.mul_one,List.getElem?_eq_getElem (by omega)] at hE
 obtain⟨z,e1,e2,_⟩:=DataW.trod_int he hE
 have e3:(xs.map (·.1))=zs.map fun n=> .lit (.int k n):=(DataW.agg.inj (Prod.mk.inj ex).1).symm
 have e4:(xs.map (·.1))[r]?=(zs.map fun n=>(DataW.lit (.int k n):DataW Unit))[r]? :=by grind
 have h0:((cs.toList.drop r).take 1)[0]?=some (.int k z):=by grind
 grind
theorem glob_of_laid {W:World} (h:laidMetH Tryz.prog laidL W):js W:=by
 rw[MakeChecks.laidMetH_plain _ _ _ (by rfl)] at h
 obtain⟨ps,⟨g0,t0,cs0,f0,p0,q0,hg0,ht0,hv0,hd0,⟨g1,t1,cs1,f1,p1,q1,hg1,ht1,hv1,hd1,_,_⟩,_⟩,_,_⟩:=h
 obtain rfl := Option.some.inj ((show Tryz.prog.globalNamed "math/bits.deBruijn64tab" = some 2 by rfl).symm.trans hg0)
 obtain rfl := Option.some.inj ((show Tryz.prog.globalNamed "commonage/head.widths" = some 0 by rfl).symm.trans hg1)
 obtain rfl:=Option.some.inj ((show(Tryz.prog.globals[2]?).map (·.type)=some 318 by rfl).symm.trans ht0)
 obtain rfl:=Option.some.inj ((show(Tryz.prog.globals[0]?).map (·.type)=some 181 by rfl).symm.trans ht1)
 refine⟨fun j hj=>?_,fun j n hn=>?_⟩
 ·have hj64:j<64:=hj
  have h1:=jkK (zs:=tabZ) Tryz.underlying318 Tryz.underlying5 (by rfl) (by rfl) hd0 j hj64
  have h2:=World.var?_cell hg0 hv0 j
  grind[tabZ]
 ·have hj5:j<5:=(List.getElem?_eq_some_iff.1 hn).1
  have h1:=jkK (zs:=wdZ) Tryz.underlying181 Tryz.underlying3 (by rfl) (by rfl) hd1 j hj5
  have h2:=World.var?_cell hg1 hv1 j
  grind[wdZ]
theorem door_met (os:Os) (args:Array Value):laidMetH Tryz.prog laidL ((World.doorLaid Tryz.prog 400 os).forCall (fun _ _=>0) ⟨#[],args,[]⟩).memory:=
 laidMetH_of_parts3 (fuel:=8) (laidMet_of_run' 8 (by kernel_rfl) (by kernel_rfl)) (by rfl) (by rfl)
end Go.Proofs.YtpcgafhgfjlkmaaGreatDoor.Sw
