/-The walker and the contracts that the law needs,part 35. -/
import Derived.Test.YtpcgafhgfjlkmaaGreatDoorD1
import Derived.ArgAppend
import Derived.ChangeMaps5
import Derived.Deep.Fields
import Derived.Deep.LoopGhost
import Derived.Deep.OwnRows
import Derived.Deep.Quiet
import Derived.Deep.Slices
import Derived.IntWalk
import Derived.Laws.Cells
import Derived.Laws.CopyOwn
import Derived.Laws.Externs
import Derived.Laws.FloatArith
import Derived.Laws.IdiomStrings
import Derived.Laws.NewFold
import Derived.Laws.StructEq
import Derived.Lib.BitFns
import Derived.Lib.Hide
import Derived.Lib.SmallJoins
import Derived.Lib.TrailingZeros
import Derived.Maps.RangeRun
import Derived.OrdersIn
import Derived.ProofKit
import Derived.RangeFuncBound
import Derived.RangeFuncCalls
import Derived.RangeFuncLeaves
import Derived.RangeFuncNested
import Derived.RecoverIn
import Derived.Shelf.Bits.Mul64
import Derived.Shelf.Slices.Turned
import Derived.Shelf.Spec.TrailingZeros
import Derived.Shelf.Strconv.Itoa0
import Derived.SizedLaws
import Derived.Sort.BigQuietIn
import Derived.StillTailTactics
import Derived.Test.YtpcgafhgfjlkmaaGreatDoorProg
import Derived.WalkKit
import Derived.Test.YtpcgafhgfjlkmaaGreatDoorJ33
set_option linter.unusedVariables false set_option linter.unusedSimpArgs false set_option linter.unusedVariables false
set_option linter.unusedSimpArgs false
namespace Go.Proofs.YtpcgafhgfjlkmaaGreatDoor.Sw
set_option maxHeartbeats 8000000
open Go.Proofs.YtpcgafhgfjlkmaaGreatDoor renaming lo → qL, hi → qH
open Go.RowKit
set_option maxRecDepth 10000
def newC (g:PlG) (caps nw:Nat):CyP:=⟨⟨List.replicate g.words 0,List.replicate caps ⟨0,0,1⟩,List.replicate g.slots 0⟩,J5 g nw false,List.replicate g.slots false,false,0,List.replicate g.slots false,0,0⟩
section
variable {g : PlG} {long caps nw : Nat}
theorem jht (n t:Nat):wAt (List.replicate n 0) t=0:=by
 grind[wAt]
theorem newC_w:JX g (newC g caps nw).W:=by
 refine⟨List.length_replicate ..,JW.rep _,List.length_replicate ..,fun v hv=>?_,fun e he h1=>?_⟩
 ·rw[(List.mem_replicate.1 hv).2];decide
 ·rw[(List.mem_replicate.1 he).2] at h1;grind
theorem newC_ok (hl:1≤long) (hn:nw≤8):jr g long (newC g caps nw):=by
 refine⟨⟨newC_w,fun s y hy j hj=>?_,new_ok hl hn,new_in,List.length_replicate ..,List.length_replicate ..,fun _=>⟨rfl,rfl,rfl,rfl⟩,fun e=>(by cases e),fun e=>(by cases e),fun e=>(by cases e),Nat.zero_le _,fun e=>absurd (show 2≤0 from e) (by decide)⟩,fun e=>(by cases e),fun e=>(by rfl)⟩
 show wAt (List.replicate g.words 0) _≤_
 grind[jht]
theorem newC_t (ok:jc g):CyT g (newC g caps nw):=by
 refine⟨⟨fun{r s} hr h=>?_,fun{s t} {i} ha h=>?_⟩,fun t ht y hy j hj=>jht _ _⟩
 ·grind[jP,newC]
 ·have h':refO g (List.replicate g.words 0) (s:Nat) i=some ((t:Nat):Int):=h
  grind[jfp,jht]
theorem newC_le (ok:jc g) (hc:caps≤1024):JY g (newC g caps nw):=by
 have h1:=jgG (W:=(newC g caps nw).W) ok nw
 have h2:=ok.words
 have h3:(newC g caps nw).W.T.length=caps:=List.length_replicate ..
 refine⟨?_,?_⟩
 ·grind[jS,newC,J5]
 ·exact Nat.zero_le _
end
structure CyNew (g:PlG) (long caps nw:Nat) (gens:Int) (t:Nat) (m:Js) (y:CyM):Prop where
 R:CpR g long y (newC g caps nw)
 m:y.B.m=m
 t:y.B.t=t
 G:y.T.gens=gens
 nw:y.nw=nw
 f:y.k.c.f=1
theorem cynew_rel {g:PlG} {long caps nw t b:Nat} {gens:Int} {B:BoM} {a:ArM} {T:TbM} {N:PiM} {k:MkM} {sp:SpM} (okg:jc g) (hpg:B.p.g=g) (okB:jag B (List.replicate g.words 0)) (ht:B.t=t) (hc:caps≤1024) (hnw:nw≤8) (hl:1≤long)
  (oka:jah a B.p) (hA:a.r.bs=List.replicate B.p.g.slots false) (okT:TbOk T) (eT:T.l=List.replicate caps ⟨0,0,1⟩) (eG:T.gens=gens) (okN:PiOk N) (eN:N.l=List.replicate B.p.g.slots 0) (okk:MkOk k B.p) (knil:MkNil k B.p) (kact:k.act=false) (kf:k.c.f=1) (kb:k.bb=B.b) (kt:k.tb=T.b) (kn:k.nb=N.b) (kh:k.hs.length=nw+1) (kl:k.g.ring.length=long)
  (oks:SpOk sp B.p.g.slots) (e1:sp.ab=a.b) (e2:sp.bb=B.b) (e3:sp.mb=k.b) (e4:sp.at_=0) (e5:sp.act=false) (e6:sp.d.bs=List.replicate B.p.g.slots false):
  CyNew g long caps nw gens t B.m ⟨b,B,a,T,N,k,sp,nw,0,0⟩:=by
 subst hpg;refine⟨⟨⟨⟨okB,okT,okN,eT,eN,kb,kt,kn,newC_w⟩,okk,nil_R knil (by grind) kact kh,oka,hA,oks,e5,e4,e6,e1,e2,e3,rfl,rfl,kh⟩,rfl,kl,newC_ok hl hnw,newC_le okg hc⟩,rfl,ht,eG,rfl,kf⟩
set_option maxHeartbeats 4000000 in
theorem cyNew_K {w0:World} {F:jb} {c:Cfg} {vc vt:Value} {t:Nat} {m:Js} {tn:Tn} (hG:js w0) (hR:Jo w0 F c vc vt) (hc:jX c=true) (ht0:c.tn[t]?=some tn) (okm:jau m) (hm:m.R[t]?=some (List.replicate (gOf c t).words 0)):
  Call Tryz.prog w0 68 [jw c vc vt, .int .i64 (t:Nat), .pointer (some ⟨m.b,0,none⟩)] (jv m++F)
   (fun r H'=> ∃ y,CyNew (gOf c t) c.grey.toNat tn.caps.toNat c.workers.toNat c.gens t m y∧r= .tuple [.pointer (some ⟨y.b,0,none⟩), .int .i64 0].toArray∧H'=cycH y++F):=by
 have hcfg:=ja2 hc
 have hten:=hcfg.ten tn (List.mem_of_getElem? ht0)
 have htl:=jx ht0
 have ht:j9 c t 0=true:=jb4 (i:=t) (j:=0) hc htl (by have:=hcfg.cl;omega)
 have ga:=g_at ht
 have okg:=ga.ok
 have hreg:jaw c (t:Nat)=((((gOf c t).words:Nat):Int),0):=ga.region
 have hwk:=hcfg.workers
 have hgy:=hcfg.grey
 have hgn:=hcfg.gens
 have hrg:=fun A (hp:Part A F)=>jhU (t:=(t:Nat)) (hR.part hp)
 have hpn:=fun A (hp:Part A F)=>pNew_K (t:=(t:Nat)) (hR.part hp) ht
 simp only[hreg] at hrg
 obtain⟨g,hg⟩: ∃ g,g=gOf c t:=⟨_,rfl⟩
 simp only[←hg] at hpn okg hm hrg⊢
 have hall:=fun A=>All_K (w0:=w0) (F:=A) okm
 have hne:m.R.flatten.length≠0:=by
  have h1:=jcA hm
  have h2:=okg.slots
  obtain⟨y0,hy0⟩:=jY (g:=g) (i:=0) (by omega)
  have:=okg.fits hy0
  have h3:(List.replicate g.words (0:Int)).length=g.words:=List.length_replicate ..
  intro e
  have h4:m.R.flatten=[]:=List.length_eq_zero_iff.1 e
  have h5:=List.flatten_eq_nil_iff.1 h4 _ (List.mem_of_getElem? hm)
  rw[h5] at h3
  simp at h3;omega
 clear hg ga hreg
 obtain⟨hS,hT,o1,o2,l1,l2⟩:=hR
 obtain⟨cl,page,tns,workers,grey,gens⟩:=c
 obtain⟨x1,x2,x3,x4⟩:=tn
 dsimp only at hS hT l1 l2 ht0 hten hwk hgy hgn htl⊢
 obtain⟨caps,rfl⟩: ∃ caps:Nat,x3=caps:=⟨x3.toNat,by omega⟩
 obtain⟨nw,rfl⟩: ∃ nw:Nat,workers=nw:=⟨workers.toNat,by omega⟩
 obtain⟨long,rfl⟩: ∃ long:Nat,grey=long:=⟨grey.toNat,by omega⟩
 simp only[Int.toNat_natCast];simp only[jw,jT,prV] at hrg hpn⊢
 have hslots:=okg.slots
 refine zkE ?_;refine zgK ?_;intro b3;refine z6 ?_;refine zq fun T hT=>?_;refine(CallV.part (CallV.fn (hall _)) ja).mono ?_;rintro _ _ ⟨oa,oka,rfl,rfl⟩
 obtain⟨ob,rfl⟩: ∃ ob,oa=some ob:=by
  cases oa with
  |none=>exact absurd (congrArg List.length oka) hne
  |some ob=>exact⟨ob,rfl⟩
 refine zd ?_;clear hT T;refine zdL ?_;refine z9 ?_;refine zb3 ?_;refine jq (hrg _ ja) ?_;refine zQ ?_;refine zcv ?_;refine zz ?_;refine zeO ?_;refine zei ?_;intro b27;refine zcA ?_;refine zb3 ?_;refine jat (hpn _ ja) ?_;rintro _ _ ⟨p,okp,hpg,rfl,rfl⟩;refine za3 ?_;refine zaQ ?_;refine zaZ ?_;refine zaw ?_;refine zX ?_;refine zm ?_;refine zcy ?_;refine zB ?_;refine zn ?_;refine j4 (bNew_K (t:=t) (x:=List.replicate g.words 0) okm hm okp (by rw[hpg,List.length_replicate]) (JW.rep _)) ja ?_;rintro _ _ ⟨B,okB,rfl,hBt,rfl,rfl,rfl⟩;refine za3 ?_;refine zaQ ?_;refine zbn ?_;refine zO ?_;refine zdt ?_;refine zj1 ?_;refine zB ?_;refine zn ?_;refine j4 (aNew_K okp) ja ?_;rintro _ _ ⟨a,oka2,habs,rfl,rfl⟩;refine za3 ?_;refine zaQ ?_;refine zhF ?_;refine zO ?_;refine zcK ?_;refine K.drawn _ [(0,1),(1,0),(2,0),(3,0),(4,0),(5,0),(6,0),(7,0),(8,0),(9,2),(10,0),(11,0),(12,1),(13,0),(14,0),(15,2)] (by kernel_rfl) (by kernel_rfl) (by kernel_rfl) (by kernel_rfl) (by kernel_rfl) (by kernel_rfl) (Part.drop Part.all) ?_;refine zH ?_;refine ziC ?_;refine zcC ?_;refine zjf ?_;refine zaF ?_;refine zet ?_;refine zP ?_;refine zl fun T hT=>?_;refine(CallV.fn (tbNew_K (n:=caps) (gens:=gens) (by omega) hgn)).mono ?_;rintro _ _ ⟨tb,oktb,htbl,htbg,rfl,rfl⟩;refine zg ?_;clear hT T;refine zgO ?_;refine zfQ ?_;refine zfO ?_;refine zlx ?_;refine zby ?_;refine zaf ?_;refine zcy ?_;refine zB ?_;refine zn ?_;refine zer ?_;refine zn ?_;refine jat (piNew_K (n:=B.p.g.slots) (by rw[hpg];omega)) ?_;rintro _ _ ⟨pi,okpi,hpil,rfl,rfl⟩;refine za3 ?_;refine zaQ ?_;refine zah ?_;refine zO ?_;refine zcK ?_;refine K.drawn _ [(0,1),(1,0),(2,0),(3,0),(4,0),(5,0),(6,0),(7,0),(8,0),(9,0),(10,0),(11,0),(12,0),(13,0),(14,0),(15,0),(16,0),(17,0),(18,0),(19,0),(20,0),(21,2),(22,0),(23,0),(24,1),(25,0),(26,0),(27,2)] (by kernel_rfl) (by kernel_rfl) (by kernel_rfl) (by kernel_rfl) (by kernel_rfl) (by kernel_rfl) (Part.drop Part.all) ?_;refine zH ?_;refine zeV ?_;refine zb4 ?_;refine zdD ?_;refine zap ?_;refine zc0 ?_;refine zix ?_;refine zc0 ?_;refine zl fun T hT=>?_;refine(CallV.part (CallV.fn (mkNew_K (nw:=nw) (long:=long) hG okB oktb okpi (by rw[hpil,List.length_replicate]) (by omega) (by omega))) ja).mono ?_;rintro _ _ ⟨k,okk,hkn,hka,hkf,hkb,hkt,hkp,hkh,hkr,rfl,rfl⟩;refine zg ?_;clear hT T;refine zgO ?_;refine zfQ ?_;refine zfO ?_;refine zet ?_;refine zby ?_;refine za1 ?_;refine K.drawn _ [(0,1),(1,0),(2,0),(3,0),(4,0),(5,0),(6,0),(7,0),(8,0),(9,0),(10,0),(11,0),(12,0),(13,0),(14,0),(15,0),(16,0),(17,2),(18,0),(19,0),(20,1),(21,0),(22,0),(23,2),(24,0)] (by kernel_rfl) (by kernel_rfl) (by kernel_rfl) (by kernel_rfl) (by kernel_rfl) (by kernel_rfl) (Part.drop Part.all) ?_;refine zH ?_;refine zb4 ?_;refine zeZ ?_;refine zeV ?_;refine zap ?_;refine zet ?_;refine zP ?_;refine zl fun T hT=>?_;refine(CallV.part (CallV.fn (spNew_K hG oka2 okB okk)) ja).mono ?_;rintro _ _ ⟨sp,oks,e1,e2,e3,e4,e5,e6,rfl,rfl⟩;refine zg ?_;clear hT T;refine zgO ?_;refine zfQ ?_;refine zfO ?_;refine KD.v0 rfl rfl (Val.fieldAddr0 (k:=6) rfl rfl) ?_;refine zgY ?_;refine zbQ ?_;refine zb0 ?_;refine zaf ?_;refine zm ?_;refine zaI ?_
 have hrel:=cynew_rel (b:=b27) okg hpg okB hBt (by omega) (by omega) (by omega) oka2 habs oktb htbl htbg okpi hpil okk hkn hka hkf hkb hkt hkp hkh hkr oks e1 e2 e3 e4 e5 e6
 exact KE.fin (H':=cycH ⟨b27,B,a,tb,pi,k,sp,nw,0,0⟩++F) je rfl jd (by simp only[cycH_app];exact ja) ⟨_,hrel,rfl,rfl⟩
open Go.RowKit
set_option maxRecDepth 10000
def opV (op:OpP):Value:= .agg [.int .u8 (op.c:Nat), .int .u64 (op.h:Nat), .int .i64 op.a, .int .i64 op.b, .int .u64 (op.v:Nat)].toArray
def snV (q:SnP):Value:= .agg [.int .i64 q.e, .int .u64 (q.h:Nat), .int .u64 q.w, .int .i64 q.addr, .int .i64 q.used, .int .i64 q.since, .int .i64 q.cyc, .bool q.act].toArray
theorem ja0 {w0:World} {H:jb} {e:Int}:Call Tryz.prog w0 49 [.int .i64 e] H (fun r H'=>r=snV (told e)∧H'=H):=by
 refine Call.enter1 (n:=5) (by kernel_rfl) Tryz.func49 rfl rfl rfl ?_;refine zy ?_;refine zee ?_;intro b2;refine zco ?_;refine zht ?_;exact zZ
section
theorem arUsed_K {w0:World} {F:jb} {a:ArM} {p:jQ}:
  Call Tryz.prog w0 30 [.pointer (some ⟨a.b,0,none⟩)] (jW a p++F) (fun r H'=>r= .int .i64 (usedL p.g.L a.r.bs:Nat)∧H'=jW a p++F):=by
 refine Call.enter1 (n:=9) (by kernel_rfl) Tryz.func30 rfl rfl rfl ?_;refine zY ?_;refine jq (jea (a:=a) (p:=p)) ?_;simp only[arenaH_app];refine zR ?_;refine zI ?_;refine zf ?_;exact KE.fin je rfl jd (by first|exact ja|(simp only[arenaH_app];exact ja)) ⟨rfl,rfl⟩
end
section
variable {w0 : World} {D : HpD} {nf nk n : Nat} {y y' : CyM} {h : HpP} {s s' : CyP} {F : jb} {g : PlG} {long : Nat} {z : jg}
theorem cUsed_K (h:CpR g long y s):Call Tryz.prog w0 30 [.pointer (some ⟨y.a.b,0,none⟩)] (cycH y++F) (fun r H'=>r= .int .i64 (usedL g.L s.A:Nat)∧H'=cycH y++F):=by
 have hc:=Call.ro (w0:=w0) (A:=jW y.a y.B.p) (H:=cycH y++F) (fun F=>arUsed_K (F:=F)) (by rw[cycH_app];exact ja)
 rw[h.A,h.eg] at hc;exact hc
theorem cAddr_K (h:CpR g long y s) (hz:g.L[n]?=some z):Call Tryz.prog w0 90 [.pointer (some ⟨y.B.p.b,0,none⟩), .int .i64 (n:Nat)] (cycH y++F) (fun r H'=>r= .tuple [.int .i64 (z.addr:Nat), .int .i64 0].toArray∧H'=cycH y++F):=
 Call.ro (w0:=w0) (A:=planH y.B.p) (H:=cycH y++F) (fun F=>Addr0_K (F:=F) h.p.bo.p (by rw[h.eg];exact hz)) (by rw[cycH_app];exact ja)
theorem cWord_K {i:Int} (hG:js w0) (h:CpR g long y s) (hz:g.L[n]?=some z):Call Tryz.prog w0 189 [.pointer (some ⟨y.B.b,0,none⟩), .int .i64 (n:Nat), .int .i64 i] (cycH y++F) (fun r H'=>r= .tuple [.int .u64 (wordP s.W.x z i).1, .int .i64 (wordP s.W.x z i).2].toArray∧H'=cycH y++F):=
 Call.ro (w0:=w0) (A:=jR y.B++(jv y.B.m++planH y.B.p)) (H:=cycH y++F) (fun F=>by
  have:=bWord_K (w0:=w0) (F:=F) (i:=i) (s:=n) hG h.p.bo (by rw[h.eg];exact hz)
  simpa only [List.append_assoc] using this) (by rw[cycH_app];exact ja)
theorem cRef_K {i:Int} (hG:js w0) (h:CpR g long y s) (hz:g.L[n]?=some z):Call Tryz.prog w0 190 [.pointer (some ⟨y.B.b,0,none⟩), .int .i64 (n:Nat), .int .i64 i] (cycH y++F) (fun r H'=>r= .tuple [.int .i64 (refP s.W.x g.slots z i).1, .int .i64 (refP s.W.x g.slots z i).2].toArray∧H'=cycH y++F):=by
 refine Call.ro (w0:=w0) (A:=jR y.B++(jv y.B.m++planH y.B.p)) (H:=cycH y++F) (fun F=>?_) (by rw[cycH_app];exact ja)
 have:=bRef_K (w0:=w0) (F:=F) (i:=i) (s:=n) hG h.p.bo (by rw[h.eg];exact hz)
 rw[h.eg] at this
 simpa only [List.append_assoc] using this
theorem cWords_K (hG:js w0) (h:CpR g long y s) (hz:g.L[n]?=some z):Call Tryz.prog w0 199 [.pointer (some ⟨y.B.b,0,none⟩), .int .i64 (n:Nat)] (cycH y++F)
  (fun r H'=> ∃ (o:Own) (e:Int),oOk uE (jaG s.W.x z) o∧r= .tuple [oV o (jaG s.W.x z).length, .int .i64 e].toArray∧H'=oH uE 33 (jaG s.W.x z) o++(cycH y++F)):=by
 refine Call.at_ (bWords_K (w0:=w0) (s:=n) hG h.p.bo (by rw[h.eg];exact hz)) (by simp only[cycH_app];exact ja) ?_;rintro _ _ ⟨o,e,ko,rfl,rfl⟩;exact⟨_,⟨o,e,ko,rfl,rfl⟩,by simp only[cycH_app];exact ja⟩
theorem cPin2_K (h:CpR g long y s) (hn:n<g.slots):Call Tryz.prog w0 195 [.pointer (some ⟨y.N.b,0,none⟩), .int .i64 (n:Nat)] (cycH y++F)
  (fun r H'=>r= .int .i64 (if (s.W.N[n]?).getD 0<255 then 0 else 140)∧CyQ g long y 0 F {s with W:={s.W with N:=JA s.W.N n}} H'):=by
 have okg:=h.okg
 have hc:=fun A=>Pin2_K (w0:=w0) (F:=A) (s:=n) h.p.pi (by rw[h.p.eN,h.i.w.N];exact hn)
 rw[h.p.eN] at hc
 have hi:jr g long {s with W:={s.W with N:=JA s.W.N n}}:=by
  have:=h.i.world okg (a:=⟨6,(n:Nat),0,0,0,0⟩)
  rwa[jkV ⟨by omega,by omega⟩] at this
 refine zfV ?_;rintro _ _ ⟨hr,N',kN,eb,el,rfl⟩;exact zl6
theorem cUnpin2_K (h:CpR g long y s) (hn:n<g.slots):Call Tryz.prog w0 197 [.pointer (some ⟨y.N.b,0,none⟩), .int .i64 (n:Nat)] (cycH y++F)
  (fun r H'=>r= .int .i64 (if 0<(s.W.N[n]?).getD 0 then 0 else 140)∧CyQ g long y 0 F {s with W:={s.W with N:=J0 s.W.N n}} H'):=by
 have okg:=h.okg
 have hc:=fun A=>Unpin2_K (w0:=w0) (F:=A) (s:=n) h.p.pi (by rw[h.p.eN,h.i.w.N];exact hn)
 rw[h.p.eN] at hc
 have hi:jr g long {s with W:={s.W with N:=J0 s.W.N n}}:=by
  have:=h.i.world okg (a:=⟨7,(n:Nat),0,0,0,0⟩)
  rwa[jey ⟨by omega,by omega⟩] at this
 refine zfV ?_;rintro _ _ ⟨hr,N',kN,eb,el,rfl⟩;exact zl6
theorem jmt {i w:Int} (hG:js w0) (h:CpR g long y s) (hn:n<g.slots) (hz:g.L[n]?=some z) (hw:0≤w∧w<18446744073709551616):Call Tryz.prog w0 192 [.pointer (some ⟨y.B.b,0,none⟩), .int .i64 (n:Nat), .int .i64 i, .int .u64 w] (cycH y++F)
  (fun r H'=>r= .int .i64 (Jk s.W.x z i w).1∧CyQ g long y 0 F (JT g s (n:Nat) i w) H'):=by
 have okg:=h.okg
 have hc:=fun A=>jmx (w0:=w0) (F:=A) (i:=i) (w:=w) hG h.p.bo (s:=n) (by rw[h.eg];exact hz)
 have hi:=jfV (i:=i) okg h.i hn hw
 unfold JT at hi⊢;rw[jC hz] at hi⊢;refine zfV ?_;rintro _ _ ⟨rfl,rfl⟩;exact⟨_,⟨rfl,_,h.putx hi.w hi,JB.words,rfl⟩,by simp only[cycH_app,jgi];exact ja⟩
theorem jhG (h1:HpR D nf nk y h):Call Tryz.prog w0 30 [.pointer (some ⟨D.ab,0,none⟩)] (hpH D y h++F) (fun r H'=>r= .int .i64 (usedL D.C.g.L h.s.A:Nat)∧H'=hpH D y h++F):=
 h1.lift0 fun A=>by have:=cUsed_K (w0:=w0) (F:=A) h1.p;rw [h1.a] at this;exact this
theorem jdp (h1:HpR D nf nk y h) (hz:D.C.g.L[n]?=some z):Call Tryz.prog w0 90 [.pointer (some ⟨D.pb,0,none⟩), .int .i64 (n:Nat)] (hpH D y h++F) (fun r H'=>r= .tuple [.int .i64 (z.addr:Nat), .int .i64 0].toArray∧H'=hpH D y h++F):=
 h1.lift0 fun A=>by have:=cAddr_K (w0:=w0) (F:=A) h1.p hz;rw [h1.pl] at this;exact this
theorem hyWord_K {i:Int} (hG:js w0) (h1:HpR D nf nk y h) (hz:D.C.g.L[n]?=some z):Call Tryz.prog w0 189 [.pointer (some ⟨D.Bb,0,none⟩), .int .i64 (n:Nat), .int .i64 i] (hpH D y h++F) (fun r H'=>r= .tuple [.int .u64 (wordP h.s.W.x z i).1, .int .i64 (wordP h.s.W.x z i).2].toArray∧H'=hpH D y h++F):=
 h1.lift0 fun A=>by have:=cWord_K (w0:=w0) (F:=A) (i:=i) hG h1.p hz;rw [h1.B] at this;exact this
theorem hyRef_K {i:Int} (hG:js w0) (h1:HpR D nf nk y h) (hz:D.C.g.L[n]?=some z):Call Tryz.prog w0 190 [.pointer (some ⟨D.Bb,0,none⟩), .int .i64 (n:Nat), .int .i64 i] (hpH D y h++F) (fun r H'=>r= .tuple [.int .i64 (refP h.s.W.x D.C.g.slots z i).1, .int .i64 (refP h.s.W.x D.C.g.slots z i).2].toArray∧H'=hpH D y h++F):=
 h1.lift0 fun A=>by have:=cRef_K (w0:=w0) (F:=A) (i:=i) hG h1.p hz;rw [h1.B] at this;exact this
theorem hyCount_K (h1:HpR D nf nk y h):Call Tryz.prog w0 196 [.pointer (some ⟨D.Nb,0,none⟩), .int .i64 (n:Nat)] (hpH D y h++F) (fun r H'=>r= .int .i64 ((h.s.W.N[n]?).getD 0)∧H'=hpH D y h++F):=
 h1.lift0 fun A=>by have:=cCount_K (w0:=w0) (F:=A) (t:=n) h1.p;rw [h1.N] at this;exact this
theorem hyWords_K (hG:js w0) (h1:HpR D nf nk y h) (hz:D.C.g.L[n]?=some z):Call Tryz.prog w0 199 [.pointer (some ⟨D.Bb,0,none⟩), .int .i64 (n:Nat)] (hpH D y h++F)
  (fun r H'=> ∃ (o:Own) (e:Int),oOk uE (jaG h.s.W.x z) o∧r= .tuple [oV o (jaG h.s.W.x z).length, .int .i64 e].toArray∧H'=oH uE 33 (jaG h.s.W.x z) o++(hpH D y h++F)):=by
 have hc:=fun A=>cWords_K (w0:=w0) (F:=A) hG h1.p hz
 rw[h1.B] at hc;refine zjD ?_;rintro _ _ ⟨o,e,ko,rfl,rfl⟩;exact⟨_,⟨o,e,ko,rfl,rfl⟩,by simp only[hpH_app];exact ja⟩
theorem jfu (h1:HpR D nf nk y h) (hn:n<D.C.g.slots):Call Tryz.prog w0 191 [.pointer (some ⟨D.yb,0,none⟩), .int .i64 (n:Nat)] (hpH D y h++F) (fun r H'=>r= .int .i64 0∧HpQ D nf nk {h with s:=shdC D.C.g D.C.long h.s (n:Nat)} F H'):=
 h1.lift (n:=0) fun A=>by have:=cyShade_K (w0:=w0) (F:=A) h1.p hn;rw [h1.b] at this;exact this
theorem hyBlack_K (h1:HpR D nf nk y h) (hn:n<D.C.g.slots):Call Tryz.prog w0 185 [.pointer (some ⟨D.yb,0,none⟩), .int .i64 (n:Nat)] (hpH D y h++F) (fun r H'=>r= .int .i64 0∧HpQ D nf nk {h with s:={h.s with m:=Jt h.s.m n}} F H'):=
 h1.lift (n:=0) fun A=>by have:=cyBlack_K (w0:=w0) (F:=A) h1.p hn;rw [h1.b] at this;exact this
theorem hyPin_K (h1:HpR D nf nk y h) (hn:n<D.C.g.slots):Call Tryz.prog w0 195 [.pointer (some ⟨D.Nb,0,none⟩), .int .i64 (n:Nat)] (hpH D y h++F) (fun r H'=>r= .int .i64 (if (h.s.W.N[n]?).getD 0<255 then 0 else 140)∧HpQ D nf nk {h with s:={h.s with W:={h.s.W with N:=JA h.s.W.N n}}} F H'):=
 h1.lift (n:=0) fun A=>by have:=cPin2_K (w0:=w0) (F:=A) h1.p hn;rw [h1.N] at this;exact this
theorem hyUnpin_K (h1:HpR D nf nk y h) (hn:n<D.C.g.slots):Call Tryz.prog w0 197 [.pointer (some ⟨D.Nb,0,none⟩), .int .i64 (n:Nat)] (hpH D y h++F) (fun r H'=>r= .int .i64 (if 0<(h.s.W.N[n]?).getD 0 then 0 else 140)∧HpQ D nf nk {h with s:={h.s with W:={h.s.W with N:=J0 h.s.W.N n}}} F H'):=
 h1.lift (n:=0) fun A=>by have:=cUnpin2_K (w0:=w0) (F:=A) h1.p hn;rw [h1.N] at this;exact this
theorem hyDrop_K {i:Nat} {e:jh} (h1:HpR D nf nk y h) (he:h.s.W.T[i]?=some e) (h2:e.st=1):Call Tryz.prog w0 198 [.pointer (some ⟨D.Tb,0,none⟩), .int .i64 (i:Nat), .int .u32 e.gen] (hpH D y h++F) (fun r H'=>r= .tuple [.int .i64 e.slot, .int .i64 0].toArray∧HpQ D nf nk {h with s:={h.s with W:={h.s.W with T:=Jm h.s.W.T (i:Nat)}}} F H'):=
 h1.lift (n:=0) fun A=>by have:=cDrop_K (w0:=w0) (F:=A) h1.p he h2;rw [h1.T] at this;exact this
theorem hyTake_K {k:Int} (hG:js w0) (h1:HpR D nf nk y h):Call Tryz.prog w0 183 [.pointer (some ⟨D.ab,0,none⟩), .int .i64 k] (hpH D y h++F) (fun r H'=>r= .tuple [.int .i64 (takeP D.C.g h.s.A k).1, .int .i64 (takeP D.C.g h.s.A k).2.1].toArray∧HpQ D nf nk {h with s:={h.s with A:=(takeP D.C.g h.s.A k).2.2}} F H'):=
 h1.lift (n:=0) fun A=>by have:=cTake_K (w0:=w0) (F:=A) (k:=k) hG h1.p;rw [h1.a] at this;exact this
theorem hyMake_K {hd:HdP} (hG:js w0) (h1:HpR D nf nk y h) (hz:D.C.g.L[n]?=some z):Call Tryz.prog w0 184 [.pointer (some ⟨D.Bb,0,none⟩), .int .i64 (n:Nat),hdV hd] (hpH D y h++F) (fun r H'=>r= .int .i64 (makeP h.s.W.x z hd).1∧HpQ D nf nk {h with s:={h.s with W:={h.s.W with x:=(makeP h.s.W.x z hd).2}}} F H'):=
 h1.lift (n:=0) fun A=>by have:=cMake_K (w0:=w0) (F:=A) (hd:=hd) hG h1.p hz;rw [h1.B] at this;exact this
theorem jmf {i to:Int} (hG:js w0) (h1:HpR D nf nk y h) (hz:D.C.g.L[n]?=some z):Call Tryz.prog w0 193 [.pointer (some ⟨D.Bb,0,none⟩), .int .i64 (n:Nat), .int .i64 i, .int .i64 to] (hpH D y h++F) (fun r H'=>r= .int .i64 (Jl h.s.W.x D.C.g.slots z i to).1∧HpQ D nf nk {h with s:={h.s with W:={h.s.W with x:=(Jl h.s.W.x D.C.g.slots z i to).2}}} F H'):=
 h1.lift (n:=0) fun A=>by have:=cSetRef_K (w0:=w0) (F:=A) (i:=i) (to:=to) hG h1.p hz;rw [h1.B] at this;exact this
theorem jlD {i w:Int} (hG:js w0) (h1:HpR D nf nk y h) (hn:n<D.C.g.slots) (hz:D.C.g.L[n]?=some z) (hw:0≤w∧w<18446744073709551616):Call Tryz.prog w0 192 [.pointer (some ⟨D.Bb,0,none⟩), .int .i64 (n:Nat), .int .i64 i, .int .u64 w] (hpH D y h++F) (fun r H'=>r= .int .i64 (Jk h.s.W.x z i w).1∧HpQ D nf nk {h with s:=JT D.C.g h.s (n:Nat) i w} F H'):=
 h1.lift (n:=0) fun A=>by have:=jmt (w0:=w0) (F:=A) (i:=i) hG h1.p hn hz hw;rw [h1.B] at this;exact this
end
open Go.RowKit
set_option maxRecDepth 10000
section
variable {w0 : World} {D : HpD} {nf nk n : Nat} {y y' : CyM} {h : HpP} {s s' : CyP} {F : jb} {op : OpP} {z : jg}
theorem slot_ent {tn:Nat} {T:List jh} {w:Nat} {sl:Int} (h:hpSlot tn T w=some sl): ∃ e,T[capI w]?=some e∧e.st=1∧e.gen=(capG w:Nat)∧e.slot=sl∧capG w≠0:=by
 unfold hpSlot at h
 split at h
 ·rename_i h0
  unfold namedT at h;rw[if_pos (by omega),Int.toNat_natCast] at h
  cases hT:T[capI w]? with
  |none=>rw [hT] at h;cases h
  |some e=>
   rw[hT] at h;dsimp only at h
   split at h
   ·rename_i h1;cases h;exact⟨e,rfl,h1.1,h1.2,rfl,h0.1⟩
   ·cases h
 ·cases h
theorem hproot_K (h1:HpR D nf nk y h) (hn:n<D.C.g.slots):Call Tryz.prog w0 135 [.pointer (some ⟨D.b,0,none⟩),opV op, .int .i64 (n:Nat)] (hpH D y h++F) (fun r H'=>r=snV (jc6 h (n:Nat)).1∧HpQ D nf nk (jc6 h (n:Nat)).2 F H'):=by
 have hPs:=fun A=>jhH (w0:=w0) (F:=A) h1
 have hP:=fun A=>hyPin_K (w0:=w0) (F:=A) h1 hn
 have htold:=fun A (e:Int)=>ja0 (w0:=w0) (H:=A) (e:=e)
 unfold jc6;rw[Int.toNat_natCast];unfold HpQ at hP⊢;refine Call.enter3 (n:=15) (by kernel_rfl) Tryz.func135 rfl rfl rfl ?_;simp only[hpH_app];refine zit ?_;intro b4 b6;refine zbC fun T hT=>?_;refine zkF ?_;rintro _ _ ⟨rfl,rfl⟩;refine zd ?_;clear hT T;refine zx fun T hT=>?_;refine(CallV.part (CallV.fn (hP _)) (by first|exact ja|(simp only[hpH_app];exact ja))).mono ?_;rintro _ _ ⟨rfl,y1,h2,rfl⟩;refine zd ?_;clear hT T;refine zn ?_;refine zhx ?_;exact zhj
theorem jmh (h1:HpR D nf nk y h) (hn:n<D.C.g.slots):Call Tryz.prog w0 136 [.pointer (some ⟨D.b,0,none⟩),opV op, .int .i64 (n:Nat)] (hpH D y h++F) (fun r H'=>r=snV (jbj D.C h (n:Nat)).1∧HpQ D nf nk (jbj D.C h (n:Nat)).2 F H'):=by
 have hPs:=fun A=>jhH (w0:=w0) (F:=A) h1
 have hCt:=fun A=>hyCount_K (w0:=w0) (F:=A) (n:=n) h1
 have hS:=fun A=>jfu (w0:=w0) (F:=A) h1 hn
 have hPs2:=fun A (y1:CyM) (h2:HpR D nf nk y1 {h with s:=shdC D.C.g D.C.long h.s (n:Nat)})=>jhH (w0:=w0) (F:=A) h2
 have hU:=fun A (y1:CyM) (h2:HpR D nf nk y1 {h with s:=shdC D.C.g D.C.long h.s (n:Nat)})=>hyUnpin_K (w0:=w0) (F:=A) h2 hn
 have htold:=fun A (e:Int)=>ja0 (w0:=w0) (H:=A) (e:=e)
 have hN:(shdC D.C.g D.C.long h.s (n:Nat)).W.N=h.s.W.N:=by rw[Jh]
 have hnn:0≤(h.s.W.N[n]?).getD 0:=by
  cases hq:h.s.W.N[n]? with
  |none=>exact Int.le_refl 0
  |some v=>exact(h1.p.i.w.n v (List.mem_of_getElem? hq)).1
 unfold jbj;rw[Int.toNat_natCast];simp only[hN] at hU⊢;unfold HpQ at hS hU⊢
 by_cases h0:(h.s.W.N[n]?).getD 0=0
 ·rw[if_pos h0];refine Call.enter3 (n:=30) (by kernel_rfl) Tryz.func136 rfl rfl rfl ?_;simp only[hpH_app];refine ze0 ?_;intro b4 b6;refine zbC fun T hT=>?_;refine zkF ?_;rintro _ _ ⟨rfl,rfl⟩;refine zd ?_;clear hT T;refine zx fun T hT=>?_;refine(CallV.part (CallV.fn (hCt _)) (by first|exact ja|(simp only[hpH_app];exact ja))).mono ?_;rintro _ _ ⟨rfl,rfl⟩;refine zd ?_;clear hT T;refine zJ ?_;refine zjX ?_;exact zhk
 ·rw[if_neg h0]
  have h0':0<(h.s.W.N[n]?).getD 0:=by omega
  simp only[if_pos h0'] at hU;refine Call.enter3 (n:=30) (by kernel_rfl) Tryz.func136 rfl rfl rfl ?_;simp only[hpH_app];refine ze0 ?_;intro b4 b6;refine zbC fun T hT=>?_;refine zkF ?_;rintro _ _ ⟨rfl,rfl⟩;refine zd ?_;clear hT T;refine zx fun T hT=>?_;refine(CallV.part (CallV.fn (hCt _)) (by first|exact ja|(simp only[hpH_app];exact ja))).mono ?_;rintro _ _ ⟨rfl,rfl⟩;refine zd ?_;clear hT T;simp only[hpH_app];refine zG ?_;refine zR ?_;refine za2 ?_;refine zb6 fun T hT=>?_;refine zig ?_;rintro _ _ ⟨rfl,y1,h2,rfl⟩;refine zd ?_;clear hT T;simp only[hpH_app];refine zW ?_;refine zbC fun T hT=>?_;refine(CallV.part (CallV.fn (hPs2 _ y1 h2)) (by first|exact ja|(simp only[hpH_app];exact ja))).mono ?_;rintro _ _ ⟨rfl,rfl⟩;refine zd ?_;clear hT T;refine zx fun T hT=>?_;refine(CallV.part (CallV.fn (hU _ y1 h2)) (by first|exact ja|(simp only[hpH_app];exact ja))).mono ?_;rintro _ _ ⟨rfl,y2,h3,rfl⟩;refine zd ?_;clear hT T;refine zn ?_;refine zhx ?_;exact zkG
theorem hpdrop_K (h1:HpR D nf nk y h) (hn:n<D.C.g.slots) (hh:op.h<18446744073709551616) (hs:hpSlot D.C.tn h.s.W.T op.h=some ((n:Nat):Int)):Call Tryz.prog w0 137 [.pointer (some ⟨D.b,0,none⟩),opV op, .int .i64 (n:Nat)] (hpH D y h++F) (fun r H'=>r=snV (jdK D.C h (n:Nat) op.h).1∧HpQ D nf nk (jdK D.C h (n:Nat) op.h).2 F H'):=by
 obtain⟨e,he,e1,eg,es,hg⟩:=slot_ent hs
 have hget:=fun A=>jkL (w0:=w0) (H:=A) hh
 unfold capV at hget;simp only[if_neg hg] at hget
 have hS:=fun A=>jfu (w0:=w0) (F:=A) h1 hn
 have hTb:=fun A (y1:CyM) (h2:HpR D nf nk y1 {h with s:=shdC D.C.g D.C.long h.s (n:Nat)})=>jd0 (w0:=w0) (F:=A) h2
 have hT':(shdC D.C.g D.C.long h.s (n:Nat)).W.T=h.s.W.T:=by rw[Jh]
 have hDr:=fun A (y1:CyM) (h2:HpR D nf nk y1 {h with s:=shdC D.C.g D.C.long h.s (n:Nat)})=>hyDrop_K (w0:=w0) (F:=A) (i:=capI op.h) (e:=e) h2 (by rw[hT'];exact he) e1
 rw[eg] at hDr
 have htold:=fun A (e:Int)=>ja0 (w0:=w0) (H:=A) (e:=e)
 unfold jdK;unfold HpQ at hS hDr⊢;unfold opV;refine Call.enter3 (n:=38) (by kernel_rfl) Tryz.func137 rfl rfl rfl ?_;refine zit ?_;intro b4 b6;refine zlc ?_;refine ji (hget _) ja ?_;simp only[hpH_app];refine zaX ?_;intro b7;refine zu ?_;refine ziv ?_;refine zb6 fun T hT=>?_;refine zig ?_;rintro _ _ ⟨rfl,y1,h2,rfl⟩;refine zd ?_;clear hT T;simp only[hpH_app];refine zcW ?_
 (first|refine K.seq (K.drawn _ [(0,0),(1,0),(2,0),(3,0),(5,1),(6,1),(7,1),(8,1),(4,2),(9,4),(10,0),(11,0),(12,0),(13,0),(14,0)] (by kernel_rfl) (by kernel_rfl) (by kernel_rfl) (by kernel_rfl) (by kernel_rfl) (by kernel_rfl) Part.all ?_)|refine K.seq (K.seq (K.drawn _ [(0,0),(1,0),(2,0),(3,0),(5,1),(6,1),(7,1),(8,1),(4,2),(9,4),(10,0),(11,0),(12,0),(13,0),(14,0)] (by kernel_rfl) (by kernel_rfl) (by kernel_rfl) (by kernel_rfl) (by kernel_rfl) (by kernel_rfl) Part.all ?_))|refine K.drawn _ [(0,0),(1,0),(2,0),(3,0),(5,1),(6,1),(7,1),(8,1),(4,2),(9,4),(10,0),(11,0),(12,0),(13,0),(14,0)] (by kernel_rfl) (by kernel_rfl) (by kernel_rfl) (by kernel_rfl) (by kernel_rfl) (by kernel_rfl) Part.all ?_)
 refine zfv ?_;refine zgD ?_;refine zS ?_;refine zlZ ?_;refine zc6 ?_;refine zjy ?_;refine zc6 ?_;refine zl fun T hT=>?_;refine(CallV.part (CallV.fn (hTb _ y1 h2)) (by first|exact ja|(simp only[hpH_app];exact ja))).mono ?_;rintro _ _ ⟨rfl,rfl⟩;refine zak ?_;clear hT T;refine zgE fun T hT=>?_;refine(CallV.part (CallV.fn (hDr _ y1 h2)) (by first|exact ja|(simp only[hpH_app];exact ja))).mono ?_;rintro _ _ ⟨rfl,y2,h3,rfl⟩;refine zg ?_;clear hT T;refine zdp ?_;refine zaf ?_;refine zo ?_;refine zhx ?_;exact zkG
theorem hpfold_K (hG:js w0) (h1:HpR D nf nk y h) (hz:D.C.g.L[n]?=some z) (hl:(jaG h.s.W.x z).length≤1000000):Call Tryz.prog w0 138 [.pointer (some ⟨D.b,0,none⟩),opV op, .int .i64 (n:Nat)] (hpH D y h++F) (fun r H'=>r=snV (jdJ D.C h (n:Nat)).1∧HpQ D nf nk (jdJ D.C h (n:Nat)).2 F H'):=by
 have hB:=fun A=>jd8 (w0:=w0) (F:=A) h1
 have hW:=fun A=>hyWords_K (w0:=w0) (F:=A) hG h1 hz
 unfold jdJ;rw[jC hz]
 have hSum:=fun A v (hS:Sli w0 A uE v (jaG h.s.W.x z))=>Sum_K (w0:=w0) hS hl
 unfold HpQ;refine Call.enter3 (n:=22) (by kernel_rfl) Tryz.func138 rfl rfl rfl ?_;simp only[hpH_app];refine zit ?_;intro b4 b6;refine zbC fun T hT=>?_;refine zfb ?_;rintro _ _ ⟨rfl,rfl⟩;refine zd ?_;clear hT T;refine zx fun T hT=>?_;refine(CallV.part (CallV.fn (hW _)) (by first|exact ja|(simp only[hpH_app];exact ja))).mono ?_;rintro _ _ ⟨o,e,ko,rfl,rfl⟩;refine zd ?_;clear hT T;refine zQ ?_;refine zo ?_;refine jq (hSum _ _ (Sli.own jn ko rfl)) ?_;refine zfz ?_;exact zhk
end
end Go.Proofs.YtpcgafhgfjlkmaaGreatDoor.Sw
