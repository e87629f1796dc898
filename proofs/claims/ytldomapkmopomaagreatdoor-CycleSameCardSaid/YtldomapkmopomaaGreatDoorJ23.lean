/-The walker and the contracts that the law needs,part 23. -/
import Derived.Test.YtldomapkmopomaaGreatDoorD1
import Derived.ArgAppend
import Derived.ChangeMaps5
import Derived.Deep.Fields
import Derived.Deep.LoopGhost
import Derived.Deep.OwnRows
import Derived.Deep.Quiet
import Derived.Deep.Slices
import Derived.IntWalk
import Derived.Laws.Cells
import Derived.Laws.CopyOwn
import Derived.Laws.Externs
import Derived.Laws.FloatArith
import Derived.Laws.IdiomStrings
import Derived.Laws.NewFold
import Derived.Laws.StructEq
import Derived.Lib.BitFns
import Derived.Lib.Hide
import Derived.Lib.SmallJoins
import Derived.Lib.TrailingZeros
import Derived.Maps.RangeRun
import Derived.OrdersIn
import Derived.ProofKit
import Derived.RangeFuncBound
import Derived.RangeFuncCalls
import Derived.RangeFuncLeaves
import Derived.RangeFuncNested
import Derived.RecoverIn
import Derived.Shelf.Bits.Mul64
import Derived.Shelf.Slices.Turned
import Derived.Shelf.Spec.TrailingZeros
import Derived.Shelf.Strconv.Itoa0
import Derived.SizedLaws
import Derived.Sort.BigQuietIn
import Derived.StillTailTactics
import Derived.Test.YtldomapkmopomaaGreatDoorProg
import Derived.WalkKit
import Derived.Test.YtldomapkmopomaaGreatDoorJ20
set_option linter.unusedVariables false set_option linter.unusedSimpArgs false namespace Go.Proofs.YtldomapkmopomaaGreatDoor.Sw
set_option maxHeartbeats 8000000
open Go.Proofs.YtldomapkmopomaaGreatDoor renaming lo → qL, hi → qH
open Go.RowKit
set_option linter.unusedVariables false
set_option linter.unusedSimpArgs false
set_option maxRecDepth 10000
theorem Page0_K {w0:World} {F:jb} {p:jO} {s:Nat} {x:ju} (ok:J2 p) (hx:p.g.L[s]?=some x):
  Call Tryz.prog w0 264 [.pointer (some ⟨p.b,0,none⟩), .int .i64 (s:Nat)] (planH p++F) (fun r H'=>r= .tuple [.int .i64 (x.page:Nat), .int .i64 0].toArray∧H'=planH p++F):=by
 have hpp:=ok.g.pages.2
 have hpb:=(jcv ok.g hx).1
 obtain⟨k,d,hk,hd,hs,rfl⟩:=L_at hx
 have hper:=ok.g.per hk
 have hnk:=ok.g.n hk
 have hal:=Nat.div_le_self d (p.g.per k)
 have ho:=ok.o
 have hpl:p.g.parts.length=p.g.m:=jbP
 have hkl:k<p.g.parts.length:=by omega
 have hx:p.g.parts[k]?=some (p.g.pt k):=jch hk
 simp only[PlG.sl] at hpb⊢
 obtain⟨pt,hpt⟩: ∃ pt,pt=p.g.pt k:=⟨_,rfl⟩
 have hp1:p.g.page k=pt.page:=by rw[hpt];rfl
 have hp2:p.g.per k=pt.per:=by rw[hpt];rfl
 rw[hp1,hp2] at hpb⊢;rw[hp2] at hper hal;rw[←hpt] at hx;clear hpt
 obtain⟨a,ha⟩: ∃ a,a=d/pt.per:=⟨_,rfl⟩
 have e1:((d:Nat):Int)/((pt.per:Nat):Int)=(a:Nat):=by rw[ha];rfl
 rw[←ha] at hpb hal⊢
 have e2:((pt.page:Nat):Int)+((a:Nat):Int)=((pt.page+a:Nat):Int):=by omega
 have hpe: ¬((pt.per:Nat):Int)=0:=by omega
 have hpn: ¬((pt.per:Nat):Int)= -1:=by omega
 refine Call.enter2 (n:=38) (by kernel_rfl) Tryz.func264 rfl rfl rfl ?_;refine yq10 fun T hT=>?_;refine zdb ?_;rintro _ _ ⟨rfl,rfl⟩;refine za ?_;clear hT T;simp only[jN];refine yr20 ?_;refine ze9 ?_;refine zbd ?_;refine zN ?_;refine KD.v0 rfl rfl (Val.fieldSl (k:=3) rfl rfl) ?_;refine zbj ?_;refine zg ?_;refine zbd ?_;refine zN ?_;refine KD.v0 rfl rfl (Val.fieldSl (k:=4) rfl rfl) ?_;refine zbj ?_;refine zaZ ?_;refine zK ?_;refine zab ?_;refine yr2 ?_;rw[e1,e2];exact zet
theorem pin_K {w0:World} {F:jb} {p:jO} {c j:Nat} (ok:J2 p) (hc:c<p.g.m) (hj:j<p.g.pgs c):
  Call Tryz.prog w0 315 [.pointer (some ⟨p.b,0,none⟩), .int .i64 (p.g.page c+j:Nat)] (planH p++F) (fun r H'=>r= .tuple [.agg (jb8 (p.g.pt c)).toArray, .int .i64 ((j*p.g.per c:Nat))].toArray∧H'=planH p++F):=by
 have hm:=ok.g.m
 have hpl:p.g.parts.length=p.g.m:=jbP
 have ho:=ok.o
 have hpc:=ok.g.page (Nat.le_of_lt hc)
 have hper:=ok.g.per hc
 have hn:=ok.g.n hc
 have hjn:=(jf2 ok.g hc).1 hj
 have hpb:=ok.g.pages
 have hpp:=ja7 (n:=p.g.pgs) hc
 obtain⟨s,hs⟩: ∃ s,s=p.g.page c+j:=⟨_,rfl⟩
 rw[←hs]
 have hsb:s<p.g.pages:=by show s<jy p.g.pgs p.g.m;have:jy p.g.pgs c=p.g.page c:=rfl;omega
 have hx:p.g.parts[c]?=some (p.g.pt c):=jch hc
 obtain⟨pt,hpt⟩: ∃ pt,pt=p.g.pt c:=⟨_,rfl⟩
 have hp1:p.g.page c=pt.page:=by rw[hpt];rfl
 have hp2:p.g.per c=pt.per:=by rw[hpt];rfl
 rw[←hpt] at hx⊢;rw[hp2] at hper hjn⊢;rw[hp1] at hs hpc;unfold jb8;clear hpt
 have hq: ∀ i,decide (p.g.page i≤s)=decide (((p.g.page i:Nat):Int)≤(s:Nat)):=fun i=>decide_eq_decide.2 (by omega)
 refine Call.enter2 (n:=23) (by kernel_rfl) Tryz.func315 rfl rfl rfl ?_;simp only[jN];refine yr2 ?_;refine zj ?_;intro b3 b4;refine yr4 ?_;refine K.drawn _ [(0,1),(1,1),(2,1),(3,1),(4,0),(5,0),(6,2),(7,0),(8,0),(9,2)] (by kernel_rfl) (by kernel_rfl) (by kernel_rfl) (by kernel_rfl) (by kernel_rfl) (by kernel_rfl) (Part.drop Part.all) ?_;refine zaw ?_;refine zeY ?_;refine zg ?_;refine zcG ?_;refine zi fun T hT=>?_;refine(CallV.part (CallV.fn (last_K (F:=(b3,cells [.int .i64 (s:Nat)] 3)::(b4,cells [.int .i64 0, .int .i64 0, .int .i64 0, .int .i64 0, .int .i64 0] 224)::F) (g:=326) (cap:=[.pointer (some ⟨b3,0,none⟩)]) (q:=fun i=>decide (p.g.page i≤s)) ok ?_ ?_)) (by first|exact ja|(simp only[jN];exact ja))).mono ?_
 ·intro i j h1 h2 h3
  have h4:p.g.page i≤p.g.page j:=jfg h1
  have h5:=of_decide_eq_true h3
  exact decide_eq_true (by omega)
 ·intro H' i hp hi;refine CallV.clo (cap:=[.pointer (some ⟨b3,0,none⟩)]) ?_
  have hsee:jA w0 H' ⟨b3,0,none⟩ (.int .i64 (s:Nat)):=(jA.cell (H:=planH p++((b3,cells [.int .i64 (s:Nat)] 3)::(b4,cells [.int .i64 0, .int .i64 0, .int .i64 0, .int .i64 0, .int .i64 0] 224)::F)) jq rfl).more hp
  rw[hq];unfold jb8 PlG.pt;dsimp only;refine Call.enter2 (n:=8) (by kernel_rfl) Tryz.func326 rfl rfl rfl ?_;refine yr2 ?_;refine ze ?_;intro b2;refine yr13 ?_;exact zd
 ·rintro _ _ ⟨i,hi,h1,h2,rfl,rfl⟩
  have hf0:p.g.page 0=0:=rfl
  have hi1:1≤i:=by
   rcases Nat.eq_zero_or_pos i with h|h
   ·subst h
    have:=h2 0 (by omega) (by omega)
    simp[hf0] at this
   ·exact h
  have hik:i=c+1:=by
   have e1:c<i:=by
    rcases Nat.lt_or_ge c i with h|h
    ·exact h
    ·have:=h2 c h hc
     have:=of_decide_eq_false this
     omega
   rcases Nat.lt_or_ge (c+1) i with h|h
   ·have h3:=of_decide_eq_true (h1 (c+1) h)
    have h4:p.g.page (c+1)=p.g.page c+p.g.pgs c:=rfl
    omega
   ·omega
  have he:(i:Int)-1=((c:Nat):Int):=by omega
  have hj':((s:Nat):Int)-((pt.page:Nat):Int)=((j:Nat):Int):=by omega
  have hmul:(((s:Nat):Int)-((pt.page:Nat):Int))*((pt.per:Nat):Int)=((j*pt.per:Nat):Int):=by rw[hj'];exact(Int.natCast_mul j pt.per).symm
  rw[he];refine zh ?_;clear hT T;simp only[jN];refine zN ?_;refine KD.v0 rfl rfl (Val.loadAP rfl rfl rfl jc4) ?_;refine zM ?_;refine zY ?_;refine yr2 ?_;refine K.drawn _ [(0,0),(1,1),(2,0),(3,0),(4,1),(5,0),(6,0),(7,1),(8,2),(9,0)] (by kernel_rfl) (by kernel_rfl) (by kernel_rfl) (by kernel_rfl) (by kernel_rfl) (by kernel_rfl) (Part.drop Part.all) ?_;refine zai ?_;refine zx ?_;refine zc6 ?_;refine zeu ?_;refine zan ?_;refine KD.v1 rfl rfl (Val.mul rfl rfl (by simp only[qL,qH];omega)) ?_;refine zM ?_;refine zaK ?_;refine yr2 ?_;rw[hmul];exact zet
theorem In_K {w0:World} {F:jb} {p:jO} {k:Nat} (ok:J2 p) (hk:k<p.g.pages):
  Call Tryz.prog w0 294 [.pointer (some ⟨p.b,0,none⟩), .int .i64 (k:Nat)] (planH p++F) (fun r H'=>r= .tuple [.int .i64 (p.g.fp k:Nat), .int .i64 (p.g.mp k:Nat), .int .i64 0].toArray∧H'=planH p++F):=by
 have hpb:=ok.g.pages
 have hmb:=jb3 ok.g hk
 obtain⟨c,j,hc,hj,hkj⟩:=jep (n:=p.g.pgs) hk
 have hkj':k=p.g.page c+j:=hkj
 have hin:=fun A=>pin_K (w0:=w0) (F:=A) ok hc hj
 have hper:=ok.g.per hc
 have hn:=ok.g.n hc
 have hfc:=ok.g.first (Nat.le_of_lt hc)
 have hjn:=(jf2 ok.g hc).1 hj
 have h1:=fp_at hc hj
 have h2:=mp_at hc hj
 rw[←hkj'] at h1 h2 hin
 have hge: ¬((k:Nat):Int)≥(p.g.pages:Nat):=by omega
 obtain⟨pt,hpt⟩: ∃ pt,pt=p.g.pt c:=⟨_,rfl⟩
 have hp1:pt.first=p.g.first c:=by rw[hpt];rfl
 have hp2:pt.many=p.g.n c:=by rw[hpt];rfl
 have hp3:pt.per=p.g.per c:=by rw[hpt];rfl
 rw[←hpt] at hin;rw[←hp1] at h1 hfc;rw[←hp2] at h2 hn hjn;rw[←hp3] at h1 h2 hper hjn hin
 obtain⟨sz,fi,ma,pa,pe⟩:=pt
 unfold jb8 at hin;dsimp only at hin h1 h2 hn hjn hper hfc
 obtain⟨q,hq⟩: ∃ q,q=j*pe:=⟨_,rfl⟩
 rw[←hq] at hin h1 h2 hjn
 have e1:((fi:Nat):Int)+((q:Nat):Int)=((p.g.fp k:Nat):Int):=by omega
 have e2:((ma:Nat):Int)-((q:Nat):Int)=((ma-q:Nat):Int):=by omega
 have e3:(if ((ma:Nat):Int)-((q:Nat):Int)<((pe:Nat):Int) then((ma:Nat):Int)-((q:Nat):Int) else((pe:Nat):Int))=((p.g.mp k:Nat):Int):=by split<;>omega
 clear hpt hp1 hp2 hp3 hq;refine Call.enter2 (n:=40) (by kernel_rfl) Tryz.func294 rfl rfl rfl ?_;refine yq12 fun T hT=>?_;refine zbD ?_;rintro _ _ ⟨rfl,rfl⟩;refine za ?_;clear hT T;simp only[jN];refine yq33 fun T hT=>?_;refine(CallV.part (CallV.fn (hin _)) (by first|exact ja|(simp only[jN];exact ja))).mono ?_;refine zc ?_;clear hT T;refine yr3 ?_;refine zf ?_;intro b7;refine yr5 ?_;refine zbG ?_;refine zB ?_;refine zg ?_;refine zK ?_;refine zan ?_;refine z8 ?_;refine zg ?_;refine zbH ?_;refine KD.v0 rfl rfl (Val.min rfl rfl) ?_;refine zbC ?_;refine zab ?_;refine yr2 ?_;rw[e1,e3];exact zet
set_option maxRecDepth 10000
structure RingR (ring:List Int) (first many:Nat) (q:List Nat):Prop where
 n:q.length=many
 le:many≤ring.length
 lt:first<ring.length
 at_: ∀ i:Nat,i<many→ring[(first+i)%ring.length]?=(q[i]?).map fun n=>((n:Nat):Int)
theorem mod_inj {f l i j:Nat} (hi:i<l) (hj:j<l) (h:(f+i)%l=(f+j)%l):i=j:=by
 have h1:=Nat.div_add_mod (f+i) l
 have h2:=Nat.div_add_mod (f+j) l
 rw[h] at h1
 rcases Nat.lt_trichotomy ((f+i)/l) ((f+j)/l) with hh|hh|hh
 ·have:=Nat.mul_le_mul_left l (show(f+i)/l+1≤(f+j)/l from hh)
  rw[Nat.mul_add] at this;omega
 ·rw[hh] at h1;omega
 ·have:=Nat.mul_le_mul_left l (show(f+j)/l+1≤(f+i)/l from hh)
  rw[Nat.mul_add] at this;omega
theorem RingR.put {ring:List Int} {first many:Nat} {q:List Nat} (h:RingR ring first many q) (hl:many<ring.length) (s:Nat):
  RingR (ring.set ((first+many)%ring.length) (s:Nat)) first (many+1) (q++ [s]):=by
 have hlt:=Nat.mod_lt (first+many) (show 0<ring.length by omega)
 refine⟨by simp[h.n],by simp;omega,by simpa using h.lt,fun i hi=>?_⟩;simp only[List.length_set]
 have hqn:=h.n
 have hfl:=h.lt
 by_cases hm:i=many
 ·subst hm;rw[List.getElem?_set_self hlt,List.getElem?_append_right (by omega)]
  simp[h.n]
 ·rw[List.getElem?_set_ne,List.getElem?_append_left (by rw[h.n];omega)]
  ·exact h.at_ i (by omega)
  ·intro e;exact hm (mod_inj (by omega) hl e.symm)
theorem RingR.next {ring:List Int} {first many:Nat} {s:Nat} {q:List Nat} (h:RingR ring first many (s::q)):
  ring[first]?=some ((s:Nat):Int)∧RingR ring ((first+1)%ring.length) (many-1) q:=by
 have hn:=h.n
 have hlt:=h.lt
 have hle:=h.le
 simp at hn
 constructor
 ·have:=h.at_ 0 (by omega)
  rw[Nat.add_zero,Nat.mod_eq_of_lt hlt] at this
  simpa using this
 ·refine⟨by omega,by omega,Nat.mod_lt _ (by omega),fun i hi=>?_⟩
  have:=h.at_ (i+1) (by omega)
  rw[show((first+1)%ring.length+i)%ring.length=(first+(i+1))%ring.length by rw[Nat.mod_add_mod];congr 1;omega];rw[this];simp
structure GrR (r:GrM) (g:PlG) (G:GyP):Prop where
 ow:r.ow.bs=G.ow
 di:r.di.bs=G.di
 q:RingR r.ring r.first r.many G.q
 pg:match G.pg with
  |none=>r.at_=r.end_
  |some k=>r.at_=g.fp k+G.at_∧r.end_=g.fp k+g.mp k
 lo:r.end_≤g.slots
section
variable {w0 : World} {F : jb} {p : jO} {r : GrM} {G : GyP}
theorem owe_K {s k:Nat} (ok:GrOk r p) (hs:s<p.g.slots) (hk:k<p.g.pages):
  Call Tryz.prog w0 265 [.agg [.pointer (some ⟨r.ow.b,0,none⟩), .pointer (some ⟨r.di.b,0,none⟩)].toArray, .int .i64 (s:Nat), .int .i64 (k:Nat)] (jz r.ow++(jz r.di++F))
   (fun v H'=>v= .tuple #[]∧H'=jz (Jr r.ow s true)++(jz (Jr r.di k true)++F)):=by
 have k1:=ok.ow
 have k2:=ok.di
 have h1:s<r.ow.bs.length:=by rw[ok.n1];exact hs
 have h2:k<r.di.bs.length:=by rw[ok.n2];exact hk
 refine Call.enter3 (n:=14) (by kernel_rfl) Tryz.func265 rfl rfl rfl ?_;refine yr2 ?_;refine ze ?_;intro b3;refine yq7 fun T hT=>?_;refine(CallV.part (CallV.fn (Set_K (v:=true) k1 h1)) ja).mono ?_;refine zc ?_;clear hT T;refine yq6 fun T hT=>?_;refine(CallV.part (CallV.fn (Set_K (v:=true) k2 h2)) ja).mono ?_;refine zc ?_;clear hT T;refine yr1 ?_;exact KE.finN jd rfl jc ja ⟨rfl,rfl⟩
theorem pay_K {s:Nat} (ok:GrOk r p) (hs:s<p.g.slots):
  Call Tryz.prog w0 295 [.agg [.pointer (some ⟨r.ow.b,0,none⟩), .pointer (some ⟨r.di.b,0,none⟩)].toArray, .int .i64 (s:Nat)] (jz r.ow++(jz r.di++F))
   (fun v H'=>v= .bool ((r.ow.bs[s]?).getD false)∧H'=jz (Jr r.ow s false)++(jz r.di++F)):=by
 have k1:=ok.ow
 have k2:=ok.di
 have h1:s<r.ow.bs.length:=by rw[ok.n1];exact hs
 have hg:getB r.ow.bs (s:Nat)=(r.ow.bs[s]?).getD false:=jcX
 refine Call.enter2 (n:=15) (by kernel_rfl) Tryz.func295 rfl rfl rfl ?_;refine yr2 ?_;refine ze ?_;intro b2;refine yq8 fun T hT=>?_;refine(CallV.part (CallV.fn (Get_K (i:=(s:Nat)) k1)) ja).mono ?_;refine zq ?_;rw[hg];refine za ?_;clear hT T;refine yq8 fun T hT=>?_;refine(CallV.part (CallV.fn (Set_K (v:=false) k1 h1)) ja).mono ?_;refine zc ?_;clear hT T;refine yr9 ?_;exact zd
theorem grPut_K {s:Nat} (ok:GrOk r p) (hR:GrR r p.g G) (hs:s<p.g.slots):
  Call Tryz.prog w0 216 [.pointer (some ⟨r.b,0,none⟩), .int .i64 (s:Nat)] (JA r p++(planH p++F))
   (fun v H'=>v= .int .i64 0∧ ∃ r',GrOk r' p∧r'.b=r.b∧r'.ring.length=r.ring.length∧GrR r' p.g (JC p.g r.ring.length G s)∧H'=JA r' p++(planH p++F)):=by
 obtain⟨y,hy⟩:=Jg (g:=p.g) hs
 have hpg:=jcT hy
 have hpb:=(jcv ok.pl.g hy).1
 have okp:=ok.pl
 have ho:=ok.o
 have hl:=ok.l
 have hq:=hR.q.n
 have hle:=hR.q.le
 have hlt:=hR.q.lt
 by_cases hfull:r.many=r.ring.length
 ·have hput:JC p.g r.ring.length G s={G with ow:=G.ow.set s true,di:=G.di.set y.page true}:=by
   unfold JC;rw [if_neg (by omega),hpg]
  have hf:((r.many:Nat):Int)=(r.ring.length:Nat):=by omega
  refine Call.enter2 (n:=68) (by kernel_rfl) Tryz.func216 rfl rfl rfl ?_;refine yq9 fun T hT=>?_;refine za5 ?_;refine zc ?_;clear hT T;simp only[Jn];refine yq12 fun T hT=>?_;refine(CallV.part (CallV.fn (Page0_K okp hy)) ja).mono ?_;refine zc ?_;clear hT T;refine yr18 ?_;refine zbi ?_;refine zu ?_;refine zaP ?_;refine zo ?_;refine zaW ?_;refine zcI ?_;refine zaC ?_;refine zy ?_;refine yq9 fun T hT=>?_;refine(CallV.part (CallV.fn (owe_K ok hs hpb)) ja).mono ?_;refine zc ?_;clear hT T;refine yr9 ?_
  have hd:r=⟨r.b,r.ow,r.di,r.ring,r.o,r.first,r.many,r.at_,r.end_⟩:=rfl
  exact KE.fin (H':=JA ⟨r.b,Jr r.ow s true,Jr r.di y.page true,r.ring,r.o,r.first,r.many,r.at_,r.end_⟩ p++(planH p++F)) jd rfl jc (by simp only[Jn];exact ja)
   ⟨rfl,⟨r.b,Jr r.ow s true,Jr r.di y.page true,r.ring,r.o,r.first,r.many,r.at_,r.end_⟩,⟨okp,jcs ok.ow _ _,jcs ok.di _ _,ho,by simpa [Jr] using ok.n1,by simpa [Jr] using ok.n2,hl⟩,rfl,rfl,by
    rw[hput];exact⟨by show(r.ow.bs.set s true)=_;rw [hR.ow],by show(r.di.bs.set y.page true)=_;rw [hR.di],hR.q,hR.pg,hR.lo⟩,by simp only[Jn]⟩
 ·have hput:JC p.g r.ring.length G s={G with q:=G.q++ [s]}:=by
   unfold JC;rw [if_pos (by omega)]
  have hf: ¬((r.many:Nat):Int)=(r.ring.length:Nat):=by omega
  have hml:=Nat.mod_lt (r.first+r.many) (show 0<r.ring.length by omega)
  have he:(((r.first:Nat):Int)+((r.many:Nat):Int))%((r.ring.length:Nat):Int)=(((r.first+r.many)%r.ring.length:Nat):Int):=rfl
  obtain⟨a,ha⟩: ∃ a,(r.first+r.many)%r.ring.length=a:=⟨_,rfl⟩
  have hring:=hR.q.put (by omega) s
  rw[ha] at hml he hring
  have hn0: ¬((r.ring.length:Nat):Int)=0:=by omega
  have hn1: ¬((r.ring.length:Nat):Int)= -1:=by omega
  obtain⟨z0,hz0⟩:=jn hml
  have e1:((r.many:Nat):Int)+1=((r.many+1:Nat):Int):=by omega
  refine Call.enter2 (n:=68) (by kernel_rfl) Tryz.func216 rfl rfl rfl ?_;refine yq9 fun T hT=>?_;refine za5 ?_;refine zc ?_;clear hT T;simp only[Jn];refine yq12 fun T hT=>?_;refine(CallV.part (CallV.fn (Page0_K okp hy)) ja).mono ?_;refine zc ?_;clear hT T;refine yr18 ?_;refine zbi ?_;refine zu ?_;refine zaP ?_;refine zo ?_;refine zaW ?_;refine zcI ?_;refine za4 ?_;refine zy ?_;refine yr3 ?_;refine K.drawn [] [(0,0),(1,0),(2,0),(3,0),(4,0),(5,0),(6,0),(7,0),(8,0),(9,0),(10,0),(11,0),(12,0),(13,0),(14,0),(15,0),(16,0),(17,0),(18,0),(19,0),(20,0),(21,2)] (by kernel_rfl) (by kernel_rfl) (by kernel_rfl) (by kernel_rfl) (by kernel_rfl) (by kernel_rfl) Part.nil ?_;refine zaW ?_;refine zu ?_;refine zan ?_;refine zu ?_;refine zaP ?_;refine zo ?_;refine zK ?_;refine zaW ?_;refine zcI ?_;refine zcr ?_;refine zg ?_;refine KD.v0 rfl rfl (Val.idxSlZ rfl rfl rfl (Sli.own jh (by assumption) jG) rfl (by omega)) ?_;rw[he];refine zbX ?_;refine zY ?_;refine yr19 ?_;rw[Int.toNat_natCast]
  skip
  exact KE.fin (H':=JA ⟨r.b,r.ow,r.di,r.ring.set a (s:Nat),r.o,r.first,r.many+1,r.at_,r.end_⟩ p++(planH p++F)) jd rfl jc (by simp only[Jn,List.length_set];exact ja)
   ⟨rfl,⟨r.b,r.ow,r.di,r.ring.set a (s:Nat),r.o,r.first,r.many+1,r.at_,r.end_⟩,⟨okp,ok.ow,ok.di,ho.set _ _,ok.n1,ok.n2,by simpa using hl⟩,rfl,by simp,by
    rw[hput];exact⟨hR.ow,hR.di,hring,hR.pg,hR.lo⟩,by simp only[Jn]⟩
theorem grNext_K (ok:GrOk r p) (hR:GrR r p.g G):
  Call Tryz.prog w0 258 [.pointer (some ⟨r.b,0,none⟩)] (JA r p++F)
   (fun v H'=>(G.q=[]∧v= .tuple [.int .i64 0, .bool false].toArray∧H'=JA r p++F)∨ ∃ s q r',G.q=s::q∧v= .tuple [.int .i64 (s:Nat), .bool true].toArray∧GrOk r' p∧r'.b=r.b∧r'.ring.length=r.ring.length∧GrR r' p.g {G with q:=q}∧H'=JA r' p++F):=by
 have ho:=ok.o
 have hl:=ok.l
 have hn:=hR.q.n
 have hlt:=hR.q.lt
 have hle:=hR.q.le
 cases hq:G.q with
 |nil=>
  rw[hq] at hn
  simp at hn
  have hm0:((r.many:Nat):Int)=0:=by omega
  refine Call.enter1 (n:=47) (by kernel_rfl) Tryz.func258 rfl rfl rfl ?_;refine yq10 fun T hT=>?_;refine za5 ?_;refine zc ?_;clear hT T;simp only[Jn];refine yr23 ?_;exact KE.fin jd rfl jc (by first|exact ja|(simp only[Jn];exact ja)) (.inl ⟨trivial,rfl,rfl⟩)
 |cons s q=>
  have hRq:=hR.q
  rw[hq] at hRq
  obtain⟨hx,hnx⟩:=hRq.next
  rw[hq] at hn
  simp at hn
  have hm0: ¬((r.many:Nat):Int)=0:=by omega
  have hml:=Nat.mod_lt (r.first+1) (show 0<r.ring.length by omega)
  obtain⟨a,ha⟩: ∃ a,(r.first+1)%r.ring.length=a:=⟨_,rfl⟩
  have he:(((r.first:Nat):Int)+1)%((r.ring.length:Nat):Int)=((a:Nat):Int):=by rw[←ha];rfl
  have e1:((r.many:Nat):Int)-1=((r.many-1:Nat):Int):=by omega
  rw[ha] at hnx hml
  have hn0: ¬((r.ring.length:Nat):Int)=0:=by omega
  refine Call.enter1 (n:=47) (by kernel_rfl) Tryz.func258 rfl rfl rfl ?_;refine yq10 fun T hT=>?_;refine za5 ?_;refine zc ?_;clear hT T;simp only[Jn];refine yr18 ?_;refine zbi ?_;refine zaW ?_;refine zu ?_;refine zan ?_;refine zN ?_;refine zbA ?_;refine zy ?_;refine yr2 ?_;refine K.drawn _ [(0,0),(1,1),(2,0),(3,0),(4,0),(5,0),(6,0),(7,0),(8,0),(9,0),(10,0),(11,0),(12,0),(13,0),(14,0),(15,0),(16,0),(17,1),(18,0),(19,0),(20,2),(21,0),(22,0),(23,2)] (by kernel_rfl) (by kernel_rfl) (by kernel_rfl) (by kernel_rfl) (by kernel_rfl) (by kernel_rfl) (Part.drop Part.all) ?_;refine zg ?_;refine zm ?_;refine zu ?_;refine zan ?_;refine zK ?_;refine zaW ?_;refine zcI ?_;refine zcr ?_;refine zu ?_;refine zaP ?_;refine zo ?_;refine zeu ?_;refine zbf ?_;refine zfi ?_;refine zb0 ?_;refine zW ?_;refine zbf ?_;refine zaP ?_;refine zU ?_;refine yr9 ?_;rw[he,e1];exact KE.fin (H':=JA ⟨r.b,r.ow,r.di,r.ring,r.o,a,r.many-1,r.at_,r.end_⟩ p++F) jd rfl jc (by simp only[Jn];exact ja)
   (.inr ⟨s,q,⟨r.b,r.ow,r.di,r.ring,r.o,a,r.many-1,r.at_,r.end_⟩,rfl,rfl,⟨ok.pl,ok.ow,ok.di,ho,ok.n1,ok.n2,hl⟩,rfl,rfl,⟨hR.ow,hR.di,hnx,hR.pg,hR.lo⟩,by simp only[Jn]⟩)
structure GwA where
 r:GrM
 k:Nat
 G:GyP
theorem walk_no {g:PlG} (h1:G.pg=none) (h2:G.q≠ []∨nextB G.di 0 true=none):walkG g G=none:=by
 unfold walkG openG;rw[h1];dsimp only
 cases hq:G.q with
 |cons s q=>rfl
 |nil=>
  rcases h2 with h|h
  ·exact absurd hq h
  ·rw[h];rfl
set_option maxHeartbeats 4000000 in
theorem grWalk_K (hG:jw w0) (ok:GrOk r p) (hR:GrR r p.g G) (hok:JR p.g r.ring.length G):
  Call Tryz.prog w0 262 [.pointer (some ⟨r.b,0,none⟩)] (JA r p++(planH p++F))
   (fun v H'=>(walkG p.g G=none∧v= .tuple [.int .i64 0, .bool false, .bool false].toArray∧H'=JA r p++(planH p++F))∨ ∃ o G' r',walkG p.g G=some (o,G')∧v= .tuple [.int .i64 (nxI o), .bool o.isSome, .bool true].toArray∧GrOk r' p∧r'.b=r.b∧r'.ring.length=r.ring.length∧GrR r' p.g G'∧H'=JA r' p++(planH p++F)):=by
 have okp:=ok.pl
 have ho:=ok.o
 have hl:=ok.l
 have k1:=ok.ow
 have k2:=ok.di
 have hqn:=hR.q.n
 have hsl:=okp.g.slots
 refine Call.enter1 (n:=85) (by kernel_rfl) Tryz.func262 rfl rfl rfl ?_;refine yq11 fun T hT=>?_;refine za5 ?_;refine zc ?_;clear hT T;simp only[Jn];refine yr5 ?_;refine K.cutT (σ:=GwA) [(0,_)] jg (fun s kp_=>kp_) (fun s=>JA s.r p++(planH p++F)) (fun s=>GrOk s.r p∧GrR s.r p.g s.G∧JR p.g r.ring.length s.G∧s.G.pg=some s.k∧openG G=some (s.k,s.G)∧s.r.b=r.b∧s.r.ring.length=r.ring.length) ?_ ?_
 ·cases hp:G.pg with
  |some k=>
   have hpg:=hR.pg
   rw[hp] at hpg
   obtain⟨a1,a2⟩:=hpg
   have hlt:=(hok.pg k hp).2
   have hne: ¬((r.at_:Nat):Int)=(r.end_:Nat):=by omega
   refine yr1 ?_;refine zbI ?_;refine zu ?_;refine KD.v0 rfl rfl (Val.fieldAddr0 (k:=6) rfl rfl) ?_;refine zo ?_;refine zu ?_;refine zdo ?_;refine zo ?_;refine za4 ?_;refine zp ?_;refine yr3 ?_;exact KE.meet ⟨r,k,G⟩ jg (by first|exact ja|(simp only[Jn];exact ja)) ⟨ok,hR,hok,hp,by unfold openG;rw [hp],rfl,rfl⟩
  |none=>
   have hpg:=hR.pg
   rw[hp] at hpg;dsimp only at hpg
   have hne:((r.at_:Nat):Int)=(r.end_:Nat):=by omega
   refine yr1 ?_;refine zbI ?_;refine zu ?_;refine KD.v0 rfl rfl (Val.fieldAddr0 (k:=6) rfl rfl) ?_;refine zo ?_;refine zu ?_;refine zdo ?_;refine zo ?_;refine zaC ?_;refine zp ?_;refine yq9 fun T hT=>?_;refine(CallV.part (CallV.fn (jc6 (k:=0) (v:=true) k2 hG (by omega))) ja).mono ?_;refine zq ?_;rw[hR.di];refine za ?_;clear hT T
   cases hq:G.q with
   |cons s q=>
    rw[hq] at hqn
    simp at hqn
    have hm:((r.many:Nat):Int)>0:=by omega
    refine yr32 ?_;exact KE.fin jd rfl jc (by first|exact ja|(simp only[Jn];exact ja)) (.inl ⟨walk_no hp (.inl (by rw[hq];simp)),rfl,rfl⟩)
   |nil=>
    rw[hq] at hqn
    simp at hqn
    have hm: ¬((r.many:Nat):Int)>0:=by omega
    cases hn:nextB G.di 0 true with
    |none=>
     unfold nxI;dsimp only[Option.isSome,Option.getD];refine yr34 ?_;exact KE.fin jd rfl jc (by first|exact ja|(simp only[Jn];exact ja)) (.inl ⟨walk_no hp (.inr hn),rfl,rfl⟩)
    |some j=>
     obtain⟨n1,n2,n3,n4⟩:=jaZ hn
     have hj:j<p.g.pages:=by rw[←hok.di];exact n1
     have hj2:j<r.di.bs.length:=by rw[ok.n2];exact hj
     obtain⟨b1,b2,b3⟩:=jb3 okp.g hj
     have e1:((p.g.fp j:Nat):Int)+((p.g.mp j:Nat):Int)=((p.g.fp j+p.g.mp j:Nat):Int):=by omega
     have hop:openG G=some (j,{G with di:=G.di.set j false,pg:=some j,at_:=0}):=by unfold openG;rw [hp,hq];dsimp only;rw [hn]
     have hok1:=(jdf okp.g hok hop).1
     unfold nxI;dsimp only[Option.isSome,Option.getD];refine yq34 fun T hT=>?_;refine(CallV.part (CallV.fn (Set_K (v:=false) k2 hj2)) ja).mono ?_;refine zc ?_;clear hT T;refine yq9 fun T hT=>?_;refine(CallV.part (CallV.fn (In_K okp hj)) ja).mono ?_;refine zc ?_;clear hT T;refine yr23 ?_;rw[e1];exact KE.meet ⟨⟨r.b,r.ow,Jr r.di j false,r.ring,r.o,r.first,r.many,p.g.fp j,p.g.fp j+p.g.mp j⟩,j,{G with di:=G.di.set j false,pg:=some j,at_:=0}⟩ jg (by first|exact ja|(simp only[Jn];exact ja))
      ⟨⟨okp,k1,jcs k2 _ _,ho,ok.n1,by simpa [Jr] using ok.n2,hl⟩,⟨hR.ow,by show r.di.bs.set j false=_;rw [hR.di],by rw[hq];have:=hR.q;rwa[hq] at this,⟨rfl,rfl⟩,by show p.g.fp j+p.g.mp j≤_;omega⟩,hok1,rfl,hop,rfl,rfl⟩
 ·rintro⟨r1,k,G1⟩ ⟨ok1,hR1,hok1,hk1,hop,hb1,hl1⟩;dsimp only at ok1 hR1 hok1 hk1 hop hb1 hl1⊢
  have hpg:=hR1.pg
  rw[hk1] at hpg
  obtain⟨a1,a2⟩:=hpg
  obtain⟨c1,c2⟩:=hok1.pg k hk1
  obtain⟨b1,b2,b3⟩:=jb3 okp.g c1
  have ho1:=ok1.o
  have hs:r1.at_<p.g.slots:=by omega
  have e1:((r1.at_:Nat):Int)+1=((r1.at_+1:Nat):Int):=by omega
  have hsl1:r1.at_<r1.ow.bs.length:=by rw[ok1.n1];exact hs
  obtain⟨wb,hwb⟩:=jn hsl1
  have hwG:(G1.ow[p.g.fp k+G1.at_]?).getD false=wb:=by rw[←hR1.ow,←a1,hwb];rfl
  have hw:walkG p.g G=some (walk1 p.g k G1):=by unfold walkG;rw [hop];rfl
  have hn1:GrOk ⟨r1.b,Jr r1.ow r1.at_ false,r1.di,r1.ring,r1.o,r1.first,r1.many,r1.at_+1,r1.end_⟩ p:=⟨okp,jcs ok1.ow _ _,ok1.di,ho1,by simpa [Jr] using ok1.n1,ok1.n2,ok1.l⟩
  have hn2:GrR ⟨r1.b,Jr r1.ow r1.at_ false,r1.di,r1.ring,r1.o,r1.first,r1.many,r1.at_+1,r1.end_⟩ p.g (walk1 p.g k G1).2:=by
   refine⟨by show r1.ow.bs.set r1.at_ false=_;rw [hR1.ow,a1];rfl,hR1.di,hR1.q,?_,hR1.lo⟩;unfold walk1;dsimp only
   by_cases h:G1.at_+1=p.g.mp k
   ·rw[if_pos h];dsimp only;omega
   ·rw[if_neg h,if_neg h];dsimp only;omega
  rw[←hb1];rw[hw];unfold walk1 at hn2⊢;rw[hwG] at hn2⊢;simp only[Jn];refine yq29 fun T hT=>?_;rw[e1];refine(CallV.part (CallV.fn (pay_K ok1 hs)) ja).mono ?_;refine zq ?_;rw[hwb];dsimp only[Option.getD];refine za ?_;clear hT T
  cases wb with
  |true=>
   refine yr15 ?_;exact KE.fin (H':=JA ⟨r1.b,Jr r1.ow r1.at_ false,r1.di,r1.ring,r1.o,r1.first,r1.many,r1.at_+1,r1.end_⟩ p++(planH p++F)) jd rfl jc (by simp only[Jn];exact ja)
    (.inr ⟨_,_,⟨r1.b,Jr r1.ow r1.at_ false,r1.di,r1.ring,r1.o,r1.first,r1.many,r1.at_+1,r1.end_⟩,rfl,by simp only[if_true,nxI,Option.isSome,Option.getD,a1];rfl,hn1,rfl,hl1,hn2,by simp only[Jn]⟩)
  |false=>
   refine yr13 ?_;exact KE.fin (H':=JA ⟨r1.b,Jr r1.ow r1.at_ false,r1.di,r1.ring,r1.o,r1.first,r1.many,r1.at_+1,r1.end_⟩ p++(planH p++F)) jd rfl jc (by simp only[Jn];exact ja)
    (.inr ⟨_,_,⟨r1.b,Jr r1.ow r1.at_ false,r1.di,r1.ring,r1.o,r1.first,r1.many,r1.at_+1,r1.end_⟩,rfl,by simp only[nxI,Bool.false_eq_true,if_false,Option.isSome,Option.getD];rfl,hn1,rfl,hl1,hn2,by simp only[Jn]⟩)
theorem grOwed_K (ok:GrOk r p):
  Call Tryz.prog w0 292 [.pointer (some ⟨r.b,0,none⟩)] (JA r p++F) (fun v H'=>v= .int .i64 (r.ow.bs.count true:Nat)∧H'=JA r p++F):=by
 have k1:=ok.ow
 refine Call.enter1 (n:=11) (by kernel_rfl) Tryz.func292 rfl rfl rfl ?_;refine yq9 fun T hT=>?_;refine za5 ?_;refine zc ?_;clear hT T;simp only[Jn];refine yq12 fun T hT=>?_;refine(CallV.part (CallV.fn (Count_K k1)) ja).mono ?_;refine zc ?_;clear hT T;refine yr4 ?_;exact zcz
theorem grEmpty_K (hG:jw w0) (ok:GrOk r p) (hR:GrR r p.g G) (hok:JR p.g r.ring.length G):
  Call Tryz.prog w0 255 [.pointer (some ⟨r.b,0,none⟩)] (JA r p++F)
   (fun v H'=>v= .bool (JU G)∧H'=JA r p++F):=by
 have hqn:=hR.q.n
 have ho:=ok.o
 have hpg:=hR.pg
 by_cases hm:r.many=0
 ·have hq:G.q=[]:=by rw[hm] at hqn;exact List.length_eq_zero_iff.1 hqn
  have hm':((r.many:Nat):Int)=0:=by omega
  by_cases he:r.at_=r.end_
  ·have he':((r.at_:Nat):Int)=(r.end_:Nat):=by omega
   have hpn:G.pg=none:=by
    cases hp:G.pg with
    |none=>rfl
    |some k=>
     rw[hp] at hpg;dsimp only at hpg
     have:=(hok.pg k hp).2
     omega
   have hem:JU G=decide (((r.ow.bs.count true:Nat):Int)=0):=by
    unfold JU;rw[hq,hpn,hR.ow];simp only[List.isEmpty_nil,Option.isNone_none,Bool.and_true,Bool.true_and];exact decide_eq_decide.2 (by omega)
   rw[hem];refine zev ?_;refine yr6 ?_;refine zew ?_;refine zV fun T hT=>?_;refine za5 ?_;refine zl ?_;clear hT T;simp only[Jn];refine zA ?_;refine zaN ?_;refine zdp ?_;refine zah ?_;refine zbM ?_;refine zaF ?_;refine zaN ?_;refine KD.y0 rfl rfl rfl rfl (Val.fieldAddr0 (k:=6) rfl rfl) ?_;refine zbb ?_;refine KD.y0 rfl rfl rfl rfl (Val.fieldAddr0 (k:=7) rfl rfl) ?_;refine zah ?_;refine zbM ?_;refine zcw ?_;refine zaF ?_;refine zv fun T hT=>?_;refine(CallV.part (CallV.fn (grOwed_K ok)) (by first|exact ja|(simp only[Jn];exact ja))).mono ?_;refine zl ?_;clear hT T;refine KD.y0 rfl rfl rfl rfl (Val.eql rfl rfl) ?_;refine zcw ?_;refine zaU ?_;refine yr2 ?_;exact zcz
  ·have he': ¬((r.at_:Nat):Int)=(r.end_:Nat):=by omega
   have hem:JU G=false:=by
    cases hp:G.pg with
    |none=>rw [hp] at hpg;exact absurd hpg he
    |some k=>unfold JU;rw [hp];simp
   rw[hem];refine zev ?_;refine yr6 ?_;refine zew ?_;refine zV fun T hT=>?_;refine za5 ?_;refine zl ?_;clear hT T;simp only[Jn];refine zA ?_;refine zaN ?_;refine zdp ?_;refine zah ?_;refine zbM ?_;refine zaF ?_;refine zaN ?_;refine KD.y0 rfl rfl rfl rfl (Val.fieldAddr0 (k:=6) rfl rfl) ?_;refine zbb ?_;refine KD.y0 rfl rfl rfl rfl (Val.fieldAddr0 (k:=7) rfl rfl) ?_;refine zah ?_;refine zes ?_;refine zcw ?_;refine zC ?_;refine zap ?_;refine zbc ?_;refine zc8 ?_;refine zaU ?_;refine yr2 ?_;exact zcz
 ·have hm': ¬((r.many:Nat):Int)=0:=by omega
  have hem:JU G=false:=by
   cases hq:G.q with
   |nil=>rw [hq] at hqn;simp at hqn;omega
   |cons s q=>unfold JU;rw [hq];rfl
  rw[hem];refine zev ?_;refine yr6 ?_;refine zew ?_;refine zV fun T hT=>?_;refine za5 ?_;refine zl ?_;clear hT T;simp only[Jn];refine zA ?_;refine zaN ?_;refine zdp ?_;refine zah ?_;refine zes ?_;refine zC ?_;refine zZ ?_;refine zZ ?_;refine zap ?_;refine zc8 ?_;refine zC ?_;refine zap ?_;refine zbc ?_;refine zc8 ?_;refine zaU ?_;refine yr2 ?_;exact zcz
end
open Go.RowKit
set_option maxRecDepth 10000
theorem jc2 {t:TbM} {i:Nat} {e:jj} (ok:TbOk t) (he:0≤e.st∧e.st<4∧1≤e.gen∧e.gen≤2147483648∧0≤e.slot∧e.slot≤1000000):TbOk ⟨t.b,t.l.set i e,t.gens,t.o⟩:=by
 refine⟨ok.o.set _ _,by simpa using ok.n,ok.g,fun x hx=>?_⟩
 rcases List.mem_or_eq_of_mem_set hx with h|rfl
 ·exact ok.e x h
 ·exact he
section
variable {w0 : World} {F : jb} {t : TbM}
theorem tbturn01_K {i:Nat} {e:jj} (ok:TbOk t) (he:t.l[i]?=some e) (h0:e.st=0):
  Call Tryz.prog w0 109 [.pointer (some ⟨t.b,0,none⟩), .pointer (some (adr (oV t.o t.l.length) (i*enE.sz))), .int .i64 1] (jL t++F) (fun r H'=>r= .tuple #[]∧H'=jL ⟨t.b,t.l.set i ⟨1,e.slot,e.gen⟩,t.gens,t.o⟩++F):=by
 have ho:=ok.o
 have hn:=ok.n
 obtain⟨st,sl,ge⟩:=e
 dsimp only at h0;subst h0
 have c0:=jam he ⟨1,sl,ge⟩ 0
 have c1:=jam he ⟨1,sl,ge⟩ 1
 have c2:=jam he ⟨1,sl,ge⟩ 2
 have c3:=jam he ⟨1,sl,ge⟩ 3
 have p0:1≤j6 0 t.l:=jeG he
 have p1:=jb4 1 t.l
 have p2:=jb4 0 t.l
 simp at c0 c1 c2 c3
 have e0:((j6 0 t.l:Nat):Int)-1=((j6 0 (t.l.set i ⟨1,sl,ge⟩):Nat):Int):=by omega
 have e1:((j6 1 t.l:Nat):Int)+1=((j6 1 (t.l.set i ⟨1,sl,ge⟩):Nat):Int):=by omega
 refine zdq ?_;simp only[Jf];refine yr1 ?_;refine zbW ?_;refine zg ?_;refine zaJ ?_;refine zax ?_;dsimp only;refine zP ?_;refine zo ?_;refine zbH ?_;refine zax ?_;refine zP ?_;refine zU ?_;refine yr2 ?_;refine zbL ?_;refine zg ?_;refine zu ?_;refine zbh ?_;refine zP ?_;refine zo ?_;refine zK ?_;refine zax ?_;refine zP ?_;refine zU ?_;refine yr1 ?_;refine zk ?_;refine yr4 ?_;refine KL.eN (Eff.stSl0 (x1:=(⟨1,sl,ge⟩:jj)) rfl rfl rfl rfl jh ho he rfl rfl) ?_;rintro _ _ rfl;refine yr1 ?_;rw[e0,e1];exact KE.finN (H':=jL ⟨t.b,t.l.set i ⟨1,sl,ge⟩,t.gens,t.o⟩++F) jd rfl jc (by simp only[Jf,List.length_set,c2,c3];exact ja) ⟨rfl,rfl⟩
theorem tbturn12_K {i:Nat} {e:jj} (ok:TbOk t) (he:t.l[i]?=some e) (h0:e.st=1):
  Call Tryz.prog w0 109 [.pointer (some ⟨t.b,0,none⟩), .pointer (some (adr (oV t.o t.l.length) (i*enE.sz))), .int .i64 2] (jL t++F) (fun r H'=>r= .tuple #[]∧H'=jL ⟨t.b,t.l.set i ⟨2,e.slot,e.gen⟩,t.gens,t.o⟩++F):=by
 have ho:=ok.o
 have hn:=ok.n
 obtain⟨st,sl,ge⟩:=e
 dsimp only at h0;subst h0
 have c0:=jam he ⟨2,sl,ge⟩ 0
 have c1:=jam he ⟨2,sl,ge⟩ 1
 have c2:=jam he ⟨2,sl,ge⟩ 2
 have c3:=jam he ⟨2,sl,ge⟩ 3
 have p0:1≤j6 1 t.l:=jeG he
 have p1:=jb4 1 t.l
 have p2:=jb4 2 t.l
 simp at c0 c1 c2 c3
 have e0:((j6 1 t.l:Nat):Int)-1=((j6 1 (t.l.set i ⟨2,sl,ge⟩):Nat):Int):=by omega
 have e1:((j6 2 t.l:Nat):Int)+1=((j6 2 (t.l.set i ⟨2,sl,ge⟩):Nat):Int):=by omega
 refine zdq ?_;simp only[Jf];refine yr1 ?_;refine zbW ?_;refine zg ?_;refine zaJ ?_;refine zax ?_;dsimp only;refine zP ?_;refine zo ?_;refine zbH ?_;refine zax ?_;refine zP ?_;refine zU ?_;refine yr2 ?_;refine zbL ?_;refine zg ?_;refine zu ?_;refine zbh ?_;refine zP ?_;refine zo ?_;refine zK ?_;refine zax ?_;refine zP ?_;refine zU ?_;refine yr1 ?_;refine zk ?_;refine yr4 ?_;refine KL.eN (Eff.stSl0 (x1:=(⟨2,sl,ge⟩:jj)) rfl rfl rfl rfl jh ho he rfl rfl) ?_;rintro _ _ rfl;refine yr1 ?_;rw[e0,e1];exact KE.finN (H':=jL ⟨t.b,t.l.set i ⟨2,sl,ge⟩,t.gens,t.o⟩++F) jd rfl jc (by simp only[Jf,List.length_set,c0,c3];exact ja) ⟨rfl,rfl⟩
theorem tbin_K {H:jb} {b:Nat} {st:Int}:
  Call Tryz.prog w0 108 [.pointer (some ⟨b,0,none⟩), .int .i64 st] H (fun u H'=> ∃ b1 b2,u= .func (.func 183) #[] [.pointer (some ⟨b1,0,none⟩), .pointer (some ⟨b2,0,none⟩)].toArray∧H'=(b1,cells [.pointer (some ⟨b,0,none⟩)] 75)::(b2,cells [.int .i64 st] 3)::H):=by
 refine Call.enter2 (n:=6) (by kernel_rfl) Tryz.func108 rfl rfl rfl ?_;refine yr2 ?_;refine zH ?_;intro b2 b3;refine yr10 ?_;exact KE.fin (H':=(b2,cells [.pointer (some ⟨b,0,none⟩)] 75)::(b3,cells [.int .i64 st] 3)::H) jd rfl jc ja ⟨b2,b3,rfl,rfl⟩
structure TbI where
 i:Nat
theorem tbin1_K {A0:jb} {st:Int} {q1 q2:Nat} {yv:Value} (ok:TbOk t) (E:jb→Prop)
  (hy: ∀ (i:Nat) (e:jj),t.l[i]?=some e→e.st=st→(∀ (j:Nat) (e:jj),j<i→t.l[j]?=some e→e.st≠st)→CallV Tryz.prog w0 yv [.int .i64 (i:Nat), .pointer (some (adr (oV t.o t.l.length) (i*enE.sz)))] (A0++((q1,cells [.pointer (some ⟨t.b,0,none⟩)] 75)::(q2,cells [.int .i64 st] 3)::(jL t++F))) (fun u H'=>u= .bool false∧E H')):
  Call Tryz.prog w0 183 [yv, .pointer (some ⟨q1,0,none⟩), .pointer (some ⟨q2,0,none⟩)] (A0++((q1,cells [.pointer (some ⟨t.b,0,none⟩)] 75)::(q2,cells [.int .i64 st] 3)::(jL t++F)))
   (fun _ H'=>((∀ (j:Nat) (e:jj),t.l[j]?=some e→e.st≠st)∧H'=A0++((q1,cells [.pointer (some ⟨t.b,0,none⟩)] 75)::(q2,cells [.int .i64 st] 3)::(jL t++F)))∨E H'):=by
 have ho:=ok.o
 have hn:=ok.n
 refine Call.enter3 (n:=34) (by kernel_rfl) Tryz.func183 rfl rfl rfl ?_;simp only[Jf];refine yr11 ?_;refine K.loopT (σ:=TbI) [(0,_),(1,_),(2,_),(10,_)] (fun s kp_=>(11, .int .i64 (s.i:Nat))::kp_) (fun s=>A0++((q1,cells [.pointer (some ⟨t.b,0,none⟩)] 75)::(q2,cells [.int .i64 st] 3)::(jL t++F))) (fun s=>s.i≤t.l.length∧ ∀ (j:Nat) (e:jj),j<s.i→t.l[j]?=some e→e.st≠st) (fun s=>t.l.length-s.i) (⟨0⟩) jg (by first|exact ja|(simp only[Jf];exact ja)) (⟨Nat.zero_le _,fun j e h=>absurd h (Nat.not_lt_zero _)⟩) ?_;rintro⟨i⟩ ⟨hi,hno⟩;dsimp only at hi hno⊢;simp only[Jf]
 by_cases hlt:i<t.l.length
 ·obtain⟨e,he⟩:=jn hlt
  by_cases hst:e.st=st
  ·refine yr29 ?_;refine zdr ?_;refine zaJ ?_;refine zo ?_;refine zaC ?_;refine zA ?_;refine zaF ?_;refine zv fun T hT=>?_;refine(CallV.part (hy i e he hst hno) (by first|exact ja|(simp only[Jf];exact ja))).mono ?_;rintro _ H' ⟨rfl,hE⟩;refine zh ?_;clear hT T;refine zds ?_;refine zaE ?_;refine yr7 ?_;exact KE.fin jd rfl jc ja (.inr hE)
  ·refine yr29 ?_;refine zdr ?_;refine zaJ ?_;refine zo ?_;refine za4 ?_;refine zg ?_;refine zba ?_;refine zbc ?_;refine zI ?_;refine yr9 ?_
   exact KE.again ⟨i+1⟩ jg (by first|exact ja|(simp only[Jf];exact ja)) ⟨hlt,fun j e' (hj:j<i+1) he'=>by
    rcases Nat.lt_or_ge j i with h|h
    ·exact hno j e' h he'
    ·have:j=i:=by omega
     subst this
     rw[he] at he';cases he';exact hst⟩ (by show t.l.length-(i+1)<t.l.length-i;omega)
 ·refine yr11 ?_;exact KE.finN jd rfl jc (by first|exact ja|(simp only[Jf];exact ja)) (.inl ⟨fun j e he=>hno j e (by have:=jl he;omega) he,rfl⟩)
end
set_option maxRecDepth 10000
section
variable {w0 : World} {F : jb} {t : TbM}
theorem tbSlot_K {i:Nat} (ok:TbOk t):Call Tryz.prog w0 37 [.pointer (some ⟨t.b,0,none⟩), .int .i64 (i:Nat)] (jL t++F)
  (fun r H'=>r= .tuple [.int .i64 ((slotT t.l (i:Nat)).getD 0), .bool (slotT t.l (i:Nat)).isSome].toArray∧H'=jL t++F):=by
 have ho:=ok.o
 have hn:=ok.n
 unfold slotT;rw[if_pos (by omega),Int.toNat_natCast]
 by_cases hlt:i<t.l.length
 ·obtain⟨e,he⟩:=jn hlt
  have hge: ¬((i:Nat):Int)≥(t.l.length:Nat):=by omega
  rw[he];dsimp only
  obtain⟨st,sl,ge⟩:=e
  dsimp only
  by_cases h1:st=1
  ·subst h1;simp only[if_true,Option.getD,Option.isSome];refine zex ?_;refine yq10 fun T hT=>?_;refine zca ?_;refine zc ?_;clear hT T;simp only[Jf];refine yr62 ?_;exact zbk
  ·simp only[if_neg h1,Option.getD,Option.isSome];refine zex ?_;refine yq10 fun T hT=>?_;refine zca ?_;refine zc ?_;clear hT T;simp only[Jf];refine yr53 ?_;exact zbk
 ·have hge:((i:Nat):Int)≥(t.l.length:Nat):=by omega
  rw[List.getElem?_eq_none (by omega)];simp only[Option.getD,Option.isSome];refine zex ?_;refine yq10 fun T hT=>?_;refine zca ?_;refine zc ?_;clear hT T;simp only[Jf];refine yr44 ?_;exact zbk
theorem jgU {i:Nat} {e:jj} (ok:TbOk t) (he:t.l[i]?=some e) (h1:e.st=1):Call Tryz.prog w0 228 [.pointer (some ⟨t.b,0,none⟩), .int .i64 (i:Nat), .int .u32 e.gen] (jL t++F)
  (fun r H'=>r= .pointer (some (adr (oV t.o t.l.length) (i*enE.sz)))∧H'=jL t++F):=by
 have ho:=ok.o
 have hlt:=jl he
 have hge: ¬((i:Nat):Int)≥(t.l.length:Nat):=by omega
 have hst: ¬e.st≠1:=fun h=>h h1
 have hgn: ¬e.gen≠e.gen:=fun h=>h rfl
 refine Call.enter3 (n:=47) (by kernel_rfl) Tryz.func228 rfl rfl rfl ?_;simp only[Jf];refine yr85 ?_;exact zbk
theorem tbLook_K {i:Nat} {e:jj} (ok:TbOk t) (he:t.l[i]?=some e) (h1:e.st=1):Call Tryz.prog w0 227 [.pointer (some ⟨t.b,0,none⟩), .int .i64 (i:Nat), .int .u32 e.gen] (jL t++F)
  (fun r H'=>r= .tuple [.int .i64 e.slot, .int .i64 0].toArray∧H'=jL t++F):=by
 have ho:=ok.o
 have hlt:=jl he
 refine Call.enter3 (n:=21) (by kernel_rfl) Tryz.func227 rfl rfl rfl ?_;refine yq10 fun T hT=>?_;refine zca ?_;refine zc ?_;clear hT T;refine yq10 fun T hT=>?_;refine(CallV.part (CallV.fn (jgU ok he h1)) ja).mono ?_;refine zc ?_;clear hT T;simp only[Jf];refine yr24 ?_;exact zbk
theorem tbDrop_K {i:Nat} {e:jj} (ok:TbOk t) (he:t.l[i]?=some e) (h1:e.st=1):Call Tryz.prog w0 157 [.pointer (some ⟨t.b,0,none⟩), .int .i64 (i:Nat), .int .u32 e.gen] (jL t++F)
  (fun r H'=>r= .tuple [.int .i64 e.slot, .int .i64 0].toArray∧H'=jL ⟨t.b,t.l.set i ⟨2,e.slot,e.gen⟩,t.gens,t.o⟩++F):=by
 refine Call.enter3 (n:=27) (by kernel_rfl) Tryz.func157 rfl rfl rfl ?_;refine yq11 fun T hT=>?_;refine(CallV.part (CallV.fn (tbLook_K ok he h1)) ja).mono ?_;refine zc ?_;clear hT T;refine yq20 fun T hT=>?_;refine(CallV.part (CallV.fn (jgU ok he h1)) ja).mono ?_;refine zc ?_;clear hT T;refine zz fun T hT=>?_;refine(CallV.part (CallV.fn (tbturn12_K ok he h1)) ja).mono ?_;refine zc ?_;clear hT T;refine yr11 ?_;exact zbk
set_option maxHeartbeats 1000000 in
theorem tbMint_K {s:Nat} (ok:TbOk t) (hs:s≤1000000):Call Tryz.prog w0 53 [.pointer (some ⟨t.b,0,none⟩), .int .i64 (s:Nat)] (jL t++F)
  (fun r H'=> ∃ t':TbM,TbOk t'∧t'.b=t.b∧t'.gens=t.gens∧t'.l=jZ t.l (s:Nat)∧r= .tuple [.int .i64 (mintV t.l).1, .int .u32 (mintV t.l).2.1, .int .i64 (mintV t.l).2.2].toArray∧H'=jL t'++F):=by
 have ho:=ok.o
 have hn:=ok.n
 refine Call.enter2 (n:=31) (by kernel_rfl) Tryz.func53 rfl rfl rfl ?_;refine yr2 ?_;refine zn ?_;intro b2 b3 b4;refine zf ?_;intro b5;refine zf ?_;intro b6;refine yq7 fun T hT=>?_;refine zca ?_;refine zc ?_;clear hT T;refine yq19 fun T hT=>?_;refine(CallV.fn (tbin_K (b:=t.b) (st:=0))).mono ?_;rintro _ _ ⟨c1,c2,rfl,rfl⟩;refine za ?_;clear hT T;refine yr3 ?_;refine K.rangeFunc (lb:=[.pointer (some ⟨c1,0,none⟩), .pointer (some ⟨c2,0,none⟩)]) rfl
  (fun D G=>G=(D, .deferred (some []))::(b6,cells [.int .i64 0] 61)::(b5,cells [.int .u32 0] 133)::(b4,cells [.int .i64 0] 3)::(b3,cells [.int .i64 (s:Nat)] 3)::(b2,cells [.pointer (some ⟨t.b,0,none⟩)] 75)::(jL t++F)∧jao t.l=none)
  (fun D c G=>c= .ret∧ ∃ (i:Nat) (e:jj),t.l[i]?=some e∧jao t.l=some i∧G=(D, .deferred (some []))::(b6,cells [.int .i64 0] 61)::(b5,cells [.int .u32 e.gen] 133)::(b4,cells [.int .i64 (i:Nat)] 3)::(b3,cells [.int .i64 (s:Nat)] 3)::(b2,cells [.pointer (some ⟨t.b,0,none⟩)] 75)::(jL ⟨t.b,t.l.set i ⟨1,(s:Nat),e.gen⟩,t.gens,t.o⟩++F)) ?_ ?_ ?_
 ·intro l D rc hyl
  refine(Call.part (tbin1_K (F:=F) (st:=0) (q1:=c1) (q2:=c2) ok
   (fun H'=> ∃ (i:Nat) (e:jj),t.l[i]?=some e∧jao t.l=some i∧H'=(l, .loop (rc .done (some .ret)))::((D, .deferred (some []))::(b6,cells [.int .i64 0] 61)::(b5,cells [.int .u32 e.gen] 133)::(b4,cells [.int .i64 (i:Nat)] 3)::(b3,cells [.int .i64 (s:Nat)] 3)::(b2,cells [.pointer (some ⟨t.b,0,none⟩)] 75)::(c1,cells [.pointer (some ⟨t.b,0,none⟩)] 75)::(c2,cells [.int .i64 0] 3)::(jL ⟨t.b,t.l.set i ⟨1,(s:Nat),e.gen⟩,t.gens,t.o⟩++F)))
   (A0:=(l, .loop (rc .ready none))::(D, .deferred (some []))::(b6,cells [.int .i64 0] 61)::(b5,cells [.int .u32 0] 133)::(b4,cells [.int .i64 0] 3)::(b3,cells [.int .i64 (s:Nat)] 3)::(b2,cells [.pointer (some ⟨t.b,0,none⟩)] 75)::[]) ?_) (by simp only[List.cons_append,List.nil_append];exact ja)).mono ?_
  ·intro i e he h0 hno
   have hF:=freeT_is he h0 hno
   have hb:=ok.e e (List.mem_of_getElem? he)
   have hlt:=jl he
   have ok1:TbOk ⟨t.b,t.l.set i ⟨1,e.slot,e.gen⟩,t.gens,t.o⟩:=jc2 ok (by dsimp only;omega)
   have ho1:=ok1.o
   dsimp only at ho1
   have he1:(t.l.set i (⟨1,e.slot,e.gen⟩:jj))[i]?=some ⟨1,e.slot,e.gen⟩:=List.getElem?_set_self hlt
   have hll:(t.l.set i (⟨1,e.slot,e.gen⟩:jj)).length=t.l.length:=List.length_set
   have hcs: ∀ q:Int,j6 q (t.l.set i ⟨1,(s:Nat),e.gen⟩)=j6 q (t.l.set i (⟨1,e.slot,e.gen⟩:jj)):=fun q=>by
    have:=jam he1 ⟨1,(s:Nat),e.gen⟩ q
    rw[List.set_set] at this;dsimp only at this
    omega
   simp only[List.cons_append,List.nil_append];refine zd6 ?_;refine zk ?_;refine yr2 ?_;refine zk ?_;refine yq8 fun T hT=>?_;refine(CallV.part (CallV.fn (tbturn01_K ok he h0)) ja).mono ?_;refine zc ?_;clear hT T;simp only[Jf];refine yr2 ?_;refine zk ?_;refine yr4 ?_;refine KL.eN (Eff.stSl (j:=1) (x1:=(⟨1,(s:Nat),e.gen⟩:jj)) rfl rfl rfl rfl jh ho1 he1 rfl rfl) ?_;rintro _ _ rfl;refine yr1 ?_
   have he2:(t.l.set i (⟨1,(s:Nat),e.gen⟩:jj))[i]?=some ⟨1,(s:Nat),e.gen⟩:=List.getElem?_set_self hlt
   have ho2:oOk enE (t.l.set i ⟨1,(s:Nat),e.gen⟩) t.o:=ho.set _ _
   rw[List.set_set];refine yr2 ?_;refine K.drawn _ [(0,0),(1,1),(2,1),(3,1),(4,1),(5,2),(6,2),(7,2)] (by kernel_rfl) (by kernel_rfl) (by kernel_rfl) (by kernel_rfl) (by kernel_rfl) (by kernel_rfl) (Part.takeA jP.head (Part.take jH.head (Part.take jH.head (Part.take jH.head (Part.drop (Part.drop (Part.drop Part.all))))))) ?_;refine zg ?_;refine zaw ?_;refine KD.v1 rfl rfl (Val.fieldSl (k:=2) rfl rfl) ?_;refine KD.v1 rfl rfl (Val.loadP rfl rfl (jA.sl (Sli.own jh (by assumption) jG) (by assumption) rfl)) ?_;refine zb0 ?_;refine zW ?_;refine zb0 ?_;refine zW ?_;refine zU ?_;refine yr3 ?_;refine KE.part ((l, .loop (rc .busy none))::((D, .deferred (some []))::(b6,cells [.int .i64 0] 61)::(b5,cells [.int .u32 e.gen] 133)::(b4,cells [.int .i64 (i:Nat)] 3)::(b3,cells [.int .i64 (s:Nat)] 3)::(b2,cells [.pointer (some ⟨t.b,0,none⟩)] 75)::(c1,cells [.pointer (some ⟨t.b,0,none⟩)] 75)::(c2,cells [.int .i64 0] 3)::(jL ⟨t.b,t.l.set i ⟨1,(s:Nat),e.gen⟩,t.gens,t.o⟩++F))) (by simp only[Jf,hcs,List.length_set];exact ja) ?_;exact KE.roundR jH.head ⟨rfl,i,e,he,hF,rfl⟩
  ·rintro _ _ (⟨hno,rfl⟩|⟨i,e,he,hF,rfl⟩)
   ·refine .inl ⟨_,?_,rfl,freeT_no hno⟩;exact zco
   ·exact .inr ⟨.ret,_,ja,rfl,i,e,he,hF,rfl⟩
 ·rintro D G ⟨rfl,hF⟩
  have h1:mintV t.l=(0,0,131):=by unfold mintV;rw [hF]
  have h2:jZ t.l (s:Nat)=t.l:=by unfold jZ;rw [hF]
  refine yr10 ?_;exact KE.fin (H':=jL t++F) jd rfl jc ja ⟨t,ok,rfl,rfl,h2.symm,by rw[h1];rfl,rfl⟩
 ·rintro D c G ⟨rfl,i,e,he,hF,rfl⟩
  have h1:mintV t.l=(((i:Nat):Int),e.gen,0):=by unfold mintV;rw [hF];dsimp only;rw [jeD he]
  have h2:jZ t.l (s:Nat)=t.l.set i ⟨1,(s:Nat),e.gen⟩:=by unfold jZ;rw [hF];dsimp only;rw [jeD he]
  have hb:=ok.e e (List.mem_of_getElem? he)
  refine yr3 ?_;exact KE.fin (H':=jL ⟨t.b,t.l.set i ⟨1,(s:Nat),e.gen⟩,t.gens,t.o⟩++F) jd rfl jc ja ⟨⟨t.b,t.l.set i ⟨1,(s:Nat),e.gen⟩,t.gens,t.o⟩,jc2 ok (by dsimp only;omega),rfl,rfl,h2.symm,by rw[h1];rfl,rfl⟩
end
end Go.Proofs.YtldomapkmopomaaGreatDoor.Sw
