/-The walker and the contracts that the law needs,part 20. -/
import Derived.Test.YtldomapkmopomaaGreatDoorD1
import Derived.ArgAppend
import Derived.ChangeMaps5
import Derived.Deep.Fields
import Derived.Deep.LoopGhost
import Derived.Deep.OwnRows
import Derived.Deep.Quiet
import Derived.Deep.Slices
import Derived.IntWalk
import Derived.Laws.Cells
import Derived.Laws.CopyOwn
import Derived.Laws.Externs
import Derived.Laws.FloatArith
import Derived.Laws.IdiomStrings
import Derived.Laws.NewFold
import Derived.Laws.StructEq
import Derived.Lib.BitFns
import Derived.Lib.Hide
import Derived.Lib.SmallJoins
import Derived.Lib.TrailingZeros
import Derived.Maps.RangeRun
import Derived.OrdersIn
import Derived.ProofKit
import Derived.RangeFuncBound
import Derived.RangeFuncCalls
import Derived.RangeFuncLeaves
import Derived.RangeFuncNested
import Derived.RecoverIn
import Derived.Shelf.Bits.Mul64
import Derived.Shelf.Slices.Turned
import Derived.Shelf.Spec.TrailingZeros
import Derived.Shelf.Strconv.Itoa0
import Derived.SizedLaws
import Derived.Sort.BigQuietIn
import Derived.StillTailTactics
import Derived.Test.YtldomapkmopomaaGreatDoorProg
import Derived.WalkKit
import Derived.Test.YtldomapkmopomaaGreatDoorJ16
import Derived.Test.YtldomapkmopomaaGreatDoorJ17
set_option linter.unusedVariables false set_option linter.unusedSimpArgs false namespace Go.Proofs.YtldomapkmopomaaGreatDoor.Sw
set_option maxHeartbeats 8000000
open Go.Proofs.YtldomapkmopomaaGreatDoor renaming lo → qL, hi → qH
open Go.RowKit
set_option linter.unusedVariables false
set_option linter.unusedSimpArgs false
set_option maxRecDepth 10000
structure GrM where
 b:Nat
 ow:J7
 di:J7
 ring:List Int
 o:Own
 first:Nat
 many:Nat
 at_:Nat
 end_:Nat
def JA (g:GrM) (p:jO):jb:=(g.b,cells [.pointer (some ⟨g.ow.b,0,none⟩), .pointer (some ⟨g.di.b,0,none⟩), .pointer (some ⟨p.b,0,none⟩),oV g.o g.ring.length, .int .i64 (g.first:Nat), .int .i64 (g.many:Nat), .int .i64 (g.at_:Nat), .int .i64 (g.end_:Nat)] 290)::(jz g.ow++(jz g.di++oH iE 3 g.ring g.o))
theorem Jn {g:GrM} {p:jO} {F:jb}:JA g p++F=(g.b,cells [.pointer (some ⟨g.ow.b,0,none⟩), .pointer (some ⟨g.di.b,0,none⟩), .pointer (some ⟨p.b,0,none⟩),oV g.o g.ring.length, .int .i64 (g.first:Nat), .int .i64 (g.many:Nat), .int .i64 (g.at_:Nat), .int .i64 (g.end_:Nat)] 290)::(jz g.ow++(jz g.di++(oH iE 3 g.ring g.o++F))):=by
 unfold JA;simp only[List.cons_append,List.append_assoc]
structure GrOk (g:GrM) (p:jO):Prop where
 pl:J2 p
 ow:RowOk g.ow
 di:RowOk g.di
 o:oOk iE g.ring g.o
 n1:g.ow.bs.length=p.g.slots
 n2:g.di.bs.length=p.g.pages
 l:1≤g.ring.length∧g.ring.length≤64
structure GrNil (g:GrM) (p:jO):Prop where
 ow:g.ow.bs=List.replicate p.g.slots false
 di:g.di.bs=List.replicate p.g.pages false
 first:g.first=0
 many:g.many=0
 at_:g.at_=0
 end_:g.end_=0
section
variable {w0 : World} {F : jb} {p : jO} {g : GrM}
theorem Pages0_K (ok:J2 p):
  Call Tryz.prog w0 203 [.pointer (some ⟨p.b,0,none⟩)] (planH p++F) (fun r H'=>r= .int .i64 (p.g.pages:Nat)∧H'=planH p++F):=by
 refine Call.enter1 (n:=9) (by kernel_rfl) Tryz.func203 rfl rfl rfl ?_;refine yq9 fun T hT=>?_;refine zbD ?_;rintro _ _ ⟨rfl,rfl⟩;refine za ?_;clear hT T;rw[jN];refine yr15 ?_;exact zd
theorem grnone_K (ok:GrOk g p):
  Call Tryz.prog w0 223 [.pointer (some ⟨g.b,0,none⟩)] (JA g p++F) (fun r H'=>r= .bool false∧H'=JA g p++F):=by
 have hl:=ok.l
 have ho:=ok.o
 have hne: ¬((g.ring.length:Nat):Int)=0:=by omega
 refine Call.enter1 (n:=13) (by kernel_rfl) Tryz.func223 rfl rfl rfl ?_;simp only[Jn];refine yr27 ?_;exact zcz
theorem grNew_K {n:Nat} (ok:J2 p) (hn:1≤n∧n≤64):
  Call Tryz.prog w0 128 [.pointer (some ⟨p.b,0,none⟩), .int .i64 (n:Nat)] (planH p++F) (fun r H'=> ∃ g,GrOk g p∧GrNil g p∧g.ring.length=n∧r= .tuple [.pointer (some ⟨g.b,0,none⟩), .int .i64 0].toArray∧H'=JA g p++(planH p++F)):=by
 have hs:=ok.g.slots
 have hp:=ok.g.pages
 have hne: ¬((p.g.slots:Nat):Int)=0:=by omega
 have h1: ¬((n:Nat):Int)<1:=by omega
 have h2: ¬((n:Nat):Int)>64:=by omega
 refine Call.enter2 (n:=41) (by kernel_rfl) Tryz.func128 rfl rfl rfl ?_;refine yq11 fun T hT=>?_;refine(CallV.fn (jco ok)).mono ?_;rintro _ _ ⟨rfl,rfl⟩;refine za ?_;clear hT T;refine yq25 fun T hT=>?_;refine(CallV.fn (jco ok)).mono ?_;rintro _ _ ⟨rfl,rfl⟩;refine za ?_;clear hT T;refine zz fun T hT=>?_;refine(CallV.fn (jdH (n:=p.g.slots) (by omega))).mono ?_;rintro _ _ ⟨r1,kr1,hb1,rfl,rfl⟩;refine za ?_;clear hT T;refine yq10 fun T hT=>?_;refine(CallV.part (CallV.fn (Pages0_K ok)) ja).mono ?_;refine zc ?_;clear hT T;refine zz fun T hT=>?_;refine(CallV.fn (jdH (n:=p.g.pages) (by omega))).mono ?_;rintro _ _ ⟨r2,kr2,hb2,rfl,rfl⟩;refine za ?_;clear hT T;refine yr14 ?_;refine KL.e rfl (Eff.makeR (E:=iE) (x0:=0) rfl rfl rfl rfl rfl rfl (by first|assumption|omega|(simp<;>fail)|(simp;omega))) ?_;rintro _ _ ⟨o38,ok38,rfl,rfl⟩;refine yr1 ?_;refine ze ?_;intro b40;refine yr5 ?_;exact KE.fin (H':=JA ⟨b40,r1,r2,List.replicate n 0,o38,0,0,0,0⟩ p++(planH p++F)) jd rfl jc (by simp only[Jn,List.length_replicate];exact ja) ⟨⟨b40,r1,r2,List.replicate n 0,o38,0,0,0,0⟩,⟨ok,kr1,kr2,ok38,by simp[hb1],by simp[hb2],by simpa using hn⟩,⟨hb1,hb2,rfl,rfl,rfl,rfl⟩,by simp,rfl,rfl⟩
theorem grClear_K (ok:GrOk g p):
  Call Tryz.prog w0 154 [.pointer (some ⟨g.b,0,none⟩)] (JA g p++F) (fun r H'=>r= .tuple #[]∧ ∃ g',GrOk g' p∧GrNil g' p∧g'.b=g.b∧g'.ring.length=g.ring.length∧H'=JA g' p++F):=by
 have k1:=ok.ow
 have k2:=ok.di
 have ho:=ok.o
 refine Call.enter1 (n:=29) (by kernel_rfl) Tryz.func154 rfl rfl rfl ?_;refine yq3 fun T hT=>?_;refine(CallV.fn (grnone_K ok)).mono ?_;rintro _ _ ⟨rfl,rfl⟩;refine za ?_;clear hT T;simp only[Jn];refine yq11 fun T hT=>?_;refine(CallV.part (CallV.fn (Clear_K k1)) ja).mono ?_;rintro _ _ ⟨rfl,r1,kr1,hr1,hb1,rfl⟩;refine za ?_;clear hT T;refine yq9 fun T hT=>?_;refine(CallV.part (CallV.fn (Clear_K k2)) ja).mono ?_;rintro _ _ ⟨rfl,r2,kr2,hr2,hb2,rfl⟩;refine za ?_;clear hT T;refine yr20 ?_;rw[←hr1,←hr2];rw[ok.n1] at hb1;rw[ok.n2] at hb2;exact KE.finN (H':=JA ⟨g.b,r1,r2,g.ring,g.o,0,0,0,0⟩ p++F) jd rfl jc (by simp only[Jn];exact ja) ⟨rfl,⟨g.b,r1,r2,g.ring,g.o,0,0,0,0⟩,⟨ok.pl,kr1,kr2,ho,by simp[hb1],by simp[hb2],ok.l⟩,⟨hb1,hb2,rfl,rfl,rfl,rfl⟩,rfl,rfl,by simp only[Jn]⟩
end
structure PiM where
 b:Nat
 r:J7
 l:List Int
 o:Own
def Jp (q:PiM):jb:=(q.b,cells [.pointer (some ⟨q.r.b,0,none⟩),oV q.o q.l.length] 168)::(jz q.r++oH bE 5 q.l q.o)
theorem jaG {q:PiM} {F:jb}:Jp q++F=(q.b,cells [.pointer (some ⟨q.r.b,0,none⟩),oV q.o q.l.length] 168)::(jz q.r++(oH bE 5 q.l q.o++F)):=by
 unfold Jp;simp only[List.cons_append,List.append_assoc]
structure PiOk (q:PiM):Prop where
 r:RowOk q.r
 o:oOk bE q.l q.o
 n:q.r.bs=q.l.map fun v=>decide (0<v)
 m:q.l.length≤65536
 v: ∀ v∈q.l,0≤v∧v≤255
section
variable {w0 : World} {F : jb} {q : PiM}
theorem pinone_K:Call Tryz.prog w0 81 [.pointer (some ⟨q.b,0,none⟩)] (Jp q++F) (fun r H'=>r= .bool false∧H'=Jp q++F):=by
 refine Call.enter1 (n:=12) (by kernel_rfl) Tryz.func81 rfl rfl rfl ?_;simp only[jaG];refine yr25 ?_;exact zcA
theorem piLen_K (ok:PiOk q):Call Tryz.prog w0 127 [.pointer (some ⟨q.b,0,none⟩)] (Jp q++F) (fun r H'=>r= .int .i64 (q.l.length:Nat)∧H'=Jp q++F):=by
 have ho:=ok.o
 refine Call.enter1 (n:=10) (by kernel_rfl) Tryz.func127 rfl rfl rfl ?_;refine yq9 fun T hT=>?_;refine zb7 ?_;rintro _ _ ⟨rfl,rfl⟩;refine za ?_;clear hT T;simp only[jaG];refine yr16 ?_;exact zcA
theorem CloneB_K {w0:World} {v:Value} {l:List Int} (hS:SlW w0 bE v l) (hl:l.length≤4294967296):
  Call Tryz.prog w0 202 [v] [] (fun r H'=> ∃ o,oOk bE l o∧r=oV o l.length∧H'=oH bE 5 l o):=by
 refine Call.enter1 (n:=8) (by kernel_rfl) Tryz.func202 rfl rfl rfl ?_
 have hS0:=hS
 obtain⟨a,c,rfl,h1,h2,h3⟩:=hS.shape
 cases a with
 |none=>
  have hn:l=[]:=by
   cases l with
   |nil=>rfl
   |cons x r=>obtain⟨b,o,h⟩:=h3 (by simp);cases h
  subst hn;refine yr20 ?_;exact KE.fin jd rfl jc ja ⟨none,rfl,rfl,rfl⟩
 |some a=>
  refine yr17 ?_;refine zt ?_;intro b5;refine yr1 ?_;refine KL.e rfl (Eff.appLit (E:=bE) (ys:=l) rfl rfl rfl rfl rfl rfl rfl jq (by first|exact Sli.blk jq rfl (by first|decide|simp) (by first|decide|(unfold maxLen;omega)) rfl|exact Sli.old (by assumption)|exact Sli.own jh (by assumption) jG|assumption|exact Sli.part (by assumption) ja) (by first|assumption|omega|(simp<;>fail)|(simp;omega)) rfl) ?_;rintro _ _ ⟨o',ok',rfl,rfl⟩;refine yr4 ?_;exact KE.fin jd rfl jc ja ⟨o',ok',rfl,rfl⟩
theorem piCopy_K (ok:PiOk q):Call Tryz.prog w0 126 [.pointer (some ⟨q.b,0,none⟩)] (Jp q++F) (fun r H'=> ∃ q',PiOk q'∧q'.l=q.l∧r= .pointer (some ⟨q'.b,0,none⟩)∧H'=Jp q'++(Jp q++F)):=by
 have ho:=ok.o
 have okr:=ok.r
 have hm:=ok.m
 refine Call.enter1 (n:=17) (by kernel_rfl) Tryz.func126 rfl rfl rfl ?_;refine yq9 fun T hT=>?_;refine zb7 ?_;rintro _ _ ⟨rfl,rfl⟩;refine za ?_;clear hT T;simp only[jaG];refine yr6 ?_;refine K.drawn _ [(0,0),(1,0),(2,0),(3,0),(5,1),(6,1),(7,1),(8,1),(4,2),(9,2),(10,0),(11,2),(12,0)] (by kernel_rfl) (by kernel_rfl) (by kernel_rfl) (by kernel_rfl) (by kernel_rfl) (by kernel_rfl) Part.all ?_;refine zau ?_;refine zaw ?_;refine zbZ ?_;refine zx ?_;refine zi fun T hT=>?_;refine(CallV.part (CallV.fn (jew okr)) ja).mono ?_;rintro _ _ ⟨r',kr',hbs,rfl,rfl⟩;refine zh ?_;clear hT T;refine zi fun T hT=>?_;refine(CallV.pure fun w hw=>CallV.fn (CloneB_K (Sli.own jh ho rfl w hw) (by omega))).mono ?_;rintro _ _ ⟨_,⟨o1,ko1,rfl,rfl⟩,rfl⟩;refine zh ?_;clear hT T;refine ze1 ?_;intro b16;refine zaK ?_;refine yr2 ?_;exact KE.fin (H':=Jp ⟨b16,r',q.l,o1⟩++(Jp q++F)) jd rfl jc (by simp only[jaG];exact ja) ⟨⟨b16,r',q.l,o1⟩,⟨kr',ko1,by rw[hbs];exact ok.n,hm,ok.v⟩,rfl,rfl,by simp only[jaG]⟩
end
theorem piNew_K {w0:World} {H:jb} {n:Nat} (hn:n≤65536):Call Tryz.prog w0 60 [.int .i64 (n:Nat)] H (fun r H'=> ∃ q,PiOk q∧q.l=List.replicate n 0∧r= .tuple [.pointer (some ⟨q.b,0,none⟩), .int .i64 0].toArray∧H'=Jp q++H):=by
 have hgt: ¬((n:Nat):Int)>65536:=by omega
 refine Call.enter1 (n:=23) (by kernel_rfl) Tryz.func60 rfl rfl rfl ?_;refine yq25 fun T hT=>?_;refine(CallV.fn (jdH (n:=n) (by omega))).mono ?_;rintro _ _ ⟨r1,kr1,hb1,rfl,rfl⟩;refine za ?_;clear hT T;refine yr11 ?_;refine KL.e rfl (Eff.makeR (E:=bE) (x0:=0) rfl rfl rfl rfl rfl rfl (by first|assumption|omega|(simp<;>fail)|(simp;omega))) ?_;rintro _ _ ⟨o19,ok19,rfl,rfl⟩;refine yr1 ?_;refine ze ?_;intro b21;refine yr6 ?_;refine KE.fin (H':=Jp ⟨b21,r1,List.replicate n 0,o19⟩++H) jd rfl jc (by simp only[jaG,List.length_replicate];exact ja) ⟨⟨b21,r1,List.replicate n 0,o19⟩,⟨kr1,ok19,by rw[hb1];simp,by simpa using hn,fun v hv=>?_⟩,rfl,rfl,rfl⟩;rw[(List.mem_replicate.1 hv).2];decide
open Go.RowKit
set_option maxRecDepth 10000
structure JQ where
 slot:Int
 field:Int
 is:Bool
def Ja:Enc JQ:=⟨fun h=> [.int .i64 h.slot, .int .i64 h.field, .bool h.is],3,fun _=>rfl,by intro x v hv;simp at hv;rcases hv with rfl|rfl|rfl<;>rfl⟩
structure MkM where
 b:Nat
 c:TiM
 g:GrM
 hs:List JQ
 o:Own
 root:Nat
 act:Bool
 steps:Nat
 bb:Nat
 tb:Nat
 nb:Nat
def jk (k:MkM) (p:jO):jb:=(k.b,cells [.pointer (some ⟨k.bb,0,none⟩), .pointer (some ⟨p.b,0,none⟩), .pointer (some ⟨k.tb,0,none⟩), .pointer (some ⟨k.nb,0,none⟩), .pointer (some ⟨k.c.b,0,none⟩), .pointer (some ⟨k.g.b,0,none⟩),oV k.o k.hs.length, .int .i64 (k.root:Nat), .bool k.act, .int .i64 (k.steps:Nat)] 238)::(JP k.c++(JA k.g p++oH Ja 295 k.hs k.o))
theorem ji {k:MkM} {p:jO} {F:jb}:jk k p++F=(k.b,cells [.pointer (some ⟨k.bb,0,none⟩), .pointer (some ⟨p.b,0,none⟩), .pointer (some ⟨k.tb,0,none⟩), .pointer (some ⟨k.nb,0,none⟩), .pointer (some ⟨k.c.b,0,none⟩), .pointer (some ⟨k.g.b,0,none⟩),oV k.o k.hs.length, .int .i64 (k.root:Nat), .bool k.act, .int .i64 (k.steps:Nat)] 238)::(JP k.c++(JA k.g p++(oH Ja 295 k.hs k.o++F))):=by
 unfold jk;simp only[List.cons_append,List.append_assoc]
structure MkOk (k:MkM) (p:jO):Prop where
 c:TiOk k.c
 g:GrOk k.g p
 n:k.c.l.length=p.g.slots
 o:oOk Ja k.hs k.o
 hs:1≤k.hs.length∧k.hs.length≤9
structure MkNil (k:MkM) (p:jO):Prop where
 c:tiC k.c=List.replicate p.g.slots 0
 g:GrNil k.g p
 hs:k.hs=List.replicate k.hs.length ⟨0,0,false⟩
 root:k.root=0
 steps:k.steps=0
structure MkAs (k k':MkM):Prop where
 b:k'.b=k.b
 bb:k'.bb=k.bb
 tb:k'.tb=k.tb
 nb:k'.nb=k.nb
 n:k'.hs.length=k.hs.length
 l:k'.g.ring.length=k.g.ring.length
theorem jcQ {k:MkM} {p:jO} (ok:MkOk k p) {s:Nat} (h:s<p.g.slots): ∃ c,(tiC k.c)[s]?=some c:=jn (by rw[jaB,ok.n];exact h)
section
variable {w0 : World} {F : jb} {k : MkM} {p : jO}
theorem mknone_K:Call Tryz.prog w0 139 [.pointer (some ⟨k.b,0,none⟩)] (jk k p++F) (fun r H'=>r= .bool false∧H'=jk k p++F):=by
 refine Call.enter1 (n:=12) (by kernel_rfl) Tryz.func139 rfl rfl rfl ?_;simp only[ji];refine yr25 ?_;exact zcB
theorem jbF {s:Nat} {c:Int} (ok:MkOk k p) (hc:(tiC k.c)[s]?=some c):Call Tryz.prog w0 69 [.pointer (some ⟨k.b,0,none⟩), .int .i64 (s:Nat)] (jk k p++F) (fun r H'=>r= .tuple [.int .u8 c, .int .i64 0].toArray∧H'=jk k p++F):=by
 have okc:=ok.c
 refine Call.enter2 (n:=16) (by kernel_rfl) Tryz.func69 rfl rfl rfl ?_;refine yq10 fun T hT=>?_;refine zde ?_;rintro _ _ ⟨rfl,rfl⟩;refine za ?_;clear hT T;simp only[ji];refine yq12 fun T hT=>?_;refine(CallV.part (CallV.fn (tiOf_K okc hc)) ja).mono ?_;refine zc ?_;clear hT T;refine yr7 ?_;exact zcB
theorem mkOf_E {s:Int} (ok:MkOk k p) (hs: ¬(0≤s∧s<(p.g.slots:Nat))):Call Tryz.prog w0 69 [.pointer (some ⟨k.b,0,none⟩), .int .i64 s] (jk k p++F) (fun r H'=>r= .tuple [.int .u8 0, .int .i64 2].toArray∧H'=jk k p++F):=by
 have okc:=ok.c
 have hn:=ok.n
 refine Call.enter2 (n:=16) (by kernel_rfl) Tryz.func69 rfl rfl rfl ?_;refine yq10 fun T hT=>?_;refine zde ?_;rintro _ _ ⟨rfl,rfl⟩;refine za ?_;clear hT T;simp only[ji];refine yq12 fun T hT=>?_;refine(CallV.part (CallV.fn (tiOf_E okc (by rw[hn];exact hs))) ja).mono ?_;refine zc ?_;clear hT T;refine yr7 ?_;exact zcB
theorem jcg:Call Tryz.prog w0 206 [.pointer (some ⟨k.b,0,none⟩)] (jk k p++F) (fun r H'=>r= .bool k.act∧H'=jk k p++F):=by
 refine Call.enter1 (n:=12) (by kernel_rfl) Tryz.func206 rfl rfl rfl ?_;refine yq8 fun T hT=>?_;refine zde ?_;rintro _ _ ⟨rfl,rfl⟩;refine za ?_;clear hT T;simp only[ji];refine yr15 ?_;exact zcB
theorem mkturn_K {v:Bool} (hv:k.act=!v):Call Tryz.prog w0 150 [.pointer (some ⟨k.b,0,none⟩), .bool v] (jk k p++F) (fun r H'=>r= .int .i64 0∧H'=jk {k with act:=v} p++F):=by
 have hb:(k.act==v)=false:=by rw[hv];cases v<;>rfl
 refine Call.enter2 (n:=19) (by kernel_rfl) Tryz.func150 rfl rfl rfl ?_;refine yq10 fun T hT=>?_;refine zde ?_;rintro _ _ ⟨rfl,rfl⟩;refine za ?_;clear hT T;simp only[ji];refine yr15 ?_;rw[hb];refine yr19 ?_;exact zcB
theorem mkStart_K (ok:MkOk k p) (hv:k.act=false) (hf:k.c.f≤1000000):Call Tryz.prog w0 76 [.pointer (some ⟨k.b,0,none⟩)] (jk k p++F)
  (fun r H'=>r= .int .i64 0∧ ∃ k',MkOk k' p∧MkNil k' p∧MkAs k k'∧k'.act=true∧k'.c.f=k.c.f+1∧H'=jk k' p++F):=by
 have okc:=ok.c
 have okg:=ok.g
 have oko:=ok.o
 refine Call.enter1 (n:=29) (by kernel_rfl) Tryz.func76 rfl rfl rfl ?_;refine yq8 fun T hT=>?_;refine(CallV.fn (mkturn_K (p:=p) hv)).mono ?_;rintro _ _ ⟨rfl,rfl⟩;refine za ?_;clear hT T;simp only[ji];refine yq17 fun T hT=>?_;refine(CallV.part (CallV.fn (tiFlip_K okc hf)) ja).mono ?_;rintro _ _ ⟨rfl,c',kc,cb,cf,cc,rfl⟩;refine za ?_;clear hT T;refine yq8 fun T hT=>?_;refine(CallV.part (CallV.fn (grClear_K okg)) ja).mono ?_;rintro _ _ ⟨rfl,g',kg,gn,gb,gl,rfl⟩;refine za ?_;clear hT T;refine yr8 ?_;refine KL.eN (Eff.clearS (x0:=(⟨0,0,false⟩:JQ)) (i:=0) rfl (clr_all (by assumption)) rfl rfl (Nat.zero_le _) (Nat.le_refl _) jh (by assumption)) ?_;rintro _ _ ⟨rfl,okc,rfl⟩;refine yr1 ?_;rw[jgp] at okc⊢;refine yr19 ?_;rw[←cb,←gb]
 have hcn:c'.l.length=p.g.slots:=by have:=congrArg List.length cc;rw [jaB,List.length_replicate,ok.n] at this;exact this
 have hcc:=cc
 rw[ok.n] at hcc;exact KE.fin (H':=jk ⟨k.b,c',g',List.replicate k.hs.length ⟨0,0,false⟩,k.o,0,true,0,k.bb,k.tb,k.nb⟩ p++F) jd rfl jc (by simp only[ji,List.length_replicate];exact ja) ⟨rfl,⟨k.b,c',g',List.replicate k.hs.length ⟨0,0,false⟩,k.o,0,true,0,k.bb,k.tb,k.nb⟩,⟨kc,kg,hcn,okc,by simpa using ok.hs⟩,⟨hcc,gn,by simp,rfl,rfl⟩,⟨rfl,rfl,rfl,rfl,by simp,gl⟩,rfl,cf,by simp only[ji]⟩
end
open Go.RowKit
set_option maxRecDepth 10000
namespace PlG
def fp (g:PlG) (k:Nat):Nat:=((g.firsts[k]?).getD 0).toNat
def mp (g:PlG) (k:Nat):Nat:=((g.manys[k]?).getD 0).toNat
def pgOf (g:PlG) (s:Nat):Nat:=((g.L[s]?).map (·.page)).getD 0
end PlG
section
variable {g : PlG}
theorem jeW:g.firsts.length=g.pages:=by simp[PlG.firsts,jbb];rfl
theorem jha:g.manys.length=g.pages:=by simp[PlG.manys,jbb];rfl
theorem fp_get {k:Nat} (hk:k<g.pages):g.firsts[k]?=some ((g.fp k:Nat):Int):=by
 have hl:k<g.firsts.length:=by rw[jeW];exact hk
 unfold PlG.fp;rw[List.getElem?_eq_getElem hl]
 have:g.firsts[k]∈g.firsts:=List.getElem_mem hl
 simp only[PlG.firsts,List.mem_map] at this
 obtain⟨n,_,hn⟩:=this
 simp only[PlG.firsts] at hn⊢;simp only[Option.getD_some,←hn,Int.toNat_natCast]
theorem mp_get {k:Nat} (hk:k<g.pages):g.manys[k]?=some ((g.mp k:Nat):Int):=by
 have hl:k<g.manys.length:=by rw[jha];exact hk
 unfold PlG.mp;rw[List.getElem?_eq_getElem hl]
 have:g.manys[k]∈g.manys:=List.getElem_mem hl
 simp only[PlG.manys,List.mem_map] at this
 obtain⟨n,_,hn⟩:=this
 simp only[PlG.manys] at hn⊢;simp only[Option.getD_some,←hn,Int.toNat_natCast]
theorem fp_at {k j:Nat} (hk:k<g.m) (hj:j<g.pgs k):g.fp (g.page k+j)=g.first k+j*g.per k:=by
 unfold PlG.fp PlG.firsts;rw[List.getElem?_map]
 have:=jdx (n:=g.pgs) (f:=fun k j=>g.first k+j*g.per k) hk hj
 unfold PlG.page;rw[this];simp only[Option.map_some,Option.getD_some];omega
theorem mp_at {k j:Nat} (hk:k<g.m) (hj:j<g.pgs k):g.mp (g.page k+j)=min (g.per k) (g.n k-j*g.per k):=by
 unfold PlG.mp PlG.manys;rw[List.getElem?_map]
 have:=jdx (n:=g.pgs) (f:=fun k j=>min (g.per k) (g.n k-j*g.per k)) hk hj
 unfold PlG.page;rw[this];simp only[Option.map_some,Option.getD_some];omega
theorem jf2 (ok:je g) {k j:Nat} (hk:k<g.m):j<g.pgs k↔j*g.per k<g.n k:=by
 have h1:=ok.n hk
 have h2:=ok.per hk
 unfold PlG.pgs;rw[Nat.lt_iff_add_one_le,Nat.le_div_iff_mul_le (by omega),Nat.succ_mul]
 omega
theorem jcv (ok:je g) {s:Nat} {y:ju} (h:g.L[s]?=some y):y.page<g.pages∧g.fp y.page≤s∧s<g.fp y.page+g.mp y.page:=by
 obtain⟨k,d,hk,hd,rfl,rfl⟩:=L_at h
 have h1:=ok.pg_lt hk hd
 have h2:=ok.inpg hk hd
 have h3:=ok.per hk
 refine⟨h1,?_⟩;simp only[PlG.sl];rw[fp_at hk h2,mp_at hk h2]
 have h4:=Nat.div_mul_le_self d (g.per k)
 have h5:d<(d/g.per k+1)*g.per k:=by
  have:=Nat.lt_succ_self (d/g.per k)
  exact(Nat.div_lt_iff_lt_mul (by omega)).1 this
 rw[Nat.succ_mul] at h5
 omega
theorem jb3 (ok:je g) {k:Nat} (hk:k<g.pages):1≤g.mp k∧g.mp k≤32∧g.fp k+g.mp k≤g.slots:=by
 obtain⟨c,j,hc,hj,rfl⟩:=jep (n:=g.pgs) hk
 have hm:=mp_at hc hj
 have hf:=fp_at hc hj
 have hper:=ok.per hc
 have h1:=(jf2 ok hc).1 hj
 have h2:=ja7 (n:=g.n) hc
 unfold PlG.page at hm hf;rw[hm,hf];unfold PlG.slots;unfold PlG.first at*
 omega
theorem jcT {s:Nat} {y:ju} (h:g.L[s]?=some y):g.pgOf s=y.page:=by unfold PlG.pgOf;rw [h];rfl
end
structure GyP where
 q:List Nat
 ow:List Bool
 di:List Bool
 pg:Option Nat
 at_:Nat
def JC (g:PlG) (long:Nat) (G:GyP) (s:Nat):GyP:=
 if G.q.length<long then{G with q:=G.q++ [s]} else{G with ow:=G.ow.set s true,di:=G.di.set (g.pgOf s) true}
def openG (G:GyP):Option (Nat × GyP):=match G.pg with
 |some k=>some (k,G)
 |none=>match G.q with
  | []=>match nextB G.di 0 true with
   |some k=>some (k,{G with di:=G.di.set k false,pg:=some k,at_:=0})
   |none=>none
  |_::_=>none
def walk1 (g:PlG) (k:Nat) (G:GyP):Option Nat × GyP:=
  (if (G.ow[g.fp k+G.at_]?).getD false then some (g.fp k+G.at_) else none,
   {G with ow:=G.ow.set (g.fp k+G.at_) false,pg:=if G.at_+1=g.mp k then none else some k,at_:=if G.at_+1=g.mp k then 0 else G.at_+1})
def walkG (g:PlG) (G:GyP):Option (Option Nat × GyP):=(openG G).map fun x=>walk1 g x.1 x.2
def JU (G:GyP):Bool:=G.q.isEmpty&&(decide (G.ow.count true=0)&&G.pg.isNone)
structure JR (g:PlG) (long:Nat) (G:GyP):Prop where
 q: ∀ s∈G.q,s<g.slots
 ql:G.q.length≤long
 ow:G.ow.length=g.slots
 di:G.di.length=g.pages
 pg: ∀ k,G.pg=some k→k<g.pages∧G.at_<g.mp k
 no:G.pg=none→G.at_=0
 /--what is owed lies in a dirty page,or ahead in the page that is walked through-/
 od: ∀ s:Nat,G.ow[s]?=some true→G.di[g.pgOf s]?=some true∨ ∃ k,G.pg=some k∧g.pgOf s=k∧g.fp k+G.at_≤s
structure MaP where
 C:List Int
 G:GyP
 hs:List JQ
 root:Nat
 act:Bool
 steps:Nat
structure MwP where
 x:List Int
 T:List jj
 N:List Int
def jC (g:PlG) (s:Int):ju:=(g.L[s.toNat]?).getD ⟨0,0,0,0⟩
def Jh (g:PlG) (long:Nat) (m:MaP) (s:Int):MaP:=if 0≤s∧m.C[s.toNat]?=some 0 then{m with C:=m.C.set s.toNat 1,G:=JC g long m.G s.toNat} else m
def jaF (g:PlG) (long:Nat) (m:MaP) (s:Int):MaP:=if m.act then Jh g long m s else m
def jF (g:PlG) (W:MwP) (r:Nat):Option Int:=match W.T[r]? with
 |some e=>if e.st=1 then some e.slot else none
 |none=>if (W.N[r-W.T.length]?).getD 0>0 then some ((r-W.T.length:Nat):Int) else none
def j4 (g:PlG) (long:Nat) (m:MaP) (o:Option Int):MaP:=match o with
 |some s=>Jh g long m s
 |none=>m
def rootM (g:PlG) (long:Nat) (W:MwP) (m:MaP):Option MaP:=
 if m.root<W.T.length+g.slots then some (j4 g long {m with root:=m.root+1} (jF g W m.root)) else none
def jS:JQ:=⟨0,0,false⟩
def JH (m:MaP) (k:Nat):JQ:=(m.hs[k]?).getD jS
def takeM (m:MaP) (k:Nat):Option MaP:=if (JH m k).is then none else match m.G.q with
 | []=>none
 |s::q=>some {m with G:={m.G with q:=q},hs:=m.hs.set k ⟨(s:Nat),0,true⟩}
def refO (g:PlG) (x:List Int) (s i:Int):Option Int:=if (refP x g.slots (jC g s) i).2=0∧0≤(refP x g.slots (jC g s) i).1 then some (refP x g.slots (jC g s) i).1 else none
def refsN (x:List Int) (y:ju):Int:=match headP x y with
 |some h=>h.r
 |none=>0
def scanM (g:PlG) (long:Nat) (W:MwP) (m:MaP) (k:Nat):Option MaP:=
 if (JH m k).is then
  (if (JH m k).field+1<refsN W.x (jC g (JH m k).slot) then
   some {j4 g long m (refO g W.x (JH m k).slot (JH m k).field) with hs:=m.hs.set k ⟨(JH m k).slot,(JH m k).field+1,true⟩}
  else some {j4 g long m (refO g W.x (JH m k).slot (JH m k).field) with hs:=m.hs.set k jS,C:=(j4 g long m (refO g W.x (JH m k).slot (JH m k).field)).C.set (JH m k).slot.toNat 2})
 else none
def walkM (g:PlG) (m:MaP) (k:Nat):Option MaP:=if (JH m k).is then none else match walkG g m.G with
 |none=>none
 |some (none,G)=>some {m with G:=G}
 |some (some s,G)=>some {m with G:=G,hs:=m.hs.set k ⟨(s:Nat),0,true⟩}
def Jc (g:PlG) (long:Nat) (W:MwP) (m:MaP) (k:Nat) (u:Int):Option MaP:=
 if u=1 then rootM g long W m else if u=2 then takeM m k else if u=3 then scanM g long W m k else if u=4 then walkM g m k else none
def upM (m:MaP):MaP:={m with steps:=m.steps+1}
def stepM (g:PlG) (long:Nat) (W:MwP) (m:MaP) (k:Int) (u:Int):Option MaP:=
 if m.act=true∧0≤k∧k<(m.hs.length:Nat) then(Jc g long W m k.toNat u).map upM else none
def fullM (m:MaP):Option Nat:=(List.range m.hs.length).find? fun k=>(JH m k).is
def Jq (g:PlG) (long:Nat) (W:MwP) (m:MaP):Option MaP:=match fullM m with
 |some k=>stepM g long W m (k:Nat) 3
 |none=>match stepM g long W m ((m.hs.length-1:Nat):Int) 2 with
  |some m'=>some m'
  |none=>match stepM g long W m ((m.hs.length-1:Nat):Int) 1 with
   |some m'=>some m'
   |none=>stepM g long W m ((m.hs.length-1:Nat):Int) 4
def Jl (g:PlG) (W:MwP) (m:MaP):Bool:=m.act&&((fullM m).isNone&&(decide (W.T.length+g.slots≤m.root)&&JU m.G))
def nilG (g:PlG):GyP:=⟨[],List.replicate g.slots false,List.replicate g.pages false,none,0⟩
def JM (g:PlG) (nw:Nat) (act:Bool):MaP:=⟨List.replicate g.slots 0,nilG g,List.replicate (nw+1) jS,0,act,0⟩
def jb1 (g:PlG) (m:MaP):MaP:=JM g (m.hs.length-1) true
structure jv (g:PlG) (long:Nat) (W:MwP) (m:MaP):Prop where
 C:m.C.length=g.slots
 c: ∀ v∈m.C,v=0∨v=1∨v=2
 G:JR g long m.G
 hs:1≤m.hs.length∧m.hs.length≤9
 h: ∀ (k:Nat) (h:JQ),m.hs[k]?=some h→(h.is=true∧0≤h.slot∧h.slot<((g.slots:Nat):Int)∧0≤h.field∧(h.field=0∨h.field<refsN W.x (jC g h.slot)))∨h=jS
 root:m.root≤W.T.length+g.slots
structure Jb (g:PlG) (W:MwP):Prop where
 x:W.x.length=g.words
 w:Jx W.x
 N:W.N.length=g.slots
 n: ∀ v∈W.N,0≤v∧v≤255
 t: ∀ e∈W.T,e.st=1→0≤e.slot∧e.slot<((g.slots:Nat):Int)
open Go.RowKit
set_option maxRecDepth 10000
theorem jdD {f h:Nat→Nat}: ∀ {n:Nat},(∀ i,i<n→f i=h i)→jy f n=jy h n
 |0,_=>rfl
 |n+1,e=>by
  have h1:=jdD (n:=n) fun i hi=>e i (by omega)
  have h2:=e n (by omega)
  simp only[jy];omega
theorem jdL {f h:Nat→Nat} {s:Nat}: ∀ {n:Nat},s<n→(∀ i,i<n→i≠s→h i=f i)→jy h n+f s=jy f n+h s
 |0,hs,_=>by omega
 |n+1,hs,e=>by
  simp only[jy]
  by_cases hn:s=n
  ·subst hn
   have h1:=jdD (f:=h) (h:=f) (n:=s) fun i hi=>e i (by omega) (by omega)
   omega
  ·have h1:=jdL (f:=f) (h:=h) (n:=n) (by omega) fun i hi hne=>e i (by omega) hne
   have h2:=e n (by omega) (by omega)
   omega
theorem cum_le' {f h:Nat→Nat}: ∀ {n:Nat},(∀ i,i<n→f i≤h i)→jy f n≤jy h n
 |0,_=>Nat.le_refl _
 |n+1,e=>by
  have h1:=cum_le' (n:=n) fun i hi=>e i (by omega)
  have h2:=e n (by omega)
  simp only[jy];omega
theorem cum_add {f h:Nat→Nat}: ∀ n:Nat,jy (fun i=>f i+h i) n=jy f n+jy h n
 |0=>rfl
 |n+1=>by have:=cum_add (f:=f) (h:=h) n;simp only[jy];omega
theorem jdm (c:Nat): ∀ n:Nat,jy (fun _=>c) n=n*c
 |0=>by simp[jy]
 |n+1=>by have:=jdm c n;simp only[jy,Nat.succ_mul];omega
theorem jfJ {f:Nat→Nat} {n:Nat} (h: ∀ i,i<n→f i=0):jy f n=0:=by
 rw[jdD (h:=fun _=>0) h,jdm];omega
theorem jgJ {f h:Nat→Nat} {a:Nat}: ∀ b:Nat,(∀ i,i<b→f (a+i)=h i)→jy f (a+b)=jy f a+jy h b
 |0,_=>by simp[jy]
 |b+1,e=>by
  have h1:=jgJ (f:=f) (h:=h) (a:=a) b fun i hi=>e i (by omega)
  have h2:=e b (by omega)
  rw[←Nat.add_assoc];simp only[jy];omega
def szA (g:PlG) (s:Nat):Nat:=(jC g (s:Nat)).size
section
variable {g : PlG}
theorem JF {s:Nat} {y:ju} (h:g.L[s]?=some y):jC g (s:Nat)=y:=by unfold jC;simp[h]
theorem szA_at {s:Nat} {y:ju} (h:g.L[s]?=some y):szA g s=y.size:=by unfold szA;rw [JF h]
theorem jeu (ok:je g) {s:Nat} (hs:s<g.slots):2≤szA g s∧szA g s≤64:=by
 obtain⟨y,hy⟩:=Jg hs
 rw[szA_at hy]
 have:=ok.fits hy
 omega
theorem size_sum (ok:je g): ∀ k,k≤g.m→jy (szA g) (g.first k)≤g.page k*g.pg
 |0,_=>by simp[PlG.first,jy]
 |k+1,h=>by
  have h1:=size_sum ok k (by omega)
  have hk:k<g.m:=by omega
  have h2:jy (szA g) (g.first k+g.n k)=jy (szA g) (g.first k)+jy (fun _=>g.y k) (g.n k):=jgJ _ fun i hi=>by
   rw[szA_at (L_get hk hi)];rfl
  rw[jdm] at h2
  have h3:g.first (k+1)=g.first k+g.n k:=rfl
  have h4:g.page (k+1)=g.page k+g.pgs k:=rfl
  rw[h3,h4,h2,Nat.add_mul]
  have hper:=ok.per hk
  have h5:g.n k≤g.pgs k*g.per k:=by
   unfold PlG.pgs
   have:=Nat.div_add_mod (g.n k+g.per k-1) (g.per k)
   have h6:=Nat.mod_lt (g.n k+g.per k-1) (show 0<g.per k by omega)
   rw[Nat.mul_comm] at this
   omega
  have h6:g.per k*g.y k≤g.pg:=Nat.div_mul_le_self _ _
  have h7:g.n k*g.y k≤g.pgs k*g.per k*g.y k:=Nat.mul_le_mul_right _ h5
  have h8:g.pgs k*(g.per k*g.y k)≤g.pgs k*g.pg:=Nat.mul_le_mul_left _ h6
  rw[Nat.mul_assoc] at h7
  omega
theorem jgv (ok:je g):jy (szA g) g.slots≤g.words:=size_sum ok g.m (Nat.le_refl _)
theorem jdP (ok:je g):2*g.slots≤g.words:=by
 have h1:=jgv ok
 have h2:jy (fun _=>2) g.slots≤jy (szA g) g.slots:=cum_le' fun i hi=>(jeu ok hi).1
 rw[jdm] at h2
 omega
end
def wtA (g:PlG) (C:List Int) (s:Nat):Nat:=if C[s]?=some 0 then szA g s+33 else 0
def wtO (g:PlG) (ow:List Bool) (s:Nat):Nat:=if ow[s]?=some true then szA g s+1 else 0
def wtD (di:List Bool) (k:Nat):Nat:=if di[k]?=some true then 32 else 0
def wtH (g:PlG) (hs:List JQ) (k:Nat):Nat:=if ((hs[k]?).getD jS).is then szA g ((hs[k]?).getD jS).slot.toNat-((hs[k]?).getD jS).field.toNat else 0
def wtP (g:PlG) (G:GyP):Nat:=match G.pg with
 |some k=>g.mp k-G.at_
 |none=>0
def wtQ (g:PlG) (q:List Nat):Nat:=(q.map fun s=>szA g s+1).sum
def jaD (g:PlG) (G:GyP):Nat:=wtQ g G.q+(jy (wtO g G.ow) g.slots+(jy (wtD G.di) g.pages+wtP g G))
def jI (g:PlG) (W:MwP) (m:MaP):Nat:=jy (wtA g m.C) g.slots+(jaD g m.G+(jy (wtH g m.hs) m.hs.length+(W.T.length+g.slots-m.root)))
section
variable {g : PlG} {long : Nat} {W : MwP} {m m' : MaP} {G G' : GyP}
theorem jfO {C:List Int} {s:Nat} {c:Int} (hs:s<g.slots) (h0:c≠0):jy (wtA g (C.set s c)) g.slots+wtA g C s=jy (wtA g C) g.slots:=by
 have h:=jdL (f:=wtA g C) (h:=wtA g (C.set s c)) hs fun i hi hne=>by unfold wtA;rw [List.getElem?_set_ne (by omega)]
 have h1:wtA g (C.set s c) s=0:=by
  unfold wtA;rw[if_neg];intro e
  rcases Nat.lt_or_ge s C.length with hl|hl
  ·rw[List.getElem?_set_self hl] at e;simp at e;exact h0 e
  ·rw[List.getElem?_eq_none (by rw[List.length_set];omega)] at e;cases e
 omega
theorem wtA_set_le {C:List Int} {s:Nat} {c:Int} (h0:c≠0):jy (wtA g (C.set s c)) g.slots≤jy (wtA g C) g.slots:=by
 rcases Nat.lt_or_ge s g.slots with hs|hs
 ·have:=jfO (g:=g) (C:=C) hs h0;omega
 ·rw[jdD (h:=wtA g C) fun i hi=>by unfold wtA;rw [List.getElem?_set_ne (by omega)]];exact zO
theorem wtO_set {ow:List Bool} {s:Nat} (b:Bool) (hs:s<g.slots) (hl:s<ow.length):jy (wtO g (ow.set s b)) g.slots+wtO g ow s=jy (wtO g ow) g.slots+(if b then szA g s+1 else 0):=by
 have h:=jdL (f:=wtO g ow) (h:=wtO g (ow.set s b)) hs fun i hi hne=>by unfold wtO;rw [List.getElem?_set_ne (by omega)]
 rw[h]
 congr 1
 unfold wtO;rw[List.getElem?_set_self hl]
 cases b<;>simp
theorem wtD_set {di:List Bool} {k:Nat} (b:Bool) (hk:k<g.pages) (hl:k<di.length):jy (wtD (di.set k b)) g.pages+wtD di k=jy (wtD di) g.pages+(if b then 32 else 0):=by
 have h:=jdL (f:=wtD di) (h:=wtD (di.set k b)) hk fun i hi hne=>by unfold wtD;rw [List.getElem?_set_ne (by omega)]
 rw[h]
 congr 1
 unfold wtD;rw[List.getElem?_set_self hl]
 cases b<;>simp
theorem jet {hs:List JQ} {k:Nat} (h:JQ) (hk:k<hs.length):jy (wtH g (hs.set k h)) hs.length+wtH g hs k=jy (wtH g hs) hs.length+(if h.is then szA g h.slot.toNat-h.field.toNat else 0):=by
 have e:=jdL (f:=wtH g hs) (h:=wtH g (hs.set k h)) hk fun i hi hne=>by unfold wtH;rw [List.getElem?_set_ne (by omega)]
 rw[e]
 congr 1
 unfold wtH;rw[List.getElem?_set_self hk]
 rfl
theorem put_left (ok:je g) (hG:JR g long G) {s:Nat} (hs:s<g.slots):jaD g (JC g long G s)≤jaD g G+(szA g s+33):=by
 unfold JC
 split
 ·unfold jaD wtQ;simp only[List.map_append,List.sum_append,List.map_cons,List.map_nil,List.sum_cons,List.sum_nil]
  show _+(_+(_+wtP g G))≤_
  omega
 ·obtain⟨y,hy⟩:=Jg hs
  have h1:=wtO_set (g:=g) (ow:=G.ow) true hs (by rw[hG.ow];exact hs)
  have hp:g.pgOf s<g.pages:=by rw[jcT hy];exact(jcv ok hy).1
  have h2:=wtD_set (g:=g) (di:=G.di) true hp (by rw[hG.di];exact hp)
  simp only[if_true] at h1 h2;unfold jaD
  show wtQ g G.q+(_+(_+wtP g G))≤_
  dsimp only
  omega
theorem jgw (ok:je g) (hm:jv g long W m) (s:Int):jI g W (Jh g long m s)≤jI g W m:=by
 unfold Jh
 split
 ·rename_i h
  obtain⟨n,rfl⟩: ∃ n:Nat,s=n:=⟨s.toNat,by omega⟩
  simp only[Int.toNat_natCast] at h⊢
  have hn:n<g.slots:=by rw[←hm.C];exact jl h.2
  have h1:=jfO (g:=g) (C:=m.C) (c:=1) hn (by decide)
  have h2:=put_left ok hm.G hn
  have h3:wtA g m.C n=szA g n+33:=by unfold wtA;rw [if_pos h.2]
  unfold jI;dsimp only
  omega
 ·exact zO
theorem walk1_left (ok:je g) (hG:JR g long G) {k:Nat} (hk:G.pg=some k):
  jaD g (walk1 g k G).2+(match (walk1 g k G).1 with|some s=>szA g s+1|none=>0)+1≤jaD g G:=by
 obtain⟨h1,h2⟩:=hG.pg k hk
 obtain⟨b1,b2,b3⟩:=jb3 ok h1
 have hs:g.fp k+G.at_<g.slots:=by omega
 have ho:=wtO_set (g:=g) (ow:=G.ow) false hs (by rw[hG.ow];exact hs)
 have hp:wtP g G=g.mp k-G.at_:=by unfold wtP;rw [hk]
 have hp':wtP g (walk1 g k G).2+1≤g.mp k-G.at_:=by
  unfold wtP walk1;dsimp only
  by_cases he:G.at_+1=g.mp k
  ·rw[if_pos he];dsimp only;omega
  ·rw[if_neg he,if_neg he];dsimp only;omega
 have hx:(match (walk1 g k G).1 with|some s=>szA g s+1|none=>0)=wtO g G.ow (g.fp k+G.at_):=by
  unfold walk1 wtO;dsimp only
  cases ho':G.ow[g.fp k+G.at_]? with
  |none=>simp
  |some b=>cases b<;>simp
 rw[hx];simp only[Bool.false_eq_true,if_false] at ho;unfold jaD;rw[hp]
 show wtQ g G.q+(jy (wtO g (G.ow.set (g.fp k+G.at_) false)) g.slots+(jy (wtD G.di) g.pages+wtP g (walk1 g k G).2))+_+1≤_
 omega
theorem jdf (ok:je g) (hG:JR g long G) {k:Nat} (h:openG G=some (k,G')):JR g long G'∧G'.pg=some k∧jaD g G'≤jaD g G:=by
 unfold openG at h
 cases hp:G.pg with
 |some k'=>
  rw[hp] at h;simp only[Option.some.injEq,Prod.mk.injEq] at h
  obtain⟨rfl,rfl⟩:=h
  exact⟨hG,hp,Nat.le_refl _⟩
 |none=>
  rw[hp] at h
  cases hq:G.q with
  |cons a l=>rw [hq] at h;cases h
  |nil=>
   rw[hq] at h;dsimp only at h
   cases hn:nextB G.di 0 true with
   |none=>rw [hn] at h;cases h
   |some k'=>
    rw[hn] at h;simp only[Option.some.injEq,Prod.mk.injEq] at h
    obtain⟨rfl,rfl⟩:=h
    obtain⟨n1,n2,n3,n4⟩:=jaZ hn
    have hk:k'<g.pages:=by rw[←hG.di];exact n1
    obtain⟨b1,b2,b3⟩:=jb3 ok hk
    refine⟨⟨fun s hs=>(by cases hs),Nat.zero_le _,hG.ow,by rw[List.length_set];exact hG.di,?_,?_,?_⟩,rfl,?_⟩
    ·intro k hk'
     cases hk'
     exact⟨hk,by show 0<_;omega⟩
    ·intro h;cases h
    ·intro s hs
     rcases hG.od s hs with hd|⟨k,hk',_⟩
     ·by_cases hpk:g.pgOf s=k'
      ·right
       refine⟨k',rfl,hpk,?_⟩
       have hsl:s<g.slots:=by rw[←hG.ow];exact jl hs
       obtain⟨y,hy⟩:=Jg hsl
       have:=jcv ok hy
       rw[←jcT hy,hpk] at this
       show g.fp k'+0≤s
       omega
      ·left
       show(G.di.set k' false)[g.pgOf s]?=some true
       rw[List.getElem?_set_ne (by omega)];exact hd
     ·rw[hp] at hk';cases hk'
    ·have h1:=wtD_set (g:=g) (di:=G.di) false hk n1
     have h2:wtD G.di k'=32:=by
      unfold wtD;rw[if_pos];rw[List.getElem?_eq_getElem n1] at n3⊢
      simpa using n3
     simp only[Bool.false_eq_true,if_false] at h1
     have h3:wtP g G=0:=by unfold wtP;rw [hp]
     have h4:wtP g ⟨[],G.ow,G.di.set k' false,some k',0⟩=g.mp k'-0:=rfl
     unfold jaD;dsimp only;rw[hq,h3]
     have h5:wtP g {q:=G.q,ow:=G.ow,di:=G.di.set k' false,pg:=some k',at_:=0}=g.mp k'-0:=rfl
     rw[hq] at h5;rw[h5]
     omega
theorem walk1_ok (ok:je g) (hG:JR g long G) {k:Nat} (hk:G.pg=some k):JR g long (walk1 g k G).2∧ ∀ s,(walk1 g k G).1=some s→s<g.slots∧G.ow[s]?=some true:=by
 obtain⟨h1,h2⟩:=hG.pg k hk
 obtain⟨b1,b2,b3⟩:=jb3 ok h1
 have hs:g.fp k+G.at_<g.slots:=by omega
 have hl:g.fp k+G.at_<G.ow.length:=by rw[hG.ow];exact hs
 constructor
 ·refine⟨hG.q,hG.ql,by show(G.ow.set _ _).length=_;rw [List.length_set];exact hG.ow,hG.di,?_,?_,?_⟩
  ·intro k' hk';unfold walk1 at hk'⊢;dsimp only at hk'⊢
   by_cases he:G.at_+1=g.mp k
   ·rw[if_pos he] at hk';cases hk'
   ·rw[if_neg he] at hk'⊢
    cases hk'
    exact⟨h1,by omega⟩
  ·intro h;unfold walk1 at h⊢;dsimp only at h⊢
   by_cases he:G.at_+1=g.mp k
   ·rw[if_pos he]
   ·rw[if_neg he] at h;cases h
  ·intro s hs'
   change (G.ow.set (g.fp k+G.at_) false)[s]?=some true at hs'
   by_cases hse:s=g.fp k+G.at_
   ·subst hse;rw[List.getElem?_set_self hl] at hs';cases hs'
   ·rw[List.getElem?_set_ne (by omega)] at hs'
    rcases hG.od s hs' with hd|⟨k',hk',e1,e2⟩
    ·exact .inl hd
    ·rw[hk] at hk';cases hk'
     right
     have hsl:s<g.slots:=by rw[←hG.ow];exact jl hs'
     obtain⟨y,hy⟩:=Jg hsl
     have:=jcv ok hy
     rw[←jcT hy,e1] at this;unfold walk1;dsimp only
     by_cases he:G.at_+1=g.mp k
     ·omega
     ·rw[if_neg he,if_neg he];exact⟨k,rfl,e1,by omega⟩
 ·intro s hs';unfold walk1 at hs';dsimp only at hs'
  split at hs'
  ·rename_i ho
   cases hs'
   refine⟨hs,?_⟩;rw[List.getElem?_eq_getElem hl] at ho⊢
   simpa using ho
  ·cases hs'
theorem put_ok (ok:je g) (hG:JR g long G) {s:Nat} (hs:s<g.slots):JR g long (JC g long G s):=by
 unfold JC
 obtain⟨y,hy⟩:=Jg hs
 have hp:g.pgOf s<g.pages:=by rw[jcT hy];exact(jcv ok hy).1
 split
 ·refine⟨fun t ht=>?_,by simp;omega,hG.ow,hG.di,hG.pg,hG.no,hG.od⟩
  rcases List.mem_append.1 ht with h|h
  ·exact hG.q t h
  ·rw[List.mem_singleton.1 h];exact hs
 ·refine⟨hG.q,hG.ql,by rw[List.length_set];exact hG.ow,by rw[List.length_set];exact hG.di,hG.pg,hG.no,fun t ht=>?_⟩;dsimp only at ht⊢
  by_cases hts:t=s
  ·subst hts
   left;rw [List.getElem?_set_self (by rw[hG.di];exact hp)]
  ·rw[List.getElem?_set_ne (by omega)] at ht
   rcases hG.od t ht with hd|h
   ·left
    by_cases hpp:g.pgOf s=g.pgOf t
    ·rw[hpp,List.getElem?_set_self (by rw[hG.di,←hpp];exact hp)]
    ·rw[List.getElem?_set_ne hpp];exact hd
   ·exact .inr h
theorem shade_ok (ok:je g) (hm:jv g long W m) (s:Int):jv g long W (Jh g long m s):=by
 unfold Jh
 split
 ·rename_i h
  have hn:s.toNat<g.slots:=by rw[←hm.C];exact jl h.2
  refine⟨by rw[List.length_set];exact hm.C,fun v hv=>?_,put_ok ok hm.G hn,hm.hs,hm.h,hm.root⟩
  rcases List.mem_or_eq_of_mem_set hv with h1|h1
  ·exact hm.c v h1
  ·rw[h1];exact .inr (.inl rfl)
 ·exact hm
theorem jdZ (ok:je g) (hm:jv g long W m) (o:Option Int):jv g long W (j4 g long m o):=by
 cases o with
 |none=>exact hm
 |some s=>exact shade_ok ok hm s
theorem jgj (ok:je g) (hm:jv g long W m) (o:Option Int):jI g W (j4 g long m o)≤jI g W m:=by
 cases o with
 |none=>exact Nat.le_refl _
 |some s=>exact jgw ok hm s
theorem jfv (s:Int):(Jh g long m s).hs=m.hs∧(Jh g long m s).root=m.root∧(Jh g long m s).act=m.act∧(Jh g long m s).steps=m.steps:=by
 unfold Jh;split<;>exact⟨rfl,rfl,rfl,rfl⟩
theorem jcC (o:Option Int):(j4 g long m o).hs=m.hs∧(j4 g long m o).root=m.root∧(j4 g long m o).act=m.act∧(j4 g long m o).steps=m.steps:=by
 cases o with
 |none=>exact⟨rfl,rfl,rfl,rfl⟩
 |some s=>exact jfv s
theorem root_ok (ok:je g) (hm:jv g long W m) (h:rootM g long W m=some m'):jv g long W m'∧jI g W m'+1≤jI g W m∧m'.steps=m.steps∧m'.act=m.act∧m'.hs.length=m.hs.length:=by
 unfold rootM at h
 split at h
 ·rename_i hr
  cases h
  have hm1:jv g long W {m with root:=m.root+1}:=⟨hm.C,hm.c,hm.G,hm.hs,hm.h,hr⟩
  obtain⟨q1,q2,q3,q4⟩:=jcC (g:=g) (long:=long) (m:={m with root:=m.root+1}) (jF g W m.root)
  refine⟨jdZ ok hm1 _,?_,q4,q3,by rw[q1]⟩
  have h1:=jgj ok hm1 (jF g W m.root)
  have h2:jI g W {m with root:=m.root+1}+1≤jI g W m:=by unfold jI;dsimp only;omega
  omega
 ·cases h
theorem jeB (hm:jv g long W m) {k:Nat} (hk:k<m.hs.length) {h:JQ} (hh:(h.is=true∧0≤h.slot∧h.slot<(g.slots:Nat)∧0≤h.field∧(h.field=0∨h.field<refsN W.x (jC g h.slot)))∨h=jS) {C:List Int} {G:GyP} (hC:C.length=g.slots) (hc: ∀ v∈C,v=0∨v=1∨v=2) (hG:JR g long G):
  jv g long W {m with C:=C,G:=G,hs:=m.hs.set k h}:=by
 refine⟨hC,hc,hG,by show 1≤(m.hs.set k h).length∧_;rw [List.length_set];exact hm.hs,fun j h' hj=>?_,hm.root⟩
 change (m.hs.set k h)[j]?=some h' at hj
 by_cases hjk:j=k
 ·subst hjk;rw[List.getElem?_set_self hk] at hj;cases hj;exact hh
 ·rw[List.getElem?_set_ne (by omega)] at hj;exact hm.h j h' hj
theorem jal {k:Nat} {h:JQ} (hk:m.hs[k]?=some h):JH m k=h:=by unfold JH;rw [hk];rfl
theorem take_ok (ok:je g) (hm:jv g long W m) {k:Nat} (hk:k<m.hs.length) (h:takeM m k=some m'):jv g long W m'∧jI g W m'+1≤jI g W m∧m'.steps=m.steps∧m'.act=m.act∧m'.hs.length=m.hs.length:=by
 unfold takeM at h
 split at h
 ·cases h
 ·rename_i hn
  cases hq:m.G.q with
  |nil=>rw [hq] at h;cases h
  |cons s q=>
   rw[hq] at h
   cases h
   have hs:s<g.slots:=hm.G.q s (by rw[hq];exact .head _)
   have hG:JR g long {m.G with q:=q}:=⟨fun t ht=>hm.G.q t (by rw[hq];exact .tail _ ht),by have:=hm.G.ql;rw [hq] at this;simp at this;show q.length≤long;omega,hm.G.ow,hm.G.di,hm.G.pg,hm.G.no,hm.G.od⟩
   refine⟨jeB (C:=m.C) hm hk (.inl ⟨rfl,by show(0:Int)≤((s:Nat):Int);omega,by show((s:Nat):Int)<_;omega,Int.le_refl 0, .inl rfl⟩) hm.C hm.c hG,?_,rfl,rfl,by show(m.hs.set _ _).length=_;rw [List.length_set]⟩
   have h1:=jet (g:=g) (hs:=m.hs) ⟨(s:Nat),0,true⟩ hk
   have h2:wtH g m.hs k=0:=by unfold wtH;exact if_neg hn
   have h3:wtQ g m.G.q=(szA g s+1)+wtQ g q:=by rw[hq];rfl
   simp only[if_true,Int.toNat_natCast,Int.toNat_zero,Nat.sub_zero] at h1;unfold jI jaD
   show _+(wtQ g q+(_+(_+wtP g m.G))+(jy (wtH g (m.hs.set k ⟨(s:Nat),0,true⟩)) (m.hs.set k ⟨(s:Nat),0,true⟩).length+_))+1≤_
   rw[List.length_set];dsimp only
   omega
theorem je7 (ok:je g) {s:Nat} (hs:s<g.slots) (x:List Int):refsN x (jC g (s:Nat))+1≤(szA g s:Nat):=by
 obtain⟨y,hy⟩:=Jg hs
 rw[JF hy,szA_at hy]
 have:=ok.fits hy
 unfold refsN
 cases hh:headP x y with
 |none=>dsimp only;omega
 |some h=>
  obtain⟨_,hl⟩:=jbT hh
  obtain⟨hm,_,hl⟩:=jbc hl
  simp only[Jd,decide_eq_true_eq] at hm;dsimp only
  omega
theorem scan_ok (ok:je g) (hm:jv g long W m) {k:Nat} (hk:k<m.hs.length) (h:scanM g long W m k=some m'):jv g long W m'∧jI g W m'+1≤jI g W m∧m'.steps=m.steps∧m'.act=m.act∧m'.hs.length=m.hs.length:=by
 unfold scanM at h
 split at h
 ·rename_i hn
  obtain⟨hd,hhd⟩:=jn hk
  rw[jal hhd] at h hn
  rcases hm.h k hd hhd with⟨e1,e2,e3,e4,e5⟩|e
  ·obtain⟨s,hs⟩: ∃ s:Nat,hd.slot=s:=⟨hd.slot.toNat,by omega⟩
   obtain⟨f,hf⟩: ∃ f:Nat,hd.field=f:=⟨hd.field.toNat,by omega⟩
   rw[hs] at e3 e5 h;rw[hf] at e5 h
   have hsl:s<g.slots:=by omega
   have hrs:=je7 ok hsl W.x
   obtain⟨o,ho⟩: ∃ o,o=refO g W.x (s:Nat) (f:Nat):=⟨_,rfl⟩
   rw[←ho] at h
   have k1:=jdZ ok hm o
   have k2:=jgj ok hm o
   obtain⟨q1,q2,q3,q4⟩:=jcC (g:=g) (long:=long) (m:=m) o
   obtain⟨m1,hm1⟩: ∃ m1,m1=j4 g long m o:=⟨_,rfl⟩
   rw[←hm1] at h k1 k2 q1 q2 q3 q4
   have h2:wtH g m1.hs k=szA g s-f:=by unfold wtH;rw [q1,hhd];simp only[Option.getD_some,e1,if_true,hs,hf,Int.toNat_natCast]
   have hsz:=(jeu ok hsl).1
   have hk1:k<m1.hs.length:=by rw[q1];exact hk
   split at h
   ·rename_i hlt
    cases h
    have h1:=jet (g:=g) (hs:=m1.hs) ⟨(s:Nat),(f:Nat)+1,true⟩ hk1
    have h4:=jeB (C:=m1.C) (h:=⟨(s:Nat),(f:Nat)+1,true⟩) k1 hk1 (.inl ⟨rfl,by show(0:Int)≤((s:Nat):Int);omega,e3,by show(0:Int)≤((f:Nat):Int)+1;omega, .inr hlt⟩) k1.C k1.c k1.G
    rw[q1] at h4 h1;refine⟨h4,?_,q4,q3,by show(m.hs.set _ _).length=_;rw [List.length_set]⟩
    have e:(((f:Nat):Int)+1).toNat=f+1:=by omega
    simp only[if_true,Int.toNat_natCast,e] at h1;rw[q1] at h2;unfold jI at k2⊢;dsimp only;rw[List.length_set];rw[q1] at k2
    omega
   ·cases h
    have h1:=jet (g:=g) (hs:=m1.hs) jS hk1
    have h4:=jeB (C:=m1.C.set s 2) (h:=jS) k1 hk1 (.inr rfl) (by rw[List.length_set];exact k1.C) (fun v hv=>by
     rcases List.mem_or_eq_of_mem_set hv with h|h
     ·exact k1.c v h
     ·rw[h];exact .inr (.inr rfl)) k1.G
    rw[q1] at h4 h1;refine⟨by simpa using h4,?_,q4,q3,by show(m.hs.set _ _).length=_;rw [List.length_set]⟩
    have h5:=wtA_set_le (g:=g) (C:=m1.C) (s:=s) (c:=2) (by decide)
    have e:jS.is=false:=rfl
    rw[e] at h1;simp only[Bool.false_eq_true,if_false] at h1;rw[q1] at h2
    have hfs:f+1≤szA g s:=by omega
    unfold jI at k2⊢;dsimp only;simp only[Int.toNat_natCast];rw[List.length_set];rw[q1] at k2
    omega
  ·rw[e] at hn;cases hn
 ·cases h
theorem walk_ok (ok:je g) (hm:jv g long W m) {k:Nat} (hk:k<m.hs.length) (h:walkM g m k=some m'):jv g long W m'∧jI g W m'+1≤jI g W m∧m'.steps=m.steps∧m'.act=m.act∧m'.hs.length=m.hs.length:=by
 unfold walkM at h
 split at h
 ·cases h
 ·rename_i hn
  unfold walkG at h
  cases hop:openG m.G with
  |none=>rw [hop] at h;cases h
  |some x=>
   obtain⟨j,G1⟩:=x
   rw[hop] at h
   obtain⟨k1,k2,k3⟩:=jdf ok hm.G hop
   have k4:=walk1_left ok k1 k2
   obtain⟨k5,k6⟩:=walk1_ok ok k1 k2
   simp only[Option.map_some] at h
   obtain⟨r,hr⟩: ∃ r,r=walk1 g j G1:=⟨_,rfl⟩
   rw[←hr] at h k4 k5 k6
   obtain⟨o,G2⟩:=r
   cases o with
   |none=>
    dsimp only at h k4 k5
    cases h
    refine⟨⟨hm.C,hm.c,k5,hm.hs,hm.h,hm.root⟩,?_,rfl,rfl,rfl⟩;unfold jI;dsimp only
    omega
   |some s=>
    dsimp only at h k4 k5
    cases h
    have k4':jaD g G2+(szA g s+1)+1≤jaD g G1:=k4
    obtain⟨hs,_⟩:=k6 s rfl
    refine⟨jeB (C:=m.C) hm hk (.inl ⟨rfl,by show(0:Int)≤((s:Nat):Int);omega,by show((s:Nat):Int)<_;omega,Int.le_refl 0, .inl rfl⟩) hm.C hm.c k5,?_,rfl,rfl,by show(m.hs.set _ _).length=_;rw [List.length_set]⟩
    have h1:=jet (g:=g) (hs:=m.hs) ⟨(s:Nat),0,true⟩ hk
    have h2:wtH g m.hs k=0:=by unfold wtH;exact if_neg hn
    simp only[if_true,Int.toNat_natCast,Int.toNat_zero,Nat.sub_zero] at h1;unfold jI;dsimp only;rw[List.length_set]
    omega
theorem jbA (ok:je g) (hm:jv g long W m) {k:Nat} (hk:k<m.hs.length) {u:Int} (h:Jc g long W m k u=some m'):jv g long W m'∧jI g W m'+1≤jI g W m∧m'.steps=m.steps∧m'.act=m.act∧m'.hs.length=m.hs.length:=by
 unfold Jc at h
 split at h
 ·exact root_ok ok hm h
 ·split at h
  ·exact take_ok ok hm hk h
  ·split at h
   ·exact scan_ok ok hm hk h
   ·split at h
    ·exact walk_ok ok hm hk h
    ·cases h
theorem up_ok (hm:jv g long W m):jv g long W (upM m):=⟨hm.C,hm.c,hm.G,hm.hs,hm.h,hm.root⟩
theorem jcR (ok:je g) (hm:jv g long W m) {k u:Int} (h:stepM g long W m k u=some m'):jv g long W m'∧jI g W m'+1≤jI g W m∧m'.steps=m.steps+1∧m'.act=m.act∧m'.hs.length=m.hs.length:=by
 unfold stepM at h
 split at h
 ·rename_i hc
  cases hu:Jc g long W m k.toNat u with
  |none=>rw [hu] at h;cases h
  |some m1=>
   rw[hu] at h;simp only[Option.map_some,Option.some.injEq] at h;subst h
   obtain⟨k1,k2,k3,k4,k5⟩:=jbA ok hm (by omega) hu
   exact⟨up_ok k1,k2,by show m1.steps+1=_;rw [k3],k4,k5⟩
 ·cases h
theorem jbv {m':MaP} (h:Jq g long W m=some m'): ∃ k u:Int,stepM g long W m k u=some m':=by
 unfold Jq at h
 split at h
 ·exact⟨_,_,h⟩
 ·split at h
  ·rename_i m1 hm1
   cases h
   exact⟨_,_,hm1⟩
  ·split at h
   ·rename_i m1 hm1
    cases h
    exact⟨_,_,hm1⟩
   ·exact⟨_,_,h⟩
theorem jeO (ok:je g) (nw:Nat):jI g W (JM g nw true)≤18*g.words+W.T.length:=by
 have h1:jy (wtA g (List.replicate g.slots 0)) g.slots=jy (szA g) g.slots+g.slots*33:=by
  rw[←jdm,←cum_add]
  refine jdD fun i hi=>?_
  unfold wtA;rw[List.getElem?_replicate,if_pos hi,if_pos rfl]
 have h2:jy (wtO g (List.replicate g.slots false)) g.slots=0:=jfJ fun i hi=>by
  unfold wtO;rw [List.getElem?_replicate,if_pos hi];simp
 have h3:jy (wtD (List.replicate g.pages false)) g.pages=0:=jfJ fun i hi=>by
  unfold wtD;rw [List.getElem?_replicate,if_pos hi];simp
 have h4:jy (wtH g (List.replicate (nw+1) jS)) (List.replicate (nw+1) jS).length=0:=jfJ fun i hi=>by
  unfold wtH;rw[List.getElem?_replicate,if_pos (show i<nw+1 by simpa using hi)];rfl
 have h5:=jgv ok
 have h6:=jdP ok
 unfold jI jaD JM nilG;dsimp only;rw[h1,h2,h3,h4]
 show _+(0+(0+(0+0))+(0+(W.T.length+g.slots-0)))≤_
 omega
theorem new_ok {nw:Nat} {act:Bool} (hl:1≤long) (hn:nw≤8):jv g long W (JM g nw act):=by
 refine⟨by simp[JM],fun v hv=>?_,⟨fun s hs=>(by cases hs),by simp[JM,nilG],by simp[JM,nilG],by simp[JM,nilG],fun k hk=>(by cases hk),fun _=>rfl,fun s hs=>?_⟩,by simp[JM];omega,fun k h hk=>?_,Nat.zero_le _⟩
 ·exact .inl (List.mem_replicate.1 hv).2
 ·simp only[JM,nilG,List.getElem?_replicate] at hs
  split at hs<;>simp at hs
 ·simp only[JM,List.getElem?_replicate] at hk
  split at hk
  ·right;simpa using hk.symm
  ·cases hk
end
open Go.RowKit
set_option maxRecDepth 10000
inductive RchM (g:PlG) (W:MwP):Nat→Prop
 |root {r s:Nat}:r<W.T.length+g.slots→jF g W r=some (s:Nat)→RchM g W s
 |edge {s t:Nat} {i:Int}:RchM g W s→refO g W.x (s:Nat) i=some (t:Nat)→RchM g W t
def NW (m:MaP) (s:Nat):Prop:= ∃ c,m.C[s]?=some c∧c≠0
def Lst (m:MaP) (s:Nat):Prop:=s∈m.G.q∨m.G.ow[s]?=some true∨ ∃ (k:Nat) (h:JQ),m.hs[k]?=some h∧h.is=true∧h.slot=(s:Nat)
def Uns (m:MaP) (s:Nat) (i:Int):Prop:=s∈m.G.q∨m.G.ow[s]?=some true∨ ∃ (k:Nat) (h:JQ),m.hs[k]?=some h∧h.is=true∧h.slot=(s:Nat)∧h.field≤i
structure jac (m:MaP):Prop where
 grey: ∀ s,m.C[s]?=some 1→Lst m s
 lst: ∀ s,Lst m s→NW m s
inductive Prot (g:PlG) (W:MwP) (m:MaP):Nat→Prop
 |col {s:Nat}:NW m s→Prot g W m s
 |root {r s:Nat}:m.root≤r→r<W.T.length+g.slots→jF g W r=some (s:Nat)→Prot g W m s
 |wht {t s:Nat} {i:Int}:Prot g W m t→m.C[t]?=some 0→refO g W.x (t:Nat) i=some (s:Nat)→Prot g W m s
 |fld {t s:Nat} {i:Int}:Uns m t i→refO g W.x (t:Nat) i=some (s:Nat)→Prot g W m s
structure Jy (g:PlG) (W W':MwP) (m m':MaP):Prop where
 nw: ∀ s,NW m s→NW m' s
 rt: ∀ r s:Nat,m.root≤r→r<W.T.length+g.slots→jF g W r=some (s:Nat)→NW m' s∨(m'.root≤r∧r<W'.T.length+g.slots∧jF g W' r=some (s:Nat))
 wt: ∀ (t s:Nat) (i:Int),m.C[t]?=some 0→refO g W.x (t:Nat) i=some (s:Nat)→NW m' s∨((m'.C[t]?=some 0∨Uns m' t i)∧refO g W'.x (t:Nat) i=some (s:Nat))
 fd: ∀ (t s:Nat) (i:Int),Uns m t i→refO g W.x (t:Nat) i=some (s:Nat)→NW m' s∨(Uns m' t i∧refO g W'.x (t:Nat) i=some (s:Nat))
def jaN (P:Nat→Prop) (m:MaP):Prop:= ∀ s,NW m s→P s
structure Cls (g:PlG) (W:MwP) (P:Nat→Prop):Prop where
 root: ∀ {r s:Nat},r<W.T.length+g.slots→jF g W r=some (s:Nat)→P s
 edge: ∀ {s t:Nat} {i:Int},P s→refO g W.x (s:Nat) i=some (t:Nat)→P t
theorem rch_cls {g:PlG} {W:MwP}:Cls g W (RchM g W):=⟨.root, .edge⟩
theorem Cls.rch {g:PlG} {W:MwP} {P:Nat→Prop} (h:Cls g W P) {s:Nat} (hs:RchM g W s):P s:=by
 induction hs with
 |root a b=>exact h.root a b
 |edge a b ih=>exact h.edge ih b
section
variable {g : PlG} {long : Nat} {W W' W'' : MwP} {m m' m'' : MaP}
theorem Jy.refl:Jy g W W m m:=⟨fun _ h=>h,fun r s h1 h2 h3=> .inr ⟨h1,h2,h3⟩,fun t s i h1 h2=> .inr ⟨.inl h1,h2⟩,fun t s i h1 h2=> .inr ⟨h1,h2⟩⟩
theorem Jy.trans (h:Jy g W W' m m') (h':Jy g W' W'' m' m''):Jy g W W'' m m'':=by
 refine⟨fun s hs=>h'.nw s (h.nw s hs),fun r s h1 h2 h3=>?_,fun t s i h1 h2=>?_,fun t s i h1 h2=>?_⟩
 ·rcases h.rt r s h1 h2 h3 with a|⟨a,b,c⟩
  ·exact .inl (h'.nw s a)
  ·exact h'.rt r s a b c
 ·rcases h.wt t s i h1 h2 with a|⟨a|a,b⟩
  ·exact .inl (h'.nw s a)
  ·exact h'.wt t s i a b
  ·rcases h'.fd t s i a b with c|⟨c,d⟩
   ·exact .inl c
   ·exact .inr ⟨.inr c,d⟩
 ·rcases h.fd t s i h1 h2 with a|⟨a,b⟩
  ·exact .inl (h'.nw s a)
  ·exact h'.fd t s i a b
theorem Prot.keep (k:Jy g W W' m m') {s:Nat} (h:Prot g W m s):Prot g W' m' s:=by
 induction h with
 |col h=>exact .col (k.nw _ h)
 |root h1 h2 h3=>
  rcases k.rt _ _ h1 h2 h3 with a|⟨a,b,c⟩
  ·exact .col a
  ·exact .root a b c
 |wht h1 h2 h3 ih=>
  rcases k.wt _ _ _ h2 h3 with a|⟨a|a,b⟩
  ·exact .col a
  ·exact .wht ih a b
  ·exact .fld a b
 |fld h1 h2=>
  rcases k.fd _ _ _ h1 h2 with a|⟨a,b⟩
  ·exact .col a
  ·exact .fld a b
theorem Uns.lst {s:Nat} {i:Int} (h:Uns m s i):Lst m s:=by
 rcases h with h|h|⟨k,x,h1,h2,h3,h4⟩
 ·exact .inl h
 ·exact .inr (.inl h)
 ·exact .inr (.inr ⟨k,x,h1,h2,h3⟩)
theorem NW.not {s:Nat} (h:NW m s):m.C[s]?≠some 0:=by
 obtain⟨c,h1,h2⟩:=h
 rw[h1];intro e;cases e;exact h2 rfl
theorem nw_or (hC:m.C.length=g.slots) {s:Nat} (hs:s<g.slots):m.C[s]?=some 0∨NW m s:=by
 obtain⟨c,hc⟩:=jn (l:=m.C) (k:=s) (by omega)
 by_cases h:c=0
 ·left;rw [hc,h]
 ·exact .inr ⟨c,hc,h⟩
theorem put_lst {G:GyP} (ok:je g) (hG:JR g long G) {n:Nat} (hn:n<g.slots):(n∈(JC g long G n).q∨(JC g long G n).ow[n]?=some true)∧(∀ s,s∈G.q→s∈(JC g long G n).q)∧(∀ s:Nat,G.ow[s]?=some true→(JC g long G n).ow[s]?=some true)∧
  (∀ s,s∈(JC g long G n).q→s∈G.q∨s=n)∧(∀ s:Nat,(JC g long G n).ow[s]?=some true→G.ow[s]?=some true∨s=n):=by
 unfold JC
 split
 ·exact⟨.inl (List.mem_append_right _ (.head _)),fun s h=>List.mem_append_left _ h,fun s h=>h,fun s h=>by
   rcases List.mem_append.1 h with h|h
   ·exact .inl h
   ·exact .inr (List.mem_singleton.1 h),fun s h=> .inl h⟩
 ·have hl:n<G.ow.length:=by rw[hG.ow];exact hn
  refine⟨.inr (List.getElem?_set_self hl),fun s h=>h,fun s h=>?_,fun s h=> .inl h,fun s h=>?_⟩
  ·by_cases e:s=n
   ·subst e;exact List.getElem?_set_self hl
   ·show(G.ow.set n true)[s]?=_
    rw[List.getElem?_set_ne (by omega)];exact h
  ·by_cases e:s=n
   ·exact .inr e
   ·change (G.ow.set n true)[s]?=_ at h
    rw[List.getElem?_set_ne (by omega)] at h;exact .inl h
theorem shade_keep (ok:je g) (hm:jv g long W m) (hi:jac m) (s:Int):
  jac (Jh g long m s)∧Jy g W' W' m (Jh g long m s)∧(∀ n:Nat,s=n→n<g.slots→NW (Jh g long m s) n)∧(∀ n:Nat,NW (Jh g long m s) n→NW m n∨s=n):=by
 unfold Jh
 split
 ·rename_i h
  obtain⟨n,rfl⟩: ∃ n:Nat,s=n:=⟨s.toNat,by omega⟩
  simp only[Int.toNat_natCast] at h⊢
  have hn:n<m.C.length:=jl h.2
  have hns:n<g.slots:=by rw[←hm.C];exact hn
  obtain⟨p1,p2,p3,p4,p5⟩:=put_lst ok hm.G hns
  obtain⟨m1,hm1⟩: ∃ m1,m1={m with C:=m.C.set n 1,G:=JC g long m.G n}:=⟨_,rfl⟩
  have eC:m1.C=m.C.set n 1:=by rw[hm1]
  have eG:m1.G=JC g long m.G n:=by rw[hm1]
  have eh:m1.hs=m.hs:=by rw[hm1]
  have er:m1.root=m.root:=by rw[hm1]
  rw[←hm1]
  have hself:m1.C[n]?=some 1:=by rw[eC];exact List.getElem?_set_self hn
  have hne: ∀ t,t≠n→m1.C[t]?=m.C[t]? :=fun t ht=>by rw[eC,List.getElem?_set_ne (by omega)]
  have hnw: ∀ t,NW m t→NW m1 t:=fun t ⟨c,h1,h2⟩=>by
   by_cases e:t=n
   ·rw[e];exact⟨1,hself,by decide⟩
   ·exact⟨c,by rw[hne t e];exact h1,h2⟩
  have hul: ∀ t i,Uns m t i→Uns m1 t i:=fun t i hu=>by
   rcases hu with h|h|⟨k,x,h1,h2,h3,h4⟩
   ·exact .inl (by rw[eG];exact p2 t h)
   ·exact .inr (.inl (by rw[eG];exact p3 t h))
   ·exact .inr (.inr ⟨k,x,by rw[eh];exact h1,h2,h3,h4⟩)
  have hun: ∀ i,Uns m1 n i:=fun i=>by
   rcases p1 with h|h
   ·exact .inl (by rw[eG];exact h)
   ·exact .inr (.inl (by rw[eG];exact h))
  have hll: ∀ t,Lst m t→Lst m1 t:=fun t hu=>by
   rcases hu with h|h|⟨k,x,h1,h2,h3⟩
   ·exact .inl (by rw[eG];exact p2 t h)
   ·exact .inr (.inl (by rw[eG];exact p3 t h))
   ·exact .inr (.inr ⟨k,x,by rw[eh];exact h1,h2,h3⟩)
  refine⟨⟨fun t ht=>?_,fun t ht=>?_⟩,⟨hnw,fun r t h1 h2 h3=> .inr ⟨by rw[er];exact h1,h2,h3⟩,fun t u i h1 h2=>?_,fun t u i h1 h2=> .inr ⟨hul t i h1,h2⟩⟩,fun k hk hks=>?_,fun t ht=>?_⟩
  ·by_cases e:t=n
   ·rw[e];exact(hun 0).lst
   ·rw[hne t e] at ht;exact hll t (hi.grey t ht)
  ·by_cases e:t=n
   ·rw[e];exact⟨1,hself,by decide⟩
   ·have:Lst m t:=by
     rcases ht with h|h|⟨k,x,h1,h2,h3⟩
     ·rw[eG] at h
      rcases p4 t h with h|h
      ·exact .inl h
      ·exact absurd h e
     ·rw[eG] at h
      rcases p5 t h with h|h
      ·exact .inr (.inl h)
      ·exact absurd h e
     ·exact .inr (.inr ⟨k,x,by rw[←eh];exact h1,h2,h3⟩)
    exact hnw t (hi.lst t this)
  ·refine .inr ⟨?_,h2⟩
   by_cases e:t=n
   ·rw[e];exact .inr (hun i)
   ·left;rw [hne t e];exact h1
  ·obtain rfl:n=k:=by omega
   exact⟨1,hself,by decide⟩
  ·by_cases e:t=n
   ·right;rw [e]
   ·left
    obtain⟨c,h1,h2⟩:=ht
    exact⟨c,by rw[←hne t e];exact h1,h2⟩
 ·rename_i h
  refine⟨hi,Jy.refl,fun n hn hs=>?_,fun n hn=> .inl hn⟩;subst hn;simp only[Int.toNat_natCast] at h
  rcases nw_or hm.C hs with h0|h0
  ·exact absurd ⟨by omega,h0⟩ h
  ·exact h0
theorem jgk (ok:je g) (hm:jv g long W m) (hi:jac m) (o:Option Int):
  jac (j4 g long m o)∧Jy g W' W' m (j4 g long m o)∧(∀ n:Nat,o=some ((n:Nat):Int)→n<g.slots→NW (j4 g long m o) n)∧(∀ n:Nat,NW (j4 g long m o) n→NW m n∨o=some ((n:Nat):Int)):=by
 cases o with
 |none=>exact⟨hi,Jy.refl,fun n hn=>(by cases hn),fun n hn=> .inl hn⟩
 |some s=>
  obtain⟨h1,h2,h3,h4⟩:=shade_keep (W':=W') ok hm hi s
  exact⟨h1,h2,fun n hn=>h3 n (by simpa using hn),fun n hn=>by
   rcases h4 n hn with h|h
   ·exact .inl h
   ·right;rw [h]⟩
theorem jbj {x:List Int} {s:Nat} {i to:Int} (h:refO g x (s:Nat) i=some to) (hx:Jx x):0≤to∧to<(g.slots:Nat)∧0≤i∧i<refsN x (jC g (s:Nat)):=by
 unfold refO at h
 split at h
 ·rename_i hc
  cases h
  unfold refP at hc⊢
  split at hc
  ·rename_i hf
   rw[if_pos hf]
   obtain⟨f1,_,_⟩:=jae hf
   have hr:i<refsN x (jC g (s:Nat)):=by
    unfold fldP at hf;unfold refsN
    cases hh:headP x (jC g (s:Nat)) with
    |none=>rw [hh] at hf;simp at hf
    |some h=>
     rw[hh] at hf;dsimp only at hf⊢
     split at hf
     ·rename_i h3;simpa using h3.2.2
     ·simp at hf
   split at hc
   ·simp at hc
   ·rename_i hw
    rw[if_neg hw];dsimp only at hc⊢;refine⟨hc.2,?_,f1,hr⟩
    omega
  ·rename_i hf
   exact absurd hc.1 hf
 ·cases h
theorem jdd (hW:Jb g W) {r:Nat} {to:Int} (hr:r<W.T.length+g.slots) (h:jF g W r=some to):0≤to∧to<(g.slots:Nat):=by
 unfold jF at h
 cases hT:W.T[r]? with
 |some e=>
  rw[hT] at h;dsimp only at h
  split at h
  ·rename_i he
   cases h
   exact hW.t e (List.mem_of_getElem? hT) he
  ·cases h
 |none=>
  rw[hT] at h;dsimp only at h
  split at h
  ·cases h
   have:=List.getElem?_eq_none_iff.1 hT
   omega
  ·cases h
theorem jgi (o:Option Int) (r:Nat):j4 g long {m with root:=r} o={j4 g long m o with root:=r}:=by
 cases o with
 |none=>rfl
 |some s=>show Jh g long _ s=_;unfold j4 Jh;dsimp only;split<;>rfl
structure Mic (g:PlG) (W:MwP) (m m':MaP):Prop where
 i:jac m'
 k:Jy g W W m m'
 o: ∀ P:Nat→Prop,Cls g W P→jaN P m→jaN P m'
theorem root_mic (ok:je g) (hm:jv g long W m) (hW:Jb g W) (hi:jac m) (h:rootM g long W m=some m'):Mic g W m m':=by
 unfold rootM at h
 split at h
 ·rename_i hr
  cases h
  rw[jgi]
  obtain⟨h1,h2,h3,h4⟩:=jgk (W':=W) ok hm hi (jF g W m.root)
  obtain⟨q1,q2,q3,q4⟩:=jcC (g:=g) (long:=long) (m:=m) (jF g W m.root)
  obtain⟨m1,hm1⟩: ∃ m1,m1=j4 g long m (jF g W m.root):=⟨_,rfl⟩
  rw[←hm1] at h1 h2 h3 h4 q2⊢;refine⟨⟨h1.grey,h1.lst⟩,h2.trans ⟨fun s h=>h,fun r s a b c=>?_,fun t s i a b=> .inr ⟨.inl a,b⟩,fun t s i a b=> .inr ⟨a,b⟩⟩,fun P hc ho s hs=>?_⟩
  ·by_cases e:r=m.root
   ·subst e
    have:=jdd hW b c
    exact .inl (h3 s c (by omega))
   ·right
    exact⟨by show m.root+1≤r;omega,b,c⟩
  ·rcases h4 s hs with a|a
   ·exact ho s a
   ·exact hc.root hr a
 ·cases h
theorem take_mic (hm:jv g long W m) (hW:Jb g W) (hi:jac m) {k:Nat} (hk:k<m.hs.length) (h:takeM m k=some m'):Mic g W m m':=by
 unfold takeM at h
 split at h
 ·cases h
 ·rename_i hn
  cases hq:m.G.q with
  |nil=>rw [hq] at h;cases h
  |cons s q=>
   rw[hq] at h
   cases h
   have hne: ∀ (j:Nat) (x:JQ),m.hs[j]?=some x→x.is=true→(m.hs.set k ⟨(s:Nat),0,true⟩)[j]?=some x:=fun j x h1 h2=>by
    by_cases e:j=k
    ·subst e;rw [jal h1] at hn;exact absurd h2 hn
    ·rw[List.getElem?_set_ne (by omega)];exact h1
   refine⟨⟨fun t ht=>?_,fun t ht=>?_⟩,⟨fun t h=>h,fun r t a b c=> .inr ⟨a,b,c⟩,fun t u i a b=> .inr ⟨.inl a,b⟩,fun t u i a b=> .inr ⟨?_,b⟩⟩,fun P hc ho t ht=>ho t ht⟩
   ·rcases hi.grey t ht with h|h|⟨j,x,h1,h2,h3⟩
    ·rw[hq] at h
     rcases List.mem_cons.1 h with h|h
     ·exact .inr (.inr ⟨k,_,List.getElem?_set_self hk,rfl,by rw[h]⟩)
     ·exact .inl h
    ·exact .inr (.inl h)
    ·exact .inr (.inr ⟨j,x,hne j x h1 h2,h2,h3⟩)
   ·have:Lst m t:=by
     rcases ht with h|h|⟨j,x,h1,h2,h3⟩
     ·exact .inl (by rw[hq];exact .tail _ h)
     ·exact .inr (.inl h)
     ·by_cases e:j=k
      ·subst e
       change (m.hs.set j ⟨(s:Nat),0,true⟩)[j]?=some x at h1
       rw[List.getElem?_set_self hk] at h1;cases h1
       left;rw [hq]
       have:s=t:=by dsimp only at h3;omega
       rw[this];exact .head _
      ·change (m.hs.set k ⟨(s:Nat),0,true⟩)[j]?=some x at h1
       rw[List.getElem?_set_ne (by omega)] at h1;exact .inr (.inr ⟨j,x,h1,h2,h3⟩)
    exact hi.lst t this
   ·have hi0:=(jbj b hW.w).2.2.1
    rcases a with h|h|⟨j,x,h1,h2,h3,h4⟩
    ·rw[hq] at h
     rcases List.mem_cons.1 h with h|h
     ·exact .inr (.inr ⟨k,_,List.getElem?_set_self hk,rfl,by rw[h],hi0⟩)
     ·exact .inl h
    ·exact .inr (.inl h)
    ·exact .inr (.inr ⟨j,x,hne j x h1 h2,h2,h3,h4⟩)
theorem open_same {G G1:GyP} {j:Nat} (h:openG G=some (j,G1)):G1.q=G.q∧G1.ow=G.ow:=by
 unfold openG at h
 cases hp:G.pg with
 |some k'=>rw [hp] at h;simp only[Option.some.injEq,Prod.mk.injEq] at h;obtain⟨_,rfl⟩:=h;exact⟨rfl,rfl⟩
 |none=>
  rw[hp] at h
  cases hq:G.q with
  |cons a l=>rw [hq] at h;cases h
  |nil=>
   rw[hq] at h;dsimp only at h
   cases hn:nextB G.di 0 true with
   |none=>rw [hn] at h;cases h
   |some k'=>rw [hn] at h;simp only[Option.some.injEq,Prod.mk.injEq] at h;obtain⟨_,rfl⟩:=h;exact⟨hq.symm▸rfl,rfl⟩
theorem walk_mic (ok:je g) (hm:jv g long W m) (hW:Jb g W) (hi:jac m) {k:Nat} (hk:k<m.hs.length) (h:walkM g m k=some m'):Mic g W m m':=by
 unfold walkM at h
 split at h
 ·cases h
 ·rename_i hn
  unfold walkG at h
  cases hop:openG m.G with
  |none=>rw [hop] at h;cases h
  |some x=>
   obtain⟨j,G1⟩:=x
   rw[hop] at h
   obtain⟨k1,k2,k3⟩:=jdf ok hm.G hop
   obtain⟨s1,s2⟩:=open_same hop
   obtain⟨h1,h2⟩:=k1.pg j k2
   obtain⟨b1,b2,b3⟩:=jb3 ok h1
   simp only[Option.map_some] at h
   have hsl:g.fp j+G1.at_<g.slots:=by omega
   obtain⟨n,hnn⟩: ∃ n,n=g.fp j+G1.at_:=⟨_,rfl⟩
   have hol:n<m.G.ow.length:=by rw[hm.G.ow];omega
   have eq2:(walk1 g j G1).2.q=m.G.q:=by rw[←s1];rfl
   have eo2:(walk1 g j G1).2.ow=m.G.ow.set n false:=by rw[←s2,hnn];rfl
   have e1:(walk1 g j G1).1=if (m.G.ow[n]?).getD false then some n else none:=by rw[←s2,hnn];rfl
   obtain⟨r,hr⟩: ∃ r,r=walk1 g j G1:=⟨_,rfl⟩
   rw[←hr] at h eq2 eo2 e1
   obtain⟨o,G2⟩:=r
   dsimp only at eq2 eo2 e1
   have how: ∀ t:Nat,t≠n→G2.ow[t]?=m.G.ow[t]? :=fun t ht=>by rw[eo2,List.getElem?_set_ne (by omega)]
   have hon:G2.ow[n]?=some false:=by rw[eo2];exact List.getElem?_set_self hol
   cases ho:(m.G.ow[n]?).getD false with
   |false=>
    rw[ho] at e1;simp only[Bool.false_eq_true,if_false] at e1;subst e1
    cases h
    have hnt: ∀ t:Nat,m.G.ow[t]?=some true→G2.ow[t]?=some true:=fun t ht=>by
     by_cases e:t=n
     ·subst e;rw [ht] at ho;cases ho
     ·rw[how t e];exact ht
    have hnf: ∀ t:Nat,G2.ow[t]?=some true→m.G.ow[t]?=some true:=fun t ht=>by
     by_cases e:t=n
     ·subst e;rw [hon] at ht;cases ht
     ·rw[←how t e];exact ht
    refine⟨⟨fun t ht=>?_,fun t ht=>?_⟩,⟨fun t h=>h,fun r t a b c=> .inr ⟨a,b,c⟩,fun t u i a b=> .inr ⟨.inl a,b⟩,fun t u i a b=> .inr ⟨?_,b⟩⟩,fun P hc ho t ht=>ho t ht⟩
    ·rcases hi.grey t ht with h|h|h
     ·exact zdf
     ·exact .inr (.inl (hnt t h))
     ·exact .inr (.inr h)
    ·refine hi.lst t ?_
     rcases ht with h|h|h
     ·exact .inl (by change t∈G2.q at h;rw [eq2] at h;exact h)
     ·exact .inr (.inl (hnf t h))
     ·exact .inr (.inr h)
    ·rcases a with h|h|h
     ·exact zdf
     ·exact .inr (.inl (hnt t h))
     ·exact .inr (.inr h)
   |true=>
    rw[ho] at e1;simp only[if_true] at e1;subst e1
    cases h
    have hon2:m.G.ow[n]?=some true:=by rw[List.getElem?_eq_getElem hol] at ho⊢;simpa using ho
    have hne: ∀ (j:Nat) (x:JQ),m.hs[j]?=some x→x.is=true→(m.hs.set k ⟨(n:Nat),0,true⟩)[j]?=some x:=fun j x h1 h2=>by
     by_cases e:j=k
     ·subst e;rw [jal h1] at hn;exact absurd h2 hn
     ·rw[List.getElem?_set_ne (by omega)];exact h1
    refine⟨⟨fun t ht=>?_,fun t ht=>?_⟩,⟨fun t h=>h,fun r t a b c=> .inr ⟨a,b,c⟩,fun t u i a b=> .inr ⟨.inl a,b⟩,fun t u i a b=> .inr ⟨?_,b⟩⟩,fun P hc ho t ht=>ho t ht⟩
    ·rcases hi.grey t ht with h|h|⟨j,x,h1,h2,h3⟩
     ·exact zdf
     ·by_cases e:t=n
      ·exact .inr (.inr ⟨k,_,List.getElem?_set_self hk,rfl,by rw[e]⟩)
      ·exact .inr (.inl (by show G2.ow[t]?=_;rw [how t e];exact h))
     ·exact .inr (.inr ⟨j,x,hne j x h1 h2,h2,h3⟩)
    ·refine hi.lst t ?_
     rcases ht with h|h|⟨j,x,h1,h2,h3⟩
     ·exact .inl (by change t∈G2.q at h;rw [eq2] at h;exact h)
     ·by_cases e:t=n
      ·change G2.ow[t]?=_ at h
       rw[e,hon] at h;cases h
      ·change G2.ow[t]?=_ at h
       rw[how t e] at h;exact .inr (.inl h)
     ·by_cases e:j=k
      ·subst e
       change (m.hs.set j ⟨(n:Nat),0,true⟩)[j]?=some x at h1
       rw[List.getElem?_set_self hk] at h1;cases h1
       have:n=t:=by dsimp only at h3;omega
       rw[←this];exact .inr (.inl hon2)
      ·change (m.hs.set k ⟨(n:Nat),0,true⟩)[j]?=some x at h1
       rw[List.getElem?_set_ne (by omega)] at h1;exact .inr (.inr ⟨j,x,h1,h2,h3⟩)
    ·have hi0:=(jbj b hW.w).2.2.1
     rcases a with h|h|⟨j,x,h1,h2,h3,h4⟩
     ·exact zdf
     ·by_cases e:t=n
      ·exact .inr (.inr ⟨k,_,List.getElem?_set_self hk,rfl,by rw[e],hi0⟩)
      ·exact .inr (.inl (by show G2.ow[t]?=_;rw [how t e];exact h))
     ·exact .inr (.inr ⟨j,x,hne j x h1 h2,h2,h3,h4⟩)
theorem scan_mic (ok:je g) (hm:jv g long W m) (hW:Jb g W) (hi:jac m) {k:Nat} (hk:k<m.hs.length) (h:scanM g long W m k=some m'):Mic g W m m':=by
 unfold scanM at h
 split at h
 ·rename_i hn
  obtain⟨hd,hhd⟩:=jn hk
  rw[jal hhd] at h hn
  rcases hm.h k hd hhd with⟨e1,e2,e3,e4,e5⟩|e
  ·obtain⟨s,hs⟩: ∃ s:Nat,hd.slot=s:=⟨hd.slot.toNat,by omega⟩
   rw[hs] at e3 e5 h
   have hsl:s<g.slots:=by omega
   have hls:Lst m s:= .inr (.inr ⟨k,hd,hhd,hn,hs⟩)
   obtain⟨o,ho⟩: ∃ o,o=refO g W.x (s:Nat) hd.field:=⟨_,rfl⟩
   rw[←ho] at h
   obtain⟨h1,h2,h3,h4⟩:=jgk (W':=W) ok hm hi o
   obtain⟨q1,q2,q3,q4⟩:=jcC (g:=g) (long:=long) (m:=m) o
   have hlen:=(jdZ ok hm o).C
   obtain⟨m1,hm1⟩: ∃ m1,m1=j4 g long m o:=⟨_,rfl⟩
   rw[←hm1] at h h1 h2 h3 h4 q1 q2 q3 q4 hlen
   have hk1:k<m1.hs.length:=by rw[q1];exact hk
   have hhd1:m1.hs[k]?=some hd:=by rw[q1];exact hhd
   have hls1:Lst m1 s:= .inr (.inr ⟨k,hd,hhd1,hn,hs⟩)
   have hnw1:=h1.lst s hls1
   have hon: ∀ P:Nat→Prop,Cls g W P→ ∀ n:Nat,NW m1 n→jaN P m→P n:=fun P hc n hnn hr=>by
    rcases h4 n hnn with a|a
    ·exact hr n a
    ·rw[ho] at a;exact hc.edge (hr s (hi.lst s hls)) a
   have hto: ∀ u:Nat,refO g W.x (s:Nat) hd.field=some (u:Nat)→NW m1 u:=fun u hu=>by
    have:=jbj hu hW.w
    exact h3 u (ho.trans hu) (by omega)
   have hne: ∀ (x:JQ) (j:Nat) (y:JQ),j≠k→m1.hs[j]?=some y→(m1.hs.set k x)[j]?=some y:=fun x j y h1 h2=>by
    rw[List.getElem?_set_ne (by omega)];exact h2
   split at h
   ·rename_i hlt
    cases h
    rw[←q1] at*;refine⟨⟨fun t ht=>?_,fun t ht=>?_⟩,h2.trans ⟨fun t h=>h,fun r t a b c=> .inr ⟨a,b,c⟩,fun t u i a b=> .inr ⟨.inl a,b⟩,fun t u i a b=>?_⟩,fun P hc hr t ht=>hon P hc t ht hr⟩
    ·rcases h1.grey t ht with h|h|⟨j,x,p1,p2,p3⟩
     ·exact .inl h
     ·exact .inr (.inl h)
     ·by_cases e:j=k
      ·subst e;rw[hhd1] at p1;cases p1;exact .inr (.inr ⟨j,_,List.getElem?_set_self hk1,rfl,hs.symm.trans p3⟩)
      ·exact .inr (.inr ⟨j,x,hne _ j x e p1,p2,p3⟩)
    ·refine h1.lst t ?_
     rcases ht with h|h|⟨j,x,p1,p2,p3⟩
     ·exact .inl h
     ·exact .inr (.inl h)
     ·by_cases e:j=k
      ·subst e
       change (m1.hs.set j _)[j]?=some x at p1
       rw[List.getElem?_set_self hk1] at p1;cases p1;exact .inr (.inr ⟨j,hd,hhd1,hn,hs.trans p3⟩)
      ·change (m1.hs.set k _)[j]?=some x at p1
       rw[List.getElem?_set_ne (by omega)] at p1;exact .inr (.inr ⟨j,x,p1,p2,p3⟩)
    ·rcases a with h|h|⟨j,x,p1,p2,p3,p4⟩
     ·exact .inr ⟨.inl h,b⟩
     ·exact .inr ⟨.inr (.inl h),b⟩
     ·by_cases e:j=k
      ·subst e;rw[hhd1] at p1;cases p1
       have hst:s=t:=by omega
       subst hst
       by_cases hf:i=hd.field
       ·left;subst hf;exact hto u b
       ·right
        exact⟨.inr (.inr ⟨j,_,List.getElem?_set_self hk1,rfl,rfl,by show hd.field+1≤i;omega⟩),b⟩
      ·exact .inr ⟨.inr (.inr ⟨j,x,hne _ j x e p1,p2,p3,p4⟩),b⟩
   ·rename_i hge
    cases h
    rw[←q1] at*;simp only[Int.toNat_natCast] at*
    have hcs:s<m1.C.length:=by rw[hlen];exact hsl
    have hset: ∀ t,NW m1 t→NW {m1 with hs:=m1.hs.set k jS,C:=m1.C.set s 2} t:=fun t ⟨c,a,b⟩=>by
     by_cases e:t=s
     ·subst e;exact⟨2,List.getElem?_set_self hcs,by decide⟩
     ·exact⟨c,by show(m1.C.set s 2)[t]?=_;rw [List.getElem?_set_ne (by omega)];exact a,b⟩
    have hback: ∀ t,NW {m1 with hs:=m1.hs.set k jS,C:=m1.C.set s 2} t→NW m1 t:=fun t ⟨c,a,b⟩=>by
     by_cases e:t=s
     ·subst e;exact hnw1
     ·change (m1.C.set s 2)[t]?=_ at a
      rw[List.getElem?_set_ne (by omega)] at a;exact⟨c,a,b⟩
    refine⟨⟨fun t ht=>?_,fun t ht=>?_⟩,h2.trans ⟨hset,fun r t a b c=> .inr ⟨a,b,c⟩,fun t u i a b=>?_,fun t u i a b=>?_⟩,fun P hc hr t ht=>hon P hc t (hback t ht) hr⟩
    ·by_cases e:t=s
     ·subst e
      change (m1.C.set t 2)[t]?=_ at ht
      rw[List.getElem?_set_self hcs] at ht;cases ht
     ·change (m1.C.set s 2)[t]?=_ at ht
      rw[List.getElem?_set_ne (by omega)] at ht
      rcases h1.grey t ht with h|h|⟨j,x,p1,p2,p3⟩
      ·exact .inl h
      ·exact .inr (.inl h)
      ·by_cases e2:j=k
       ·subst e2;rw[hhd1] at p1;cases p1
        exfalso;omega
       ·exact .inr (.inr ⟨j,x,hne _ j x e2 p1,p2,p3⟩)
    ·refine hset t (h1.lst t ?_)
     rcases ht with h|h|⟨j,x,p1,p2,p3⟩
     ·exact .inl h
     ·exact .inr (.inl h)
     ·by_cases e:j=k
      ·subst e
       change (m1.hs.set j _)[j]?=some x at p1
       rw[List.getElem?_set_self hk1] at p1;cases p1
       cases p2
      ·change (m1.hs.set k _)[j]?=some x at p1
       rw[List.getElem?_set_ne (by omega)] at p1;exact .inr (.inr ⟨j,x,p1,p2,p3⟩)
    ·right
     refine⟨.inl ?_,b⟩
     have hts:t≠s:=by rintro rfl;exact hnw1.not a
     show(m1.C.set s 2)[t]?=_
     rw[List.getElem?_set_ne (by omega)];exact a
    ·rcases a with h|h|⟨j,x,p1,p2,p3,p4⟩
     ·exact .inr ⟨.inl h,b⟩
     ·exact .inr ⟨.inr (.inl h),b⟩
     ·by_cases e:j=k
      ·subst e;rw[hhd1] at p1;cases p1
       have hst:s=t:=by omega
       subst hst
       left
       have hrf:=jbj b hW.w
       have hf:i=hd.field:=by omega
       subst hf;exact hset u (hto u b)
      ·exact .inr ⟨.inr (.inr ⟨j,x,hne _ j x e p1,p2,p3,p4⟩),b⟩
  ·rw[e] at hn;cases hn
 ·cases h
theorem up_mic (h:Mic g W m m'):Mic g W m (upM m'):=⟨⟨h.i.grey,h.i.lst⟩,⟨h.k.nw,h.k.rt,h.k.wt,h.k.fd⟩,h.o⟩
theorem jef (ok:je g) (hm:jv g long W m) (hW:Jb g W) (hi:jac m) {k u:Int} (h:stepM g long W m k u=some m'):Mic g W m m':=by
 unfold stepM at h
 split at h
 ·rename_i hc
  cases hu:Jc g long W m k.toNat u with
  |none=>rw [hu] at h;cases h
  |some m1=>
   rw[hu] at h;simp only[Option.map_some,Option.some.injEq] at h;subst h;refine up_mic ?_
   have hk:k.toNat<m.hs.length:=by omega
   unfold Jc at hu
   split at hu
   ·exact root_mic ok hm hW hi hu
   ·split at hu
    ·exact take_mic hm hW hi hk hu
    ·split at hu
     ·exact scan_mic ok hm hW hi hk hu
     ·split at hu
      ·exact walk_mic ok hm hW hi hk hu
      ·cases hu
 ·cases h
theorem jhe (h:fullM m=none) {k:Nat} {x:JQ} (hx:m.hs[k]?=some x):x.is=false:=by
 unfold fullM at h;rw[List.find?_eq_none] at h
 have:=h k (List.mem_range.2 (jl hx))
 rw[jal hx] at this
 simpa using this
theorem jgK {l:List Bool}:l.count true=0↔ ∀ k:Nat,l[k]?≠some true:=by
 rw[List.count_eq_zero]
 constructor
 ·intro h k hk;exact h (List.mem_of_getElem? hk)
 ·intro h hm
  obtain⟨k,hk⟩:=List.getElem?_of_mem hm
  exact h k hk
theorem done_lst (h:Jl g W m=true) (s:Nat): ¬Lst m s:=by
 unfold Jl JU at h;simp only[Bool.and_eq_true,Option.isNone_iff_eq_none,decide_eq_true_eq,List.isEmpty_iff] at h
 obtain⟨_,h1,h2,h3,h4,h5⟩:=h
 rintro(a|a|⟨k,x,a,b,c⟩)
 ·rw[h3] at a;cases a
 ·exact jgK.1 h4 s a
 ·rw[jhe h1 a] at b;cases b
theorem done_prot (h:Jl g W m=true) {s:Nat} (hp:Prot g W m s):NW m s:=by
 have hr:W.T.length+g.slots≤m.root:=by
  unfold Jl at h;simp only[Bool.and_eq_true,decide_eq_true_eq] at h;exact h.2.2.1
 induction hp with
 |col h=>exact h
 |root a b c=>omega
 |wht a b c ih=>exact absurd b ih.not
 |fld a b=>exact absurd a.lst (done_lst h _)
theorem help_done (ok:je g) (hm:jv g long W m) (ha:m.act=true) (h:Jq g long W m=none):Jl g W m=true:=by
 have hlen:=hm.hs
 unfold Jq at h
 cases hf:fullM m with
 |some k=>
  rw[hf] at h;dsimp only at h
  have hk:k<m.hs.length∧(JH m k).is=true:=by
   unfold fullM at hf
   have h1:=List.mem_of_find?_eq_some hf
   have h2:=List.find?_some hf
   exact⟨List.mem_range.1 h1,h2⟩
  unfold stepM at h;rw[if_pos ⟨ha,by omega,by omega⟩] at h;simp only[Int.toNat_natCast,Option.map_eq_none_iff] at h;unfold Jc at h;rw[if_neg (by decide),if_neg (by decide),if_pos rfl] at h;unfold scanM at h;rw[if_pos hk.2] at h
  split at h<;>cases h
 |none=>
  rw[hf] at h;dsimp only at h
  have hlast:(JH m (m.hs.length-1)).is=false:=by
   obtain⟨x,hx⟩:=jn (l:=m.hs) (k:=m.hs.length-1) (by omega)
   rw[jal hx];exact jhe hf hx
  split at h
  ·cases h
  ·rename_i h2
   split at h
   ·cases h
   ·rename_i h1
    unfold stepM at h h1 h2;rw[if_pos ⟨ha,by omega,by omega⟩] at h h1 h2;simp only[Int.toNat_natCast,Option.map_eq_none_iff] at h h1 h2;unfold Jc at h h1 h2;rw[if_neg (by decide),if_pos rfl] at h2;rw[if_pos rfl] at h1;rw[if_neg (by decide),if_neg (by decide),if_neg (by decide),if_pos rfl] at h
    have hq:m.G.q=[]:=by
     unfold takeM at h2;rw[if_neg (by rw[hlast];decide)] at h2
     cases hq:m.G.q with
     |nil=>rfl
     |cons a l=>rw [hq] at h2;cases h2
    have hr:W.T.length+g.slots≤m.root:=by
     unfold rootM at h1
     split at h1
     ·cases h1
     ·omega
    have hw:openG m.G=none:=by
     unfold walkM at h;rw[if_neg (by rw[hlast];decide)] at h;unfold walkG at h
     cases ho:openG m.G with
     |none=>rfl
     |some x=>
      obtain⟨j,G1⟩:=x
      rw[ho] at h;simp only[Option.map_some] at h
      split at h<;>rename_i e<;>cases h<;>cases e
    have hpg:m.G.pg=none:=by
     unfold openG at hw
     cases hp:m.G.pg with
     |none=>rfl
     |some k=>rw [hp] at hw;cases hw
    have hdi:nextB m.G.di 0 true=none:=by
     unfold openG at hw;rw[hpg,hq] at hw;dsimp only at hw
     cases hn:nextB m.G.di 0 true with
     |none=>rfl
     |some k=>rw [hn] at hw;cases hw
    have how:m.G.ow.count true=0:=jgK.2 fun s hs=>by
     rcases hm.G.od s hs with hd|⟨k,hk,_⟩
     ·unfold nextB at hdi;rw[List.find?_eq_none] at hdi
      have:=hdi (g.pgOf s) (List.mem_range.2 (jl hd))
      rw[hd] at this
      simp at this
     ·rw[hpg] at hk;cases hk
    unfold Jl JU;rw[ha,hf,hq,how,hpg,decide_eq_true hr]
    rfl
theorem new_in {nw:Nat} {act:Bool}:jac (JM g nw act):=by
 refine⟨fun s hs=>?_,fun s hs=>?_⟩
 ·simp only[JM,List.getElem?_replicate] at hs
  split at hs<;>simp at hs
 ·rcases hs with h|h|⟨k,x,h1,h2,h3⟩
  ·cases h
  ·simp only[JM,nilG,List.getElem?_replicate] at h
   split at h<;>simp at h
  ·simp only[JM,List.getElem?_replicate] at h1
   split at h1
   ·cases h1;cases h2
   ·cases h1
theorem new_only {nw:Nat} {act:Bool} {P:Nat→Prop}:jaN P (JM g nw act):=fun s ⟨c,h1,h2⟩=>by
 simp only[JM,List.getElem?_replicate] at h1
 split at h1
 ·simp at h1;exact absurd h1.symm h2
 ·cases h1
theorem rch_in (hW:Jb g W) {s:Nat} (h:RchM g W s):s<g.slots:=by
 induction h with
 |root h1 h2=>have:=jdd hW h1 h2;omega
 |edge h1 h2 ih=>have:=jbj h2 hW.w;omega
theorem new_prot {nw:Nat} {act:Bool} (hW:Jb g W) {s:Nat} (h:RchM g W s):Prot g W (JM g nw act) s:=by
 induction h with
 |root h1 h2=>exact .root (Nat.zero_le _) h1 h2
 |edge h1 h2 ih=>exact .wht ih (by simp only[JM,List.getElem?_replicate];rw [if_pos (rch_in hW h1)]) h2
theorem jcf (h1:W'.T.length=W.T.length) (h2: ∀ r s:Nat,jF g W r=some (s:Nat)→NW m s∨jF g W' r=some (s:Nat)) (h3: ∀ (t s:Nat) (i:Int),refO g W.x (t:Nat) i=some (s:Nat)→NW m s∨refO g W'.x (t:Nat) i=some (s:Nat)):Jy g W W' m m:=by
 refine⟨fun s h=>h,fun r s a b c=>?_,fun t s i a b=>?_,fun t s i a b=>?_⟩
 ·rcases h2 r s c with h|h
  ·exact .inl h
  ·exact .inr ⟨a,by rw[h1];exact b,h⟩
 ·rcases h3 t s i b with h|h
  ·exact .inl h
  ·exact .inr ⟨.inl a,h⟩
 ·rcases h3 t s i b with h|h
  ·exact .inl h
  ·exact .inr ⟨a,h⟩
end
open Go.RowKit
set_option maxRecDepth 10000
inductive Goes (g:PlG) (long:Nat) (W:MwP) (m:MaP):MaP→Prop
 |refl:Goes g long W m m
 |step {m1 m2:MaP} {k u:Int}:Goes g long W m m1→stepM g long W m1 k u=some m2→Goes g long W m m2
section
variable {g : PlG} {long : Nat} {W W' : MwP} {m m' m'' : MaP}
theorem Goes.trans (h:Goes g long W m m') (h':Goes g long W m' m''):Goes g long W m m'':=by
 induction h' with
 |refl=>exact h
 |step _ h2 ih=>exact .step ih h2
end
set_option maxRecDepth 10000
def JJ (l:List Int) (s:Nat):List Int:=if (l[s]?).getD 0<255 then l.set s ((l[s]?).getD 0+1) else l
def JO (l:List Int) (s:Nat):List Int:=if 0<(l[s]?).getD 0 then l.set s ((l[s]?).getD 0-1) else l
theorem pinP_len {l:List Int} {s:Nat}:(JJ l s).length=l.length:=by unfold JJ;split<;>simp
theorem jgt {l:List Int} {s:Nat}:(JO l s).length=l.length:=by unfold JO;split<;>simp
theorem pinP_in {l:List Int} {s:Nat} (h: ∀ v∈l,0≤v∧v≤255): ∀ v∈JJ l s,0≤v∧v≤255:=by
 unfold JJ
 split
 ·rename_i hc
  intro v hv
  rcases List.mem_or_eq_of_mem_set hv with h1|rfl
  ·exact h v h1
  ·cases hx:l[s]? with
   |none=>simp
   |some w=>have:=h w (List.mem_of_getElem? hx);rw [hx] at hc;simp at hc⊢;omega
 ·exact h
theorem unpinP_in {l:List Int} {s:Nat} (h: ∀ v∈l,0≤v∧v≤255): ∀ v∈JO l s,0≤v∧v≤255:=by
 unfold JO
 split
 ·rename_i hc
  intro v hv
  rcases List.mem_or_eq_of_mem_set hv with h1|rfl
  ·exact h v h1
  ·cases hx:l[s]? with
   |none=>rw [hx] at hc;simp at hc
   |some w=>have:=h w (List.mem_of_getElem? hx);rw [hx] at hc;simp at hc⊢;omega
 ·exact h
theorem pinP_pos {l:List Int} {s k:Nat} (h:0<(l[k]?).getD 0):0<((JJ l s)[k]?).getD 0:=by
 unfold JJ
 split
 ·by_cases e:k=s
  ·subst e
   have hl:k<l.length:=by
    rcases Nat.lt_or_ge k l.length with h1|h1
    ·exact h1
    ·rw[List.getElem?_eq_none h1] at h;simp at h
   rw[List.getElem?_set_self hl];simp;omega
  ·rw[List.getElem?_set_ne (by omega)];exact h
 ·exact h
theorem jgS {l:List Int} {s k:Nat} (e:k≠s):(JO l s)[k]?=l[k]? :=by
 unfold JO
 split
 ·rw[List.getElem?_set_ne (by omega)]
 ·rfl
def jao (T:List jj):Option Nat:=T.findIdx? fun e=>decide (e.st=0)
def genA (T:List jj) (i:Nat):Int:=((T[i]?).map (·.gen)).getD 0
def jZ (T:List jj) (s:Int):List jj:=match jao T with
 |some i=>T.set i ⟨1,s,genA T i⟩
 |none=>T
def mintV (T:List jj):Int × Int × Int:=match jao T with
 |some i=>((i:Nat),genA T i,0)
 |none=>(0,0,131)
def slotT (T:List jj) (i:Int):Option Int:=if 0≤i then(match T[i.toNat]? with
 |some e=>if e.st=1 then some e.slot else none
 |none=>none) else none
theorem jam {T:List jj} {i:Nat} {e:jj} (h:T[i]?=some e) (e':jj) (s:Int):j6 s (T.set i e')+(if e.st=s then 1 else 0)=j6 s T+(if e'.st=s then 1 else 0):=by
 unfold j6
 induction T generalizing i with
 |nil=>simp at h
 |cons x T ih=>
  cases i with
  |zero=>simp at h;subst h;simp[List.countP_cons];split<;>split<;>omega
  |succ i=>
   simp at h
   have:=ih h
   simp only[List.set_cons_succ,List.countP_cons]
   omega
theorem jb4 (s:Int) (T:List jj):j6 s T≤T.length:=List.countP_le_length
theorem jeG {T:List jj} {i:Nat} {e:jj} (h:T[i]?=some e):1≤j6 e.st T:=by
 unfold j6;rw[Nat.one_le_iff_ne_zero,←Nat.pos_iff_ne_zero,List.countP_pos_iff];exact⟨e,List.mem_of_getElem? h,by simp⟩
theorem jc9 {T:List jj} {i:Nat} (h:jao T=some i):(∃ e,T[i]?=some e∧e.st=0)∧ ∀ (j:Nat) (e:jj),j<i→T[j]?=some e→e.st≠0:=by
 unfold jao at h;rw[List.findIdx?_eq_some_iff_getElem] at h
 obtain⟨hl,h1,h2⟩:=h
 refine⟨⟨T[i],List.getElem?_eq_getElem hl,by simpa using h1⟩,fun j e hj he=>?_⟩
 have:=h2 j hj
 rw[List.getElem?_eq_getElem (by omega)] at he
 cases he
 simpa using this
theorem freeT_none {T:List jj} (h:jao T=none): ∀ (j:Nat) (e:jj),T[j]?=some e→e.st≠0:=by
 unfold jao at h;rw[List.findIdx?_eq_none_iff] at h;intro j e he
 have:=h e (List.mem_of_getElem? he)
 simpa using this
theorem freeT_is {T:List jj} {i:Nat} {e:jj} (h1:T[i]?=some e) (h2:e.st=0) (h3: ∀ (j:Nat) (e:jj),j<i→T[j]?=some e→e.st≠0):jao T=some i:=by
 cases hf:jao T with
 |none=>exact absurd h2 (freeT_none hf i e h1)
 |some j=>
  obtain⟨⟨e',g1,g2⟩,g3⟩:=jc9 hf
  rcases Nat.lt_trichotomy i j with h|h|h
  ·exact absurd h2 (g3 i e h h1)
  ·rw[h]
  ·exact absurd g2 (h3 j e' h g1)
theorem freeT_no {T:List jj} (h3: ∀ (j:Nat) (e:jj),T[j]?=some e→e.st≠0):jao T=none:=by
 cases hf:jao T with
 |none=>rfl
 |some j=>
  obtain⟨⟨e',g1,g2⟩,g3⟩:=jc9 hf
  exact absurd g2 (h3 j e' g1)
theorem jeD {T:List jj} {i:Nat} {e:jj} (h:T[i]?=some e):genA T i=e.gen:=by unfold genA;rw [h];rfl
theorem jaX {T:List jj} {s:Int}:(jZ T s).length=T.length:=by unfold jZ;split<;>simp
def Jt (T:List jj) (i:Int):List jj:=if 0≤i then(match T[i.toNat]? with
 |some e=>if e.st=1 then T.set i.toNat {e with st:=2} else T
 |none=>T) else T
theorem jbR {T:List jj} {i:Int}:(Jt T i).length=T.length:=by
 unfold Jt
 split
 ·split
  ·split<;>simp
  ·rfl
 ·rfl
structure jbL where
 w:Nat
 s:Int
 i:Int
 t:Int
 r:Int
 u:Nat
def hdM (y:ju) (r:Int):HdP:=⟨((y.cls:Nat):Int),min (max r 0) (((y.size:Nat):Int)-1),0⟩
def inS (g:PlG) (s:Int):Prop:=0≤s∧s<((g.slots:Nat):Int)
instance {g:PlG} {s:Int}:Decidable (inS g s):=by unfold inS;exact inferInstance
def jU (g:PlG) (long:Nat) (m:MaP) (s:Int):MaP:=if inS g s then jaF g long m s else m
def oldS (g:PlG) (W:MwP) (a:jbL):Int × Int:=refP W.x g.slots (jC g a.s) a.i
def JD (g:PlG) (W:MwP) (a:jbL):MwP:=
 if a.w%10<2 then(if inS g a.s then{W with x:=(jW W.x (jC g a.s) (hdM (jC g a.s) a.r)).2} else W)
 else if a.w%10<4 then(if inS g a.s∧(oldS g W a).2=0 then{W with x:=(j7 W.x g.slots (jC g a.s) a.i a.t).2} else W)
 else if a.w%10=4 then(if inS g a.s then{W with T:=jZ W.T a.s} else W)
 else if a.w%10=5 then{W with T:=Jt W.T a.i}
 else if a.w%10=6 then(if inS g a.s then{W with N:=JJ W.N a.s.toNat} else W)
 else if a.w%10=7 then(if inS g a.s then{W with N:=JO W.N a.s.toNat} else W)
 else W
def jab (g:PlG) (long:Nat) (W:MwP) (m:MaP) (a:jbL):MaP:=
 if a.w%10<2 then m
 else if a.w%10<4 then(if inS g a.s∧(oldS g W a).2=0 then jU g long (jU g long m (oldS g W a).1) a.t else m)
 else if a.w%10=5 then(match slotT W.T a.i with
  |some s=>jU g long m s
  |none=>m)
 else if a.w%10<8 then jU g long m a.s
 else if a.w%10=8 then(stepM g long W m a.i (a.u:Nat)).getD m
 else(Jq g long W m).getD m
def jap (g:PlG) (x:List Int):Prop:= ∀ (s:Nat) (y:ju),g.L[s]?=some y→ ∀ j,1≤j→j<y.size→wAt x (y.addr+j)≤((g.slots:Nat):Int)
section
variable {g : PlG} {long : Nat} {W W' : MwP} {m m' : MaP} {a : jbL} {x x' : List Int}
theorem jax {a b:Nat} {v:Int} (h:a≠b):wAt (x.set a v) b=wAt x b:=by unfold wAt;rw [List.getElem?_set_ne h]
theorem jfl {a:Nat} {v:Int} (h:a<x.length):wAt (x.set a v) a=v:=by unfold wAt;rw [List.getElem?_set_self h];rfl
theorem jaY {p:ju} {a:Nat} (hl:p.addr+p.size≤x.length):wAt (Jo x p) a=if p.addr≤a∧a<p.addr+p.size then 0 else wAt x a:=by
 unfold wAt Jo cleared
 by_cases h1:a<p.addr
 ·rw[if_neg (by omega),List.append_assoc,List.getElem?_append_left (by simp;omega),List.getElem?_take_of_lt h1]
 ·by_cases h2:a<p.addr+p.size
  ·rw[if_pos (by omega),List.append_assoc,List.getElem?_append_right (by simp;omega),List.getElem?_append_left (by simp;omega),List.getElem?_replicate]
   split<;>rfl
  ·rw[if_neg (by omega),List.getElem?_append_right (by simp;omega),List.getElem?_drop]
   congr 2
   simp;omega
theorem jeV {p:ju} (h:wAt x' p.addr=wAt x p.addr):headP x' p=headP x p:=by unfold headP;rw [h]
theorem jcF {p:ju} {ref:Bool} {i:Int} (h:wAt x' p.addr=wAt x p.addr):fldP x' p ref i=fldP x p ref i:=by unfold fldP;rw [jeV h]
theorem jgz {p:ju} (h:wAt x' p.addr=wAt x p.addr):refsN x' p=refsN x p:=by unfold refsN;rw [jeV h]
theorem jcS (h:inS g a.s): ∃ (s:Nat) (y:ju),a.s=(s:Nat)∧g.L[s]?=some y∧jC g a.s=y:=by
 unfold inS at h
 obtain⟨y,hy⟩:=Jg (g:=g) (i:=a.s.toNat) (by omega)
 refine⟨a.s.toNat,y,by omega,hy,?_⟩
 have:=JF hy
 rwa[show((a.s.toNat:Nat):Int)=a.s by omega] at this
theorem jhb (ok:je g) (hx:x.length=g.words) {s:Nat} {y:ju} (hy:g.L[s]?=some y) (h:HdP) {t:Nat} (ht:t<g.slots) (hp:0<refsN x (jC g (t:Nat))):
  refsN (jW x y h).2 (jC g (t:Nat))=refsN x (jC g (t:Nat)):=by
 obtain⟨z,hz⟩:=Jg ht
 rw[JF hz] at hp⊢
 have f1:=ok.fits hy
 have f2:=ok.fits hz
 unfold jW
 split
 ·split
  ·rfl
  ·rename_i hn
   by_cases e:s=t
   ·subst e;rw[hy] at hz;cases hz
    exfalso
    unfold refsN at hp
    cases hh:headP x y with
    |none=>rw [hh] at hp;simp at hp
    |some h=>rw [hh] at hn;simp at hn
   ·have:=ok.apart hy hz e
    refine jgz ?_;dsimp only;rw[jax (by omega),jaY (by omega),if_neg (by omega)]
 ·rfl
theorem set_refs (ok:je g) {s:Nat} {y:ju} (hy:g.L[s]?=some y) {i v:Int} {t:Nat} (ht:t<g.slots):refsN (j7 x g.slots y i v).2 (jC g (t:Nat))=refsN x (jC g (t:Nat)):=by
 obtain⟨z,hz⟩:=Jg ht
 rw[JF hz]
 have f1:=ok.fits hy
 have f2:=ok.fits hz
 unfold j7
 split
 ·rfl
 ·split
  ·rename_i e
   have:=jae e
   refine jgz ?_
   by_cases e2:s=t
   ·subst e2;rw[hy] at hz;cases hz;exact jax (by omega)
   ·have:=ok.apart hy hz e2
    exact jax (by omega)
  ·rfl
theorem jv.world (hm:jv g long W m) (hT:W'.T.length=W.T.length) (hr: ∀ t:Nat,t<g.slots→0<refsN W.x (jC g (t:Nat))→refsN W'.x (jC g (t:Nat))=refsN W.x (jC g (t:Nat))):jv g long W' m:=by
 refine⟨hm.C,hm.c,hm.G,hm.hs,fun k h hk=>?_,by rw[hT];exact hm.root⟩
 rcases hm.h k h hk with⟨e1,e2,e3,e4,e5⟩|e
 ·left
  refine⟨e1,e2,e3,e4,?_⟩
  rcases e5 with e5|e5
  ·exact .inl e5
  ·right
   obtain⟨n,hn⟩: ∃ n:Nat,h.slot=n:=⟨h.slot.toNat,by omega⟩
   rw[hn] at e5 e3⊢;rw[hr n (by omega) (by omega)];exact e5
 ·exact .inr e
theorem jev (ok:je g) (hm:jv g long W m) (s:Int):jv g long W (jU g long m s):=by
 unfold jU jaF
 split
 ·split
  ·exact shade_ok ok hm s
  ·exact hm
 ·exact hm
theorem je2 (ok:je g) (hm:jv g long W m) (s:Int):jI g W (jU g long m s)≤jI g W m:=by
 unfold jU jaF
 split
 ·split
  ·exact jgw ok hm s
  ·exact zO
 ·exact zO
theorem jdA (s:Int):(jU g long m s).hs=m.hs∧(jU g long m s).root=m.root∧(jU g long m s).act=m.act∧(jU g long m s).steps=m.steps:=by
 unfold jU jaF
 split
 ·split
  ·exact jfv s
  ·exact⟨rfl,rfl,rfl,rfl⟩
 ·exact⟨rfl,rfl,rfl,rfl⟩
theorem shdS_act (hm:jv g long W m) (ha:m.act=true) (s:Int):jU g long m s=Jh g long m s:=by
 unfold jU jaF;simp only[ha,if_true]
 split
 ·rfl
 ·rename_i h
  unfold Jh;rw[if_neg];rintro⟨h1,h2⟩
  have:=jl h2
  rw[hm.C] at this;exact h ⟨h1,by omega⟩
theorem je3 (ha:m.act=false) (s:Int):jU g long m s=m:=by
 unfold jU jaF;rw[ha];simp
theorem mint_at {T:List jj} {s:Int} {j:Nat} {e:jj} (h:(jZ T s)[j]?=some e):T[j]?=some e∨(e.st=1∧e.slot=s):=by
 unfold jZ at h
 split at h
 ·rename_i i hi
  by_cases e2:j=i
  ·subst e2
   obtain⟨⟨e',g1,_⟩,_⟩:=jc9 hi
   rw[List.getElem?_set_self (jl g1)] at h
   cases h;exact .inr ⟨rfl,rfl⟩
  ·rw[List.getElem?_set_ne (by omega)] at h;exact .inl h
 ·exact .inl h
theorem drop_at {T:List jj} {i:Int} {j:Nat} {e:jj} (h:(Jt T i)[j]?=some e):T[j]?=some e∨e.st=2:=by
 unfold Jt at h
 split at h
 ·split at h
  ·split at h
   ·rename_i e' he _
    by_cases e2:j=i.toNat
    ·subst e2;rw[List.getElem?_set_self (jl he)] at h
     cases h;exact .inr rfl
    ·rw[List.getElem?_set_ne (by omega)] at h;exact .inl h
   ·exact .inl h
  ·exact .inl h
 ·exact .inl h
theorem jfM:(JD g W a).T.length=W.T.length:=by
 unfold JD
 split
 ·split<;>rfl
 ·split
  ·split<;>rfl
  ·split
   ·split
    ·exact jaX
    ·rfl
   ·split
    ·exact jbR
    ·split
     ·split<;>rfl
     ·split
      ·split<;>rfl
      ·rfl
theorem actW_ok (ok:je g) (hW:Jb g W):Jb g (JD g W a):=by
 have hsl:=ok.slots
 have hww:=ok.words
 unfold JD
 split
 ·split
  ·rename_i h
   obtain⟨s,y,_,hy,e⟩:=jcS h
   have:=ok.fits hy
   rw[e];exact⟨by show(jW W.x y _).2.length=_;rw [make_len (by rw[hW.x];omega)];exact hW.x,make_ok hW.w,hW.N,hW.n,hW.t⟩
  ·exact hW
 ·split
  ·split
   ·exact⟨by show(j7 W.x _ _ _ _).2.length=_;rw [jgy];exact hW.x,jgY hW.w (by omega),hW.N,hW.n,hW.t⟩
   ·exact hW
  ·split
   ·split
    ·rename_i h
     refine⟨hW.x,hW.w,hW.N,hW.n,fun e he h1=>?_⟩
     obtain⟨j,hj⟩:=List.getElem?_of_mem he
     rcases mint_at hj with h2|⟨_,h2⟩
     ·exact hW.t e (List.mem_of_getElem? h2) h1
     ·rw[h2];exact h
    ·exact hW
   ·split
    ·refine⟨hW.x,hW.w,hW.N,hW.n,fun e he h1=>?_⟩
     obtain⟨j,hj⟩:=List.getElem?_of_mem he
     rcases drop_at hj with h2|h2
     ·exact hW.t e (List.mem_of_getElem? h2) h1
     ·omega
    ·split
     ·split
      ·exact⟨hW.x,hW.w,by show(JJ W.N _).length=_;rw [pinP_len];exact hW.N,pinP_in hW.n,hW.t⟩
      ·exact hW
     ·split
      ·split
       ·exact⟨hW.x,hW.w,by show(JO W.N _).length=_;rw [jgt];exact hW.N,unpinP_in hW.n,hW.t⟩
       ·exact hW
      ·exact hW
theorem make_rf (ok:je g) (hx:x.length=g.words) (h:jap g x) {s:Nat} {y:ju} (hy:g.L[s]?=some y) (hd:HdP):jap g (jW x y hd).2:=by
 have f1:=ok.fits hy
 unfold jW
 split
 ·split
  ·exact h
  ·intro t z hz j h1 h2
   have f2:=ok.fits hz
   dsimp only
   by_cases e:s=t
   ·subst e;rw[hy] at hz;cases hz;rw[jax (by omega),jaY (by omega),if_pos (by omega)];omega
   ·have:=ok.apart hy hz e
    rw[jax (by omega),jaY (by omega),if_neg (by omega)];exact h t z hz j h1 h2
 ·exact h
theorem set_rf (ok:je g) (hx:x.length=g.words) (h:jap g x) {s:Nat} {y:ju} (hy:g.L[s]?=some y) {i v:Int}:jap g (j7 x g.slots y i v).2:=by
 have f1:=ok.fits hy
 unfold j7
 split
 ·exact h
 ·split
  ·rename_i hv e
   have hin:=jae e
   intro t z hz j h1 h2
   have f2:=ok.fits hz
   dsimp only
   by_cases e2:fAt y i=z.addr+j
   ·rw[e2,jfl (by omega)];omega
   ·rw[jax e2];exact h t z hz j h1 h2
  ·exact h
theorem actW_rf (ok:je g) (hW:Jb g W) (hR:jap g W.x):jap g (JD g W a).x:=by
 unfold JD
 split
 ·split
  ·rename_i h
   obtain⟨s,y,_,hy,e⟩:=jcS h
   rw[e];exact make_rf ok hW.x hR hy _
  ·exact hR
 ·split
  ·split
   ·rename_i h
    obtain⟨s,y,_,hy,e⟩:=jcS h.1
    rw[e];exact set_rf ok hW.x hR hy
   ·exact hR
  ·split
   ·split<;>exact hR
   ·split
    ·exact hR
    ·split
     ·split<;>exact hR
     ·split
      ·split<;>exact hR
      ·exact hR
theorem jho (ok:je g) (hW:Jb g W) {t:Nat} (ht:t<g.slots) (hp:0<refsN W.x (jC g (t:Nat))):refsN (JD g W a).x (jC g (t:Nat))=refsN W.x (jC g (t:Nat)):=by
 unfold JD
 split
 ·split
  ·rename_i h
   obtain⟨s,y,_,hy,e⟩:=jcS h
   rw[e];exact jhb ok hW.x hy _ ht hp
  ·rfl
 ·split
  ·split
   ·rename_i h
    obtain⟨s,y,_,hy,e⟩:=jcS h.1
    rw[e];exact set_refs ok hy ht
   ·rfl
  ·split
   ·split<;>rfl
   ·split
    ·rfl
    ·split
     ·split<;>rfl
     ·split
      ·split<;>rfl
      ·rfl
theorem actK_all (ok:je g) (hm:jv g long W m):jv g long W (jab g long W m a)∧jI g W (jab g long W m a)≤jI g W m∧(jab g long W m a).act=m.act∧(jab g long W m a).hs.length=m.hs.length:=by
 have hs1: ∀ (m:MaP) (s:Int),jv g long W m→jv g long W (jU g long m s)∧jI g W (jU g long m s)≤jI g W m∧(jU g long m s).act=m.act∧(jU g long m s).hs.length=m.hs.length:=fun m s hm=>
  ⟨jev ok hm s,je2 ok hm s,(jdA s).2.2.1,by rw[(jdA s).1]⟩
 have hid:jv g long W m∧jI g W m≤jI g W m∧m.act=m.act∧m.hs.length=m.hs.length:=⟨hm,Nat.le_refl _,rfl,rfl⟩
 have hst: ∀ {k u:Int},jv g long W ((stepM g long W m k u).getD m)∧jI g W ((stepM g long W m k u).getD m)≤jI g W m∧((stepM g long W m k u).getD m).act=m.act∧((stepM g long W m k u).getD m).hs.length=m.hs.length:=fun{k u}=>by
  cases h:stepM g long W m k u with
  |none=>exact hid
  |some m'=>
   obtain⟨h1,h2,h3,h4,h5⟩:=jcR ok hm h
   exact⟨h1,by show jI g W m'≤_;omega,h4,h5⟩
 unfold jab
 split
 ·exact hid
 ·split
  ·split
   ·obtain⟨h1,h2,h3,h4⟩:=hs1 m (oldS g W a).1 hm
    obtain⟨k1,k2,k3,k4⟩:=hs1 _ a.t h1
    exact⟨k1,Nat.le_trans k2 h2,k3.trans h3,k4.trans h4⟩
   ·exact hid
  ·split
   ·split
    ·exact hs1 _ _ hm
    ·exact hid
   ·split
    ·exact hs1 _ _ hm
    ·split
     ·exact hst
     ·cases h:Jq g long W m with
      |none=>exact hid
      |some m'=>
       obtain⟨k,u,hk⟩:=jbv h
       have:=hst (k:=k) (u:=u)
       rw[hk] at this;exact this
theorem actK_ok (ok:je g) (hW:Jb g W) (hm:jv g long W m):jv g long (JD g W a) (jab g long W m a):=
 (actK_all ok hm).1.world jfM fun t ht hp=>jho ok hW ht hp
theorem jeT (h:W'.T.length=W.T.length):jI g W' m=jI g W m:=by unfold jI;rw [h]
theorem step_idle (ha:m.act=false) {k u:Int}:stepM g long W m k u=none:=by
 unfold stepM;rw [if_neg];rw [ha];rintro⟨h,_⟩;cases h
theorem help_idle (ha:m.act=false):Jq g long W m=none:=by
 cases h:Jq g long W m with
 |none=>rfl
 |some m'=>
  obtain⟨k,u,hk⟩:=jbv h
  rw[step_idle ha] at hk;cases hk
end
end Go.Proofs.YtldomapkmopomaaGreatDoor.Sw
