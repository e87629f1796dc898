/-The walker and contracts, part 19.-/
import Derived.Test.YtciaccbemnpipaaGreatDoorJ17
set_option linter.all false
namespace Go.Proofs.YtciaccbemnpipaaGreatDoor.Sw
set_option maxHeartbeats 8000000
open Go.Proofs.YtciaccbemnpipaaGreatDoor renaming lo -> qL, hi -> qH
open Go.RowKit
set_option maxRecDepth 10000
def rnP (x a b:Int):Bool:=decide (a<=x)&&decide (x<=b)
theorem jkB {w0:World} {H:jb} {x a b:Int}:Cs w0 80 [.int .i64 x, .int .i64 a, .int .i64 b] H (.bool (rnP x a b)):=by
 refine en3 15 Tryz.func80 ?_
 by_cases h1:x>=a
 ·have he:rnP x a b=decide (x<=b):=by unfold rnP;rw [decide_eq_true (show a<=x from h1),Bool.true_and]
  refine yr19 ?_;exact zN
 ·have he:rnP x a b=false:=by unfold rnP;rw [decide_eq_false (show ¬a<=x from h1),Bool.false_and]
  refine yr19 ?_;exact zN
theorem class_el {l:List Int} (h:Jk l=true):(∀ x∈l,1<x/\x<=64)/\l.Pairwise (· < ·):=by
 have hc:=h
 simp only[Jk,Bool.and_eq_true,decide_eq_true_eq] at hc;refine⟨fun x hx=>⟨(jc0 hc.2).1 x hx,?_⟩,(jc0 hc.2).2⟩
 obtain⟨i,hi⟩:=List.getElem?_of_mem hx
 obtain⟨z,hz⟩:=jq (l:=l) (k:=l.length-1) bc
 have h1:=jfZ h (by have:=jl hi;omega:i<=l.length-1) hi hz
 have hzl:l.getLast?=some z:=by rw[List.getLast?_eq_getElem?];exact hz
 have h2:=hc.1.2
 rw[hzl] at h2;simp only[Option.getD_some] at h2
 omega
structure RcS where
 k:Nat
 last:Int
theorem je2 {w0:World} {H:jb} {v:Value} {l:List Int} (hS:Sli w0 H iE v l) (hl:l.length<=140737488355328):
  Cs w0 79 [v] H (.int .i64 (jaX (Jk l) 2)):=by
 refine en1 46 Tryz.func79 ?_
 by_cases h1:l.length<1
 ·have hc:Jk l=false:=by simp[Jk];omega
  have h1':((l.length:Nat):Int)<1:=by omega
  refine yr26 ?_;exact zH
 by_cases h8:8<l.length
 ·have hc:Jk l=false:=by simp[Jk];omega
  refine yr26 ?_;exact zH
 refine yr28 ?_;refine K.loopT (σ:=RcS) [(0,_)] (fun s kp_=>(3, .int .i64 (s.k:Nat))::kp_) (fun s=>H) (fun s=>s.k<=l.length/\jbB 1 l=jbB s.last (l.drop s.k)/\(s.k=0->s.last=1)/\(0<s.k->l[s.k-1]?=some s.last)/\s.last<=64) (fun s=>l.length-s.k) (⟨0,1⟩) jg ja (⟨by simp,by simp,by simp,by simp,by simp⟩) ?_;rintro⟨k,last⟩ ⟨hk,hr,hz,hp,h64⟩;dsimp only at hk hr hz hp h64|-
 by_cases hlt:k<l.length
 ·obtain⟨x,hx⟩:=jq hlt
  have hmem:=List.mem_of_getElem? hx
  have hd:l.drop k=x::l.drop (k+1):=by
   obtain⟨h1,e⟩:=List.getElem?_eq_some_iff.1 hx
   rw[List.drop_eq_getElem_cons h1,e]
  have hfalse:(x<2\/x>64\/(0<k/\x<=last))->Jk l=false:=by
   intro h
   cases hc:Jk l with
   |false=>rfl
   |true=>
    exfalso
    obtain⟨e1,e2⟩:=class_el hc
    have:=e1 x hmem
    rcases h with h|h|⟨h,h'⟩
    ·omega
    ·omega
    ·obtain⟨g1,f1⟩:=List.getElem?_eq_some_iff.1 (hp h)
     obtain⟨g2,f2⟩:=List.getElem?_eq_some_iff.1 hx
     have:=List.pairwise_iff_getElem.1 e2 (k-1) k g1 g2 bc
     rw[f1,f2] at this
     omega
  by_cases hx2:x<2
  ·have hc:=hfalse (.inl hx2)
   refine yr15 ?_;refine zaz ?_;refine yr42 ?_;exact zH
  by_cases hx64:x>64
  ·have hc:=hfalse (.inr (.inl hx64))
   refine yr15 ?_;refine zaz ?_;refine yr42 ?_;exact zH
  by_cases hk0:0<k
  ·have hp':=hp hk0
   have hp2:l[((k:Int)-1).toNat]?=some last:=by rw[show((k:Int)-1).toNat=k-1 by omega];exact hp'
   by_cases hxl:x<=last
   ·have hc:=hfalse (.inr (.inr ⟨hk0,hxl⟩))
    refine yr15 ?_;refine zaz ?_;refine yr42 ?_;exact zH
   ·rw[hd] at hr;simp only[jbB] at hr;rw[decide_eq_true (show last<x by omega),Bool.true_and] at hr;refine yr15 ?_;refine zaz ?_;refine yr39 ?_;exact zbW
  ·have hk1:k=0:=by omega
   have hl1:=hz hk1
   have hk1': ¬((k:Nat):Int)>0:=by omega
   rw[hd] at hr;simp only[jbB] at hr;rw[decide_eq_true (show last<x by omega),Bool.true_and] at hr;refine yr15 ?_;refine zaz ?_;refine yr39 ?_;exact zbW
 ·have hke:k=l.length:=by omega
  have hlast:=hp bc
  have hzl:l.getLast?=some last:=by rw[List.getLast?_eq_getElem?,<-hke];exact hlast
  have hc:Jk l=true:=by
   rw[List.drop_of_length_le bc] at hr;simp only[Jk,Bool.and_eq_true,decide_eq_true_eq,hzl,Option.getD_some];exact⟨⟨⟨by omega,by omega⟩,by omega⟩,hr⟩
  refine yr21 ?_;exact zH
structure TiM where
 b:Nat
 l:List Int
 f:Nat
 o:Own
def jbt (f:Nat) (v:Int):Int:=if v=2*(f:Int) then 1 else if v=2*(f:Int)+1 then 2 else 0
def tiC (t:TiM):List Int:=t.l.map (jbt t.f)
def jaL (t:TiM):jb:=(t.b,cells [oV t.o t.l.length, .int .u64 (t.f:Nat)] 378)::oH uE 67 t.l t.o
theorem jaJ {t:TiM} {F:jb}:jaL t++F=(t.b,cells [oV t.o t.l.length, .int .u64 (t.f:Nat)] 378)::(oH uE 67 t.l t.o++F):=rfl
structure TiOk (t:TiM):Prop where
 o:oOk uE t.l t.o
 n:t.l.length<=65536
 f:1<=t.f/\t.f<=1000000000
 v: ∀ v∈t.l,0<=v/\v<=2*(t.f:Int)+1
theorem jaY (t:TiM):(tiC t).length=t.l.length:=by simp[tiC]
section
variable {w0 : World} {F : jb} {t : TiM}
theorem ji2 (ok:TiOk t):Cs w0 374 [pt t.b] (jaL t++F) (.bool false):=by
 have hf:=ok.f
 have hne: ¬((t.f:Nat):Int)=0:=by omega
 refine en1 12 Tryz.func374 ?_;simp only[jaJ];refine yr20 ?_;exact zal
theorem jkj {s:Nat} (ok:TiOk t) (hs:s<t.l.length):Cs w0 337 [pt t.b, .int .i64 (s:Nat)] (jaL t++F) (.int .i64 0):=by
 have ho:=ok.o
 have hge: ¬((s:Nat):Int)>=(t.l.length:Nat):=by omega
 refine en2 20 Tryz.func337 ?_;refine yr11 ?_;refine jj (ji2 ok) ?_;simp only[jaJ];refine yr30 ?_;exact zal
theorem ticol_K {v:Int} (ok:TiOk t):Cs w0 338 [pt t.b, .int .u64 v] (jaL t++F) (.int .u8 (jbt t.f v)):=by
 have hf:=ok.f
 by_cases h1:v=2*(t.f:Int)
 ·have e:jbt t.f v=1:=by unfold jbt;rw [if_pos h1]
  rw[e];refine en2 21 Tryz.func338 ?_;simp only[jaJ];refine yr32 ?_;exact zal
 ·by_cases h2:v=2*(t.f:Int)+1
  ·have e:jbt t.f v=2:=by unfold jbt;rw [if_neg h1,if_pos h2]
   rw[e];refine en2 21 Tryz.func338 ?_;simp only[jaJ];refine yr45 ?_;exact zal
  ·have e:jbt t.f v=0:=by unfold jbt;rw [if_neg h1,if_neg h2]
   rw[e];refine en2 21 Tryz.func338 ?_;simp only[jaJ];refine yr46 ?_;exact zal
theorem jhs {s:Nat} {c:Int} (ok:TiOk t) (hc:(tiC t)[s]?=some c):Cs w0 257 [pt t.b, .int .i64 (s:Nat)] (jaL t++F) (.tuple [.int .u8 c, .int .i64 0].toArray):=by
 have hs:s<t.l.length:=by have:=jl hc;rwa[jaY] at this
 have ho:=ok.o
 obtain⟨v,hv⟩:=jq hs
 have hcv:c=jbt t.f v:=by
  unfold tiC at hc;rw[List.getElem?_map,hv] at hc
  simpa using hc.symm
 subst hcv;refine en2 22 Tryz.func257 ?_;refine yr12 ?_;refine jj (jkj ok hs) ?_;simp only[jaJ];refine yr23 ?_;refine ji (ticol_K (v:=v) ok) (by first|exact ja|(simp only[jaJ];exact ja)) ?_;simp only[jaJ];refine yr5 ?_;exact zal
theorem jf2 {s:Nat} (ok:TiOk t) (hs:s<t.l.length):Call Tryz.prog w0 343 [pt t.b, .int .i64 (s:Nat)] (jaL t++F) (fun r H'=>r= .int .i64 0/\ ∃ t',TiOk t'/\t'.b=t.b/\t'.f=t.f/\tiC t'=(tiC t).set s 2/\H'=jaL t'++F):=by
 have ho:=ok.o
 have hf:=ok.f
 obtain⟨v,hv⟩:=jq hs
 refine en2 24 Tryz.func343 ?_;refine yr10 ?_;refine jj (jkj ok hs) ?_;simp only[jaJ];refine yr11 ?_;refine K.dr [] (od 0 [0,0,0,0,0,0,0,0,0,0,0,0,2]) Part.nil ?_;refine yr23 ?_
 have hle:(t.l.set s (2*(t.f:Int)+1)).length=t.l.length:=List.length_set
 refine KE.fin (H':=jaL ⟨t.b,t.l.set s (2*(t.f:Int)+1),t.f,t.o⟩++F) jd rfl jc (by simp only[jaJ,hle];exact ja) ⟨rfl,⟨t.b,t.l.set s (2*(t.f:Int)+1),t.f,t.o⟩,⟨ho.set s _,by rw[hle];exact ok.n,hf,?_⟩,rfl,rfl,?_,rfl⟩
 ·intro u hu
  rcases List.mem_or_eq_of_mem_set hu with h|h
  ·exact ok.v u h
  ·rw[h];show 0<=2*((t.f:Nat):Int)+1/\2*((t.f:Nat):Int)+1<=2*((t.f:Nat):Int)+1;omega
 ·unfold tiC;rw[List.map_set]
  congr 1
  unfold jbt;rw[if_neg bc,if_pos rfl]
theorem tiFlip_K (ok:TiOk t) (hb:t.f<=1000000):Call Tryz.prog w0 400 [pt t.b] (jaL t++F) (fun r H'=>r= .tuple #[]/\ ∃ t',TiOk t'/\t'.b=t.b/\t'.f=t.f+1/\tiC t'=List.replicate t.l.length 0/\H'=jaL t'++F):=by
 have hf:=ok.f
 have ho:=ok.o
 have he:((t.f:Nat):Int)+1=((t.f+1:Nat):Int):=by omega
 refine en1 12 Tryz.func400 ?_;refine yr4 ?_;refine jj (ji2 ok) ?_;simp only[jaJ];refine yr14 ?_;rw[he];refine KE.finN (H':=jaL ⟨t.b,t.l,t.f+1,t.o⟩++F) jd rfl jc (by simp only[jaJ];exact ja) ⟨rfl,⟨t.b,t.l,t.f+1,t.o⟩,⟨ho,ok.n,by show 1<=t.f+1/\t.f+1<=_;omega,?_⟩,rfl,rfl,?_,rfl⟩
 ·intro v hv
  have:=ok.v v hv
  show 0<=v/\v<=2*((t.f+1:Nat):Int)+1
  omega
 ·refine List.eq_replicate_iff.2 ⟨by simp[tiC],fun c hc=>?_⟩
  obtain⟨v,hv,rfl⟩:=List.mem_map.1 hc
  have:=ok.v v hv
  unfold jbt;rw[if_neg (by show ¬v=2*((t.f+1:Nat):Int);omega),if_neg (by show ¬v=2*((t.f+1:Nat):Int)+1;omega)]
end
theorem tiNew_K {w0:World} {H:jb} {n:Nat} (hn:n<=65536):Call Tryz.prog w0 166 [.int .i64 (n:Nat)] H (fun r H'=> ∃ t,TiOk t/\t.f=1/\tiC t=List.replicate n 0/\r= .tuple [pt t.b, .int .i64 0].toArray/\H'=jaL t++H):=by
 have hgt: ¬((n:Nat):Int)>65536:=by omega
 refine en1 14 Tryz.func166 ?_;refine yr23 ?_;refine KL.e rfl (Eff.makeR (E:=uE) (x0:=0) rfl rfl rfl rfl rfl rfl be) ?_;rintro _ _ ⟨o11,ok11,rfl,rfl⟩;refine yr2 ?_;intro b13;refine yr5 ?_;refine KE.fin (H':=jaL ⟨b13,List.replicate n 0,1,o11⟩++H) jd rfl jc (by rw[jaJ];simp only[List.length_replicate];exact ja) ⟨⟨b13,List.replicate n 0,1,o11⟩,⟨ok11,by simpa using hn,by show 1<=1/\1<=1000000000;omega,fun v hv=>?_⟩,rfl,?_,rfl,rfl⟩
 ·rw[(List.mem_replicate.1 hv).2];show(0:Int)<=0/\(0:Int)<=2*((1:Nat):Int)+1;omega
 ·unfold tiC jbt;simp
structure GrM where
 b:Nat
 ow:jam
 di:jam
 ring:List Int
 o:Own
 first:Nat
 many:Nat
 at_:Nat
 end_:Nat
def JV (g:GrM) (p:jQ):jb:=(g.b,cells [pt g.ow.b,pt g.di.b,pt p.b,oV g.o g.ring.length, .int .i64 (g.first:Nat), .int .i64 (g.many:Nat), .int .i64 (g.at_:Nat), .int .i64 (g.end_:Nat)] 376)::(jD g.ow++(jD g.di++oH iE 3 g.ring g.o))
theorem jab {g:GrM} {p:jQ} {F:jb}:JV g p++F=(g.b,cells [pt g.ow.b,pt g.di.b,pt p.b,oV g.o g.ring.length, .int .i64 (g.first:Nat), .int .i64 (g.many:Nat), .int .i64 (g.at_:Nat), .int .i64 (g.end_:Nat)] 376)::(jD g.ow++(jD g.di++(oH iE 3 g.ring g.o++F))):=by
 unfold JV;simp only[List.cons_append,List.append_assoc]
structure GrOk (g:GrM) (p:jQ):Prop where
 pl:jar p
 ow:RowOk g.ow
 di:RowOk g.di
 o:oOk iE g.ring g.o
 n1:g.ow.bs.length=p.g.slots
 n2:g.di.bs.length=p.g.pages
 l:1<=g.ring.length/\g.ring.length<=64
structure GrNil (g:GrM) (p:jQ):Prop where
 ow:g.ow.bs=List.replicate p.g.slots false
 di:g.di.bs=List.replicate p.g.pages false
 first:g.first=0
 many:g.many=0
 at_:g.at_=0
 end_:g.end_=0
section
variable {w0 : World} {F : jb} {p : jQ} {g : GrM}
theorem Pages0_K (ok:jar p):
  Cs w0 255 [pt p.b] (planH p++F) (.int .i64 (p.g.pages:Nat)):=by
 refine en1 9 Tryz.func255 ?_;refine yr10 ?_;refine zaa ?_;rw[jU];refine yr15 ?_;exact zd
theorem jd6 (ok:GrOk g p):
  Cs w0 339 [pt g.b] (JV g p++F) (.bool false):=by
 have hl:=ok.l
 have ho:=ok.o
 have hne: ¬((g.ring.length:Nat):Int)=0:=by omega
 refine en1 13 Tryz.func339 ?_;simp only[jab];refine yr21 ?_;exact zaA
theorem grNew_K {n:Nat} (ok:jar p) (hn:1<=n/\n<=64):
  Call Tryz.prog w0 165 [pt p.b, .int .i64 (n:Nat)] (planH p++F) (fun r H'=> ∃ g,GrOk g p/\GrNil g p/\g.ring.length=n/\r= .tuple [pt g.b, .int .i64 0].toArray/\H'=JV g p++(planH p++F)):=by
 have hs:=ok.g.slots
 have hp:=ok.g.pages
 have hne: ¬((p.g.slots:Nat):Int)=0:=by omega
 have h1: ¬((n:Nat):Int)<1:=by omega
 have h2: ¬((n:Nat):Int)>64:=by omega
 refine en2 41 Tryz.func165 ?_;refine yr12 ?_;refine jj (jc9 ok) ?_;refine yr24 ?_;refine jj (jc9 ok) ?_;refine yr1 ?_;refine Jx (jej (n:=p.g.slots) bc) ?_;rintro _ _ ⟨r1,kr1,hb1,rfl,rfl⟩;refine yr11 ?_;refine ji (Pages0_K ok) ja ?_;refine yr1 ?_;refine Jx (jej (n:=p.g.pages) bc) ?_;rintro _ _ ⟨r2,kr2,hb2,rfl,rfl⟩;refine yr14 ?_;refine KL.e rfl (Eff.makeR (E:=iE) (x0:=0) rfl rfl rfl rfl rfl rfl be) ?_;rintro _ _ ⟨o38,ok38,rfl,rfl⟩;refine yr2 ?_;intro b40;refine yr5 ?_;exact KE.fin (H':=JV ⟨b40,r1,r2,List.replicate n 0,o38,0,0,0,0⟩ p++(planH p++F)) jd rfl jc (by simp only[jab,List.length_replicate];exact ja) ⟨⟨b40,r1,r2,List.replicate n 0,o38,0,0,0,0⟩,⟨ok,kr1,kr2,ok38,by simp[hb1],by simp[hb2],by simpa using hn⟩,⟨hb1,hb2,rfl,rfl,rfl,rfl⟩,by simp,rfl,rfl⟩
theorem grClear_K (ok:GrOk g p):
  Call Tryz.prog w0 401 [pt g.b] (JV g p++F) (fun r H'=>r= .tuple #[]/\ ∃ g',GrOk g' p/\GrNil g' p/\g'.b=g.b/\g'.ring.length=g.ring.length/\H'=JV g' p++F):=by
 have k1:=ok.ow
 have k2:=ok.di
 have ho:=ok.o
 refine en1 29 Tryz.func401 ?_;refine yr4 ?_;refine jj (jd6 ok) ?_;simp only[jab];refine yr12 ?_;refine je (jhr k1) ja ?_;rintro _ _ ⟨rfl,r1,kr1,hr1,hb1,rfl⟩;refine yr10 ?_;refine je (jhr k2) ja ?_;rintro _ _ ⟨rfl,r2,kr2,hr2,hb2,rfl⟩;refine yr20 ?_;rw[<-hr1,<-hr2];rw[ok.n1] at hb1;rw[ok.n2] at hb2;exact KE.finN (H':=JV ⟨g.b,r1,r2,g.ring,g.o,0,0,0,0⟩ p++F) jd rfl jc bW ⟨rfl,⟨g.b,r1,r2,g.ring,g.o,0,0,0,0⟩,⟨ok.pl,kr1,kr2,ho,by simp[hb1],by simp[hb2],ok.l⟩,⟨hb1,hb2,rfl,rfl,rfl,rfl⟩,rfl,rfl,by simp only[jab]⟩
end
structure PiM where
 b:Nat
 r:jam
 l:List Int
 o:Own
def J0 (q:PiM):jb:=(q.b,cells [pt q.r.b,oV q.o q.l.length] 271)::(jD q.r++oH bE 5 q.l q.o)
theorem ja7 {q:PiM} {F:jb}:J0 q++F=(q.b,cells [pt q.r.b,oV q.o q.l.length] 271)::(jD q.r++(oH bE 5 q.l q.o++F)):=by
 unfold J0;simp only[List.cons_append,List.append_assoc]
structure PiOk (q:PiM):Prop where
 r:RowOk q.r
 o:oOk bE q.l q.o
 n:q.r.bs=q.l.map fun v=>decide (0<v)
 m:q.l.length<=65536
 v: ∀ v∈q.l,0<=v/\v<=255
section
variable {w0 : World} {F : jb} {q : PiM}
theorem pinone_K:Cs w0 252 [pt q.b] (J0 q++F) (.bool false):=by
 refine en1 12 Tryz.func252 ?_;simp only[ja7];refine yr20 ?_;exact zaB
theorem piLen_K (ok:PiOk q):Cs w0 164 [pt q.b] (J0 q++F) (.int .i64 (q.l.length:Nat)):=by
 have ho:=ok.o
 refine en1 10 Tryz.func164 ?_;refine yr10 ?_;refine zam ?_;simp only[ja7];refine yr16 ?_;exact zaB
theorem CloneB_K {w0:World} {v:Value} {l:List Int} (hS:SlW w0 bE v l) (hl:l.length<=4294967296):
  Call Tryz.prog w0 254 [v] [] (fun r H'=> ∃ o,oOk bE l o/\r=oV o l.length/\H'=oH bE 5 l o):=by
 refine en1 8 Tryz.func254 ?_
 have hS0:=hS
 obtain⟨a,c,rfl,h1,h2,h3⟩:=hS.shape
 cases a with
 |none=>
  have hn:l=[]:=by
   cases l with
   |nil=>rfl
   |cons x r=>obtain⟨b,o,h⟩:=h3 bF;cases h
  subst hn;refine yr20 ?_;exact zaP
 |some a=>
  (iterate 20 first|refine yS ?_|intro _)
  refine KL.e rfl (Eff.appLit (E:=bE) (ys:=l) rfl rfl rfl rfl rfl rfl rfl jK ba be rfl) ?_;rintro _ _ ⟨o',ok',rfl,rfl⟩;refine yr4 ?_;exact zaQ
theorem piCopy_K (ok:PiOk q):Call Tryz.prog w0 163 [pt q.b] (J0 q++F) (fun r H'=> ∃ q',PiOk q'/\q'.l=q.l/\r=pt q'.b/\H'=J0 q'++(J0 q++F)):=by
 have ho:=ok.o
 have okr:=ok.r
 have hm:=ok.m
 refine en1 17 Tryz.func163 ?_;refine yr10 ?_;refine zam ?_;simp only[ja7];refine yr6 ?_;refine K.dr _ [(0,0),(1,0),(2,0),(3,0),(5,1),(6,1),(7,1),(8,1),(4,2),(9,2),(10,0),(11,2),(12,0)] Part.all ?_;refine yr9 ?_;refine je (jg5 okr) ja ?_;rintro _ _ ⟨r',kr',hbs,rfl,rfl⟩;refine yr2 ?_;refine(CallV.pure fun w hw=>CallV.fn (CloneB_K (Sli.own jt ho rfl w hw) bc)).mono ?_;rintro _ _ ⟨_,⟨o1,ko1,rfl,rfl⟩,rfl⟩;refine yr3 ?_;intro b16;refine yr5 ?_;exact KE.fin (H':=J0 ⟨b16,r',q.l,o1⟩++(J0 q++F)) jd rfl jc (by simp only[ja7];exact ja) ⟨⟨b16,r',q.l,o1⟩,⟨kr',ko1,by rw[hbs];exact ok.n,hm,ok.v⟩,rfl,rfl,by simp only[ja7]⟩
end
theorem piNew_K {w0:World} {H:jb} {n:Nat} (hn:n<=65536):Call Tryz.prog w0 92 [.int .i64 (n:Nat)] H (fun r H'=> ∃ q,PiOk q/\q.l=List.replicate n 0/\r= .tuple [pt q.b, .int .i64 0].toArray/\H'=J0 q++H):=by
 have hgt: ¬((n:Nat):Int)>65536:=by omega
 refine en1 23 Tryz.func92 ?_;refine yr24 ?_;refine Jx (jej (n:=n) bc) ?_;rintro _ _ ⟨r1,kr1,hb1,rfl,rfl⟩;refine yr11 ?_;refine KL.e rfl (Eff.makeR (E:=bE) (x0:=0) rfl rfl rfl rfl rfl rfl be) ?_;rintro _ _ ⟨o19,ok19,rfl,rfl⟩;refine yr2 ?_;intro b21;refine yr6 ?_;refine KE.fin (H':=J0 ⟨b21,r1,List.replicate n 0,o19⟩++H) jd rfl jc (by simp only[ja7,List.length_replicate];exact ja) ⟨⟨b21,r1,List.replicate n 0,o19⟩,⟨kr1,ok19,by rw[hb1];simp,by simpa using hn,fun v hv=>?_⟩,rfl,rfl,rfl⟩;rw[(List.mem_replicate.1 hv).2];decide
structure J3 where
 slot:Int
 field:Int
 is:Bool
def Jn:Enc J3:=⟨fun h=> [.int .i64 h.slot, .int .i64 h.field, .bool h.is],3,fun _=>rfl,by intro x v hv;simp at hv;rcases hv with rfl|rfl|rfl<;>rfl⟩
structure MkM where
 b:Nat
 c:TiM
 g:GrM
 hs:List J3
 o:Own
 root:Nat
 act:Bool
 steps:Nat
 bb:Nat
 tb:Nat
 nb:Nat
def jr (k:MkM) (p:jQ):jb:=(k.b,cells [pt k.bb,pt p.b,pt k.tb,pt k.nb,pt k.c.b,pt k.g.b,oV k.o k.hs.length, .int .i64 (k.root:Nat), .bool k.act, .int .i64 (k.steps:Nat)] 283)::(jaL k.c++(JV k.g p++oH Jn 291 k.hs k.o))
theorem js {k:MkM} {p:jQ} {F:jb}:jr k p++F=(k.b,cells [pt k.bb,pt p.b,pt k.tb,pt k.nb,pt k.c.b,pt k.g.b,oV k.o k.hs.length, .int .i64 (k.root:Nat), .bool k.act, .int .i64 (k.steps:Nat)] 283)::(jaL k.c++(JV k.g p++(oH Jn 291 k.hs k.o++F))):=by
 unfold jr;simp only[List.cons_append,List.append_assoc]
structure MkOk (k:MkM) (p:jQ):Prop where
 c:TiOk k.c
 g:GrOk k.g p
 n:k.c.l.length=p.g.slots
 o:oOk Jn k.hs k.o
 hs:1<=k.hs.length/\k.hs.length<=9
structure MkNil (k:MkM) (p:jQ):Prop where
 c:tiC k.c=List.replicate p.g.slots 0
 g:GrNil k.g p
 hs:k.hs=List.replicate k.hs.length ⟨0,0,false⟩
 root:k.root=0
 steps:k.steps=0
structure MkAs (k k':MkM):Prop where
 b:k'.b=k.b
 bb:k'.bb=k.bb
 tb:k'.tb=k.tb
 nb:k'.nb=k.nb
 n:k'.hs.length=k.hs.length
 l:k'.g.ring.length=k.g.ring.length
theorem jdD {k:MkM} {p:jQ} (ok:MkOk k p) {s:Nat} (h:s<p.g.slots): ∃ c,(tiC k.c)[s]?=some c:=jq (by rw[jaY,ok.n];exact h)
section
variable {w0 : World} {F : jb} {k : MkM} {p : jQ}
theorem jgD:Cs w0 256 [pt k.b] (jr k p++F) (.bool false):=by
 refine en1 12 Tryz.func256 ?_;simp only[js];refine yr20 ?_;exact zaU
theorem jcM {s:Nat} {c:Int} (ok:MkOk k p) (hc:(tiC k.c)[s]?=some c):Cs w0 167 [pt k.b, .int .i64 (s:Nat)] (jr k p++F) (.tuple [.int .u8 c, .int .i64 0].toArray):=by
 have okc:=ok.c
 refine en2 16 Tryz.func167 ?_;refine yr11 ?_;refine jj (jgD (k:=k) (p:=p)) ?_;simp only[js];refine yr13 ?_;refine ji (jhs okc hc) ja ?_;refine yr7 ?_;exact zaU
theorem jcZ:Cs w0 172 [pt k.b] (jr k p++F) (.bool k.act):=by
 refine en1 12 Tryz.func172 ?_;refine yr9 ?_;refine jj (jgD (k:=k) (p:=p)) ?_;simp only[js];refine yr11 ?_;exact zaU
theorem jjA {v:Bool} (hv:k.act=!v):Call Tryz.prog w0 399 [pt k.b, .bool v] (jr k p++F) (fun r H'=>r= .int .i64 0/\H'=jr {k with act:=v} p++F):=by
 have hb:(k.act==v)=false:=by rw[hv];cases v<;>rfl
 refine en2 19 Tryz.func399 ?_;refine yr11 ?_;refine jj (jgD (k:=k) (p:=p)) ?_;simp only[js];refine yr15 ?_;rw[hb];refine yr19 ?_;exact zaU
theorem mkStart_K (ok:MkOk k p) (hv:k.act=false) (hf:k.c.f<=1000000):Call Tryz.prog w0 384 [pt k.b] (jr k p++F)
  (fun r H'=>r= .int .i64 0/\ ∃ k',MkOk k' p/\MkNil k' p/\MkAs k k'/\k'.act=true/\k'.c.f=k.c.f+1/\H'=jr k' p++F):=by
 have okc:=ok.c
 have okg:=ok.g
 have oko:=ok.o
 refine en1 29 Tryz.func384 ?_;refine yr9 ?_;refine jj (jjA (p:=p) hv) ?_;simp only[js];refine yr18 ?_;refine je (tiFlip_K okc hf) ja ?_;rintro _ _ ⟨rfl,c',kc,cb,cf,cc,rfl⟩;refine yr9 ?_;refine je (grClear_K okg) ja ?_;rintro _ _ ⟨rfl,g',kg,gn,gb,gl,rfl⟩;refine yr8 ?_;refine KL.eN (Eff.clearS (x0:=(⟨0,0,false⟩:J3)) (i:=0) rfl (clr_all bh) rfl rfl (Nat.zero_le _) (Nat.le_refl _) jt bh) ?_;rintro _ _ ⟨rfl,okc,rfl⟩;refine yr1 ?_;rw[jhQ] at okc|-;refine yr19 ?_;rw[<-cb,<-gb]
 have hcn:c'.l.length=p.g.slots:=by have:=congrArg List.length cc;rw [jaY,List.length_replicate,ok.n] at this;exact this
 have hcc:=cc
 rw[ok.n] at hcc;exact KE.fin (H':=jr ⟨k.b,c',g',List.replicate k.hs.length ⟨0,0,false⟩,k.o,0,true,0,k.bb,k.tb,k.nb⟩ p++F) jd rfl jc (by simp only[js,List.length_replicate];exact ja) ⟨rfl,⟨k.b,c',g',List.replicate k.hs.length ⟨0,0,false⟩,k.o,0,true,0,k.bb,k.tb,k.nb⟩,⟨kc,kg,hcn,okc,by simpa using ok.hs⟩,⟨hcc,gn,by simp,rfl,rfl⟩,⟨rfl,rfl,rfl,rfl,by simp,gl⟩,rfl,cf,by simp only[js]⟩
end
namespace PlG
def fp (g:PlG) (k:Nat):Nat:=((g.firsts[k]?).getD 0).toNat
def mp (g:PlG) (k:Nat):Nat:=((g.manys[k]?).getD 0).toNat
def pgOf (g:PlG) (s:Nat):Nat:=((g.L[s]?).map (·.page)).getD 0
end PlG
section
variable {g : PlG}
theorem jfW:g.firsts.length=g.pages:=by simp[PlG.firsts,jbO];rfl
theorem jiD:g.manys.length=g.pages:=by simp[PlG.manys,jbO];rfl
theorem fp_get {k:Nat} (hk:k<g.pages):g.firsts[k]?=some ((g.fp k:Nat):Int):=by
 have hl:k<g.firsts.length:=by rw[jfW];exact hk
 unfold PlG.fp;rw[List.getElem?_eq_getElem hl]
 have:g.firsts[k]∈g.firsts:=List.getElem_mem hl
 simp only[PlG.firsts,List.mem_map] at this
 obtain⟨n,_,hn⟩:=this
 simp only[PlG.firsts] at hn|-;simp only[Option.getD_some,<-hn,Int.toNat_natCast]
theorem mp_get {k:Nat} (hk:k<g.pages):g.manys[k]?=some ((g.mp k:Nat):Int):=by
 have hl:k<g.manys.length:=by rw[jiD];exact hk
 unfold PlG.mp;rw[List.getElem?_eq_getElem hl]
 have:g.manys[k]∈g.manys:=List.getElem_mem hl
 simp only[PlG.manys,List.mem_map] at this
 obtain⟨n,_,hn⟩:=this
 simp only[PlG.manys] at hn|-;simp only[Option.getD_some,<-hn,Int.toNat_natCast]
theorem fp_at {k j:Nat} (hk:k<g.m) (hj:j<g.pgs k):g.fp (g.page k+j)=g.first k+j*g.per k:=by
 unfold PlG.fp PlG.firsts;rw[List.getElem?_map]
 have:=jd8 (n:=g.pgs) (f:=fun k j=>g.first k+j*g.per k) hk hj
 unfold PlG.page;rw[this];simp only[Option.map_some,Option.getD_some];omega
theorem mp_at {k j:Nat} (hk:k<g.m) (hj:j<g.pgs k):g.mp (g.page k+j)=min (g.per k) (g.n k-j*g.per k):=by
 unfold PlG.mp PlG.manys;rw[List.getElem?_map]
 have:=jd8 (n:=g.pgs) (f:=fun k j=>min (g.per k) (g.n k-j*g.per k)) hk hj
 unfold PlG.page;rw[this];simp only[Option.map_some,Option.getD_some];omega
theorem jg7 (ok:jh g) {k j:Nat} (hk:k<g.m):j<g.pgs k↔j*g.per k<g.n k:=by
 have h1:=ok.n hk
 have h2:=ok.per hk
 unfold PlG.pgs;rw[Nat.lt_iff_add_one_le,Nat.le_div_iff_mul_le bc,Nat.succ_mul]
 omega
theorem jdi (ok:jh g) {s:Nat} {y:jn} (h:g.L[s]?=some y):y.page<g.pages/\g.fp y.page<=s/\s<g.fp y.page+g.mp y.page:=by
 obtain⟨k,d,hk,hd,rfl,rfl⟩:=L_at h
 have h1:=ok.pg_lt hk hd
 have h2:=ok.inpg hk hd
 have h3:=ok.per hk
 refine⟨h1,?_⟩;simp only[PlG.sl];rw[fp_at hk h2,mp_at hk h2]
 have h4:=Nat.div_mul_le_self d (g.per k)
 have h5:d<(d/g.per k+1)*g.per k:=by
  have:=Nat.lt_succ_self (d/g.per k)
  exact(Nat.div_lt_iff_lt_mul bc).1 this
 rw[Nat.succ_mul] at h5
 omega
theorem jcL (ok:jh g) {k:Nat} (hk:k<g.pages):1<=g.mp k/\g.mp k<=32/\g.fp k+g.mp k<=g.slots:=by
 obtain⟨c,j,hc,hj,rfl⟩:=jfc (n:=g.pgs) hk
 have hm:=mp_at hc hj
 have hf:=fp_at hc hj
 have hper:=ok.per hc
 have h1:=(jg7 ok hc).1 hj
 have h2:=jbL (n:=g.n) hc
 unfold PlG.page at hm hf;rw[hm,hf];unfold PlG.slots;unfold PlG.first at*
 omega
theorem jdG {s:Nat} {y:jn} (h:g.L[s]?=some y):g.pgOf s=y.page:=by unfold PlG.pgOf;rw [h];rfl
end
structure GyP where
 q:List Nat
 ow:List Bool
 di:List Bool
 pg:Option Nat
 at_:Nat
def JP (g:PlG) (long:Nat) (G:GyP) (s:Nat):GyP:=
 if G.q.length<long then{G with q:=G.q++ [s]} else{G with ow:=G.ow.set s true,di:=G.di.set (g.pgOf s) true}
def openG (G:GyP):Option (Nat × GyP):=match G.pg with
 |some k=>some (k,G)
 |none=>match G.q with
  | []=>match nextB G.di 0 true with
   |some k=>some (k,{G with di:=G.di.set k false,pg:=some k,at_:=0})
   |none=>none
  |_::_=>none
def walk1 (g:PlG) (k:Nat) (G:GyP):Option Nat × GyP:=
  (if (G.ow[g.fp k+G.at_]?).getD false then some (g.fp k+G.at_) else none,
   {G with ow:=G.ow.set (g.fp k+G.at_) false,pg:=if G.at_+1=g.mp k then none else some k,at_:=if G.at_+1=g.mp k then 0 else G.at_+1})
def walkG (g:PlG) (G:GyP):Option (Option Nat × GyP):=(openG G).map fun x=>walk1 g x.1 x.2
def J8 (G:GyP):Bool:=G.q.isEmpty&&(decide (G.ow.count true=0)&&G.pg.isNone)
structure J4 (g:PlG) (long:Nat) (G:GyP):Prop where
 q: ∀ s∈G.q,s<g.slots
 ql:G.q.length<=long
 ow:G.ow.length=g.slots
 di:G.di.length=g.pages
 pg: ∀ k,G.pg=some k->k<g.pages/\G.at_<g.mp k
 no:G.pg=none->G.at_=0
 /--what is owed lies in a dirty page,or ahead in the page that is walked through-/
 od: ∀ s:Nat,G.ow[s]?=some true->G.di[g.pgOf s]?=some true\/ ∃ k,G.pg=some k/\g.pgOf s=k/\g.fp k+G.at_<=s
structure MaP where
 C:List Int
 G:GyP
 hs:List J3
 root:Nat
 act:Bool
 steps:Nat
structure MwP where
 x:List Int
 T:List jk
 N:List Int
def jv (g:PlG) (s:Int):jn:=(g.L[s.toNat]?).getD ⟨0,0,0,0⟩
def Jt (g:PlG) (long:Nat) (m:MaP) (s:Int):MaP:=if 0<=s/\m.C[s.toNat]?=some 0 then{m with C:=m.C.set s.toNat 1,G:=JP g long m.G s.toNat} else m
def ja3 (g:PlG) (long:Nat) (m:MaP) (s:Int):MaP:=if m.act then Jt g long m s else m
def jL (g:PlG) (W:MwP) (r:Nat):Option Int:=match W.T[r]? with
 |some e=>if e.st=1 then some e.slot else none
 |none=>if (W.N[r-W.T.length]?).getD 0>0 then some ((r-W.T.length:Nat):Int) else none
def Jf (g:PlG) (long:Nat) (m:MaP) (o:Option Int):MaP:=match o with
 |some s=>Jt g long m s
 |none=>m
def rootM (g:PlG) (long:Nat) (W:MwP) (m:MaP):Option MaP:=
 if m.root<W.T.length+g.slots then some (Jf g long {m with root:=m.root+1} (jL g W m.root)) else none
def jO:J3:=⟨0,0,false⟩
def JU (m:MaP) (k:Nat):J3:=(m.hs[k]?).getD jO
def takeM (m:MaP) (k:Nat):Option MaP:=if (JU m k).is then none else match m.G.q with
 | []=>none
 |s::q=>some {m with G:={m.G with q:=q},hs:=m.hs.set k ⟨(s:Nat),0,true⟩}
def refO (g:PlG) (x:List Int) (s i:Int):Option Int:=if (refP x g.slots (jv g s) i).2=0/\0<=(refP x g.slots (jv g s) i).1 then some (refP x g.slots (jv g s) i).1 else none
def refsN (x:List Int) (y:jn):Int:=match headP x y with
 |some h=>h.r
 |none=>0
def scanM (g:PlG) (long:Nat) (W:MwP) (m:MaP) (k:Nat):Option MaP:=
 if (JU m k).is then
  (if (JU m k).field+1<refsN W.x (jv g (JU m k).slot) then
   some {Jf g long m (refO g W.x (JU m k).slot (JU m k).field) with hs:=m.hs.set k ⟨(JU m k).slot,(JU m k).field+1,true⟩}
  else some {Jf g long m (refO g W.x (JU m k).slot (JU m k).field) with hs:=m.hs.set k jO,C:=(Jf g long m (refO g W.x (JU m k).slot (JU m k).field)).C.set (JU m k).slot.toNat 2})
 else none
def walkM (g:PlG) (m:MaP) (k:Nat):Option MaP:=if (JU m k).is then none else match walkG g m.G with
 |none=>none
 |some (none,G)=>some {m with G:=G}
 |some (some s,G)=>some {m with G:=G,hs:=m.hs.set k ⟨(s:Nat),0,true⟩}
def Jo (g:PlG) (long:Nat) (W:MwP) (m:MaP) (k:Nat) (u:Int):Option MaP:=
 if u=1 then rootM g long W m else if u=2 then takeM m k else if u=3 then scanM g long W m k else if u=4 then walkM g m k else none
def upM (m:MaP):MaP:={m with steps:=m.steps+1}
def stepM (g:PlG) (long:Nat) (W:MwP) (m:MaP) (k:Int) (u:Int):Option MaP:=
 if m.act=true/\0<=k/\k<(m.hs.length:Nat) then(Jo g long W m k.toNat u).map upM else none
def fullM (m:MaP):Option Nat:=(List.range m.hs.length).find? fun k=>(JU m k).is
def JK (g:PlG) (long:Nat) (W:MwP) (m:MaP):Option MaP:=match fullM m with
 |some k=>stepM g long W m (k:Nat) 3
 |none=>match stepM g long W m ((m.hs.length-1:Nat):Int) 2 with
  |some m'=>some m'
  |none=>match stepM g long W m ((m.hs.length-1:Nat):Int) 1 with
   |some m'=>some m'
   |none=>stepM g long W m ((m.hs.length-1:Nat):Int) 4
def JB (g:PlG) (W:MwP) (m:MaP):Bool:=m.act&&((fullM m).isNone&&(decide (W.T.length+g.slots<=m.root)&&J8 m.G))
def nilG (g:PlG):GyP:=⟨[],List.replicate g.slots false,List.replicate g.pages false,none,0⟩
def JW (g:PlG) (nw:Nat) (act:Bool):MaP:=⟨List.replicate g.slots 0,nilG g,List.replicate (nw+1) jO,0,act,0⟩
def jcK (g:PlG) (m:MaP):MaP:=JW g (m.hs.length-1) true
structure jw (g:PlG) (long:Nat) (W:MwP) (m:MaP):Prop where
 C:m.C.length=g.slots
 c: ∀ v∈m.C,v=0\/v=1\/v=2
 G:J4 g long m.G
 hs:1<=m.hs.length/\m.hs.length<=9
 h: ∀ (k:Nat) (h:J3),m.hs[k]?=some h->(h.is=true/\0<=h.slot/\h.slot<((g.slots:Nat):Int)/\0<=h.field/\(h.field=0\/h.field<refsN W.x (jv g h.slot)))\/h=jO
 root:m.root<=W.T.length+g.slots
structure Jv (g:PlG) (W:MwP):Prop where
 x:W.x.length=g.words
 w:JF W.x
 N:W.N.length=g.slots
 n: ∀ v∈W.N,0<=v/\v<=255
 t: ∀ e∈W.T,e.st=1->0<=e.slot/\e.slot<((g.slots:Nat):Int)
theorem jef {f h:Nat->Nat}: ∀ {n:Nat},(∀ i,i<n->f i=h i)->jz f n=jz h n
 |0,_=>rfl
 |n+1,e=>by
  have h1:=jef (n:=n) fun i hi=>e i bc
  have h2:=e n bc
  simp only[jz];omega
theorem jeo {f h:Nat->Nat} {s:Nat}: ∀ {n:Nat},s<n->(∀ i,i<n->i≠s->h i=f i)->jz h n+f s=jz f n+h s
 |0,hs,_=>by omega
 |n+1,hs,e=>by
  simp only[jz]
  by_cases hn:s=n
  ·subst hn
   have h1:=jef (f:=h) (h:=f) (n:=s) fun i hi=>e i bc bc
   omega
  ·have h1:=jeo (f:=f) (h:=h) (n:=n) bc fun i hi hne=>e i bc hne
   have h2:=e n bc bc
   omega
theorem cum_le' {f h:Nat->Nat}: ∀ {n:Nat},(∀ i,i<n->f i<=h i)->jz f n<=jz h n
 |0,_=>Nat.le_refl _
 |n+1,e=>by
  have h1:=cum_le' (n:=n) fun i hi=>e i bc
  have h2:=e n bc
  simp only[jz];omega
theorem cum_add {f h:Nat->Nat}: ∀ n:Nat,jz (fun i=>f i+h i) n=jz f n+jz h n
 |0=>rfl
 |n+1=>by have:=cum_add (f:=f) (h:=h) n;simp only[jz];omega
theorem jdV (c:Nat): ∀ n:Nat,jz (fun _=>c) n=n*c
 |0=>by simp[jz]
 |n+1=>by have:=jdV c n;simp only[jz,Nat.succ_mul];omega
theorem jgP {f:Nat->Nat} {n:Nat} (h: ∀ i,i<n->f i=0):jz f n=0:=by
 rw[jef (h:=fun _=>0) h,jdV];omega
theorem jh6 {f h:Nat->Nat} {a:Nat}: ∀ b:Nat,(∀ i,i<b->f (a+i)=h i)->jz f (a+b)=jz f a+jz h b
 |0,_=>by simp[jz]
 |b+1,e=>by
  have h1:=jh6 (f:=f) (h:=h) (a:=a) b fun i hi=>e i bc
  have h2:=e b bc
  rw[<-Nat.add_assoc];simp only[jz];omega
def szA (g:PlG) (s:Nat):Nat:=(jv g (s:Nat)).size
section
variable {g : PlG}
theorem jY {s:Nat} {y:jn} (h:g.L[s]?=some y):jv g (s:Nat)=y:=by unfold jv;simp[h]
theorem jht {s:Nat} {y:jn} (h:g.L[s]?=some y):szA g s=y.size:=by unfold szA;rw [jY h]
theorem jff (ok:jh g) {s:Nat} (hs:s<g.slots):2<=szA g s/\szA g s<=64:=by
 obtain⟨y,hy⟩:=Je hs
 rw[jht hy]
 have:=ok.fits hy
 omega
theorem ji9 (ok:jh g): ∀ k,k<=g.m->jz (szA g) (g.first k)<=g.page k*g.pg
 |0,_=>by simp[PlG.first,jz]
 |k+1,h=>by
  have h1:=ji9 ok k bc
  have hk:k<g.m:=by omega
  have h2:jz (szA g) (g.first k+g.n k)=jz (szA g) (g.first k)+jz (fun _=>g.y k) (g.n k):=jh6 _ fun i hi=>by
   rw[jht (L_get hk hi)];rfl
  rw[jdV] at h2
  have h3:g.first (k+1)=g.first k+g.n k:=rfl
  have h4:g.page (k+1)=g.page k+g.pgs k:=rfl
  rw[h3,h4,h2,Nat.add_mul]
  have hper:=ok.per hk
  have h5:g.n k<=g.pgs k*g.per k:=by
   unfold PlG.pgs
   have:=Nat.div_add_mod (g.n k+g.per k-1) (g.per k)
   have h6:=Nat.mod_lt (g.n k+g.per k-1) (show 0<g.per k by omega)
   rw[Nat.mul_comm] at this
   omega
  have h6:g.per k*g.y k<=g.pg:=Nat.div_mul_le_self _ _
  have h7:g.n k*g.y k<=g.pgs k*g.per k*g.y k:=Nat.mul_le_mul_right _ h5
  have h8:g.pgs k*(g.per k*g.y k)<=g.pgs k*g.pg:=Nat.mul_le_mul_left _ h6
  rw[Nat.mul_assoc] at h7
  omega
theorem jhV (ok:jh g):jz (szA g) g.slots<=g.words:=ji9 ok g.m (Nat.le_refl _)
theorem jk3 (ok:jh g):2*g.slots<=g.words:=by
 have h1:=jhV ok
 have h2:jz (fun _=>2) g.slots<=jz (szA g) g.slots:=cum_le' fun i hi=>(jff ok hi).1
 rw[jdV] at h2
 omega
end
def wtA (g:PlG) (C:List Int) (s:Nat):Nat:=if C[s]?=some 0 then szA g s+33 else 0
def wtO (g:PlG) (ow:List Bool) (s:Nat):Nat:=if ow[s]?=some true then szA g s+1 else 0
def wtD (di:List Bool) (k:Nat):Nat:=if di[k]?=some true then 32 else 0
def wtH (g:PlG) (hs:List J3) (k:Nat):Nat:=if ((hs[k]?).getD jO).is then szA g ((hs[k]?).getD jO).slot.toNat-((hs[k]?).getD jO).field.toNat else 0
def wtP (g:PlG) (G:GyP):Nat:=match G.pg with
 |some k=>g.mp k-G.at_
 |none=>0
def wtQ (g:PlG) (q:List Nat):Nat:=(q.map fun s=>szA g s+1).sum
def ja2 (g:PlG) (G:GyP):Nat:=wtQ g G.q+(jz (wtO g G.ow) g.slots+(jz (wtD G.di) g.pages+wtP g G))
def jH (g:PlG) (W:MwP) (m:MaP):Nat:=jz (wtA g m.C) g.slots+(ja2 g m.G+(jz (wtH g m.hs) m.hs.length+(W.T.length+g.slots-m.root)))
section
variable {g : PlG} {long : Nat} {W : MwP} {m m' : MaP} {G G' : GyP}
theorem jgU {C:List Int} {s:Nat} {c:Int} (hs:s<g.slots) (h0:c≠0):jz (wtA g (C.set s c)) g.slots+wtA g C s=jz (wtA g C) g.slots:=by
 have h:=jeo (f:=wtA g C) (h:=wtA g (C.set s c)) hs fun i hi hne=>by unfold wtA;rw [List.getElem?_set_ne bc]
 have h1:wtA g (C.set s c) s=0:=by
  unfold wtA;rw[if_neg];intro e
  rcases Nat.lt_or_ge s C.length with hl|hl
  ·rw[List.getElem?_set_self hl] at e;simp at e;exact h0 e
  ·rw[List.getElem?_eq_none (by rw[List.length_set];omega)] at e;cases e
 omega
theorem jll {C:List Int} {s:Nat} {c:Int} (h0:c≠0):jz (wtA g (C.set s c)) g.slots<=jz (wtA g C) g.slots:=by
 rcases Nat.lt_or_ge s g.slots with hs|hs
 ·have:=jgU (g:=g) (C:=C) hs h0;omega
 ·rw[jef (h:=wtA g C) fun i hi=>by unfold wtA;rw [List.getElem?_set_ne bc]];exact Nat.le_refl _
theorem jkd {ow:List Bool} {s:Nat} (b:Bool) (hs:s<g.slots) (hl:s<ow.length):jz (wtO g (ow.set s b)) g.slots+wtO g ow s=jz (wtO g ow) g.slots+(if b then szA g s+1 else 0):=by
 have h:=jeo (f:=wtO g ow) (h:=wtO g (ow.set s b)) hs fun i hi hne=>by unfold wtO;rw [List.getElem?_set_ne bc]
 rw[h]
 congr 1
 unfold wtO;rw[List.getElem?_set_self hl]
 cases b<;>simp
theorem jke {di:List Bool} {k:Nat} (b:Bool) (hk:k<g.pages) (hl:k<di.length):jz (wtD (di.set k b)) g.pages+wtD di k=jz (wtD di) g.pages+(if b then 32 else 0):=by
 have h:=jeo (f:=wtD di) (h:=wtD (di.set k b)) hk fun i hi hne=>by unfold wtD;rw [List.getElem?_set_ne bc]
 rw[h]
 congr 1
 unfold wtD;rw[List.getElem?_set_self hl]
 cases b<;>simp
theorem jfe {hs:List J3} {k:Nat} (h:J3) (hk:k<hs.length):jz (wtH g (hs.set k h)) hs.length+wtH g hs k=jz (wtH g hs) hs.length+(if h.is then szA g h.slot.toNat-h.field.toNat else 0):=by
 have e:=jeo (f:=wtH g hs) (h:=wtH g (hs.set k h)) hk fun i hi hne=>by unfold wtH;rw [List.getElem?_set_ne bc]
 rw[e]
 congr 1
 unfold wtH;rw[List.getElem?_set_self hk]
 rfl
theorem put_left (ok:jh g) (hG:J4 g long G) {s:Nat} (hs:s<g.slots):ja2 g (JP g long G s)<=ja2 g G+(szA g s+33):=by
 unfold JP
 split
 ·unfold ja2 wtQ;simp only[List.map_append,List.sum_append,List.map_cons,List.map_nil,List.sum_cons,List.sum_nil]
  show _+(_+(_+wtP g G))<=_
  omega
 ·obtain⟨y,hy⟩:=Je hs
  have h1:=jkd (g:=g) (ow:=G.ow) true hs (by rw[hG.ow];exact hs)
  have hp:g.pgOf s<g.pages:=by rw[jdG hy];exact(jdi ok hy).1
  have h2:=jke (g:=g) (di:=G.di) true hp (by rw[hG.di];exact hp)
  simp only[if_true] at h1 h2;unfold ja2
  show wtQ g G.q+(_+(_+wtP g G))<=_
  dsimp only
  omega
theorem jhW (ok:jh g) (hm:jw g long W m) (s:Int):jH g W (Jt g long m s)<=jH g W m:=by
 unfold Jt
 split
 ·rename_i h
  obtain⟨n,rfl⟩: ∃ n:Nat,s=n:=⟨s.toNat,by omega⟩
  simp only[Int.toNat_natCast] at h|-
  have hn:n<g.slots:=by rw[<-hm.C];exact jl h.2
  have h1:=jgU (g:=g) (C:=m.C) (c:=1) hn bn
  have h2:=put_left ok hm.G hn
  have h3:wtA g m.C n=szA g n+33:=by unfold wtA;rw [if_pos h.2]
  unfold jH;dsimp only
  omega
 ·exact Nat.le_refl _
theorem jln (ok:jh g) (hG:J4 g long G) {k:Nat} (hk:G.pg=some k):
  ja2 g (walk1 g k G).2+(match (walk1 g k G).1 with|some s=>szA g s+1|none=>0)+1<=ja2 g G:=by
 obtain⟨h1,h2⟩:=hG.pg k hk
 obtain⟨b1,b2,b3⟩:=jcL ok h1
 have hs:g.fp k+G.at_<g.slots:=by omega
 have ho:=jkd (g:=g) (ow:=G.ow) false hs (by rw[hG.ow];exact hs)
 have hp:wtP g G=g.mp k-G.at_:=by unfold wtP;rw [hk]
 have hp':wtP g (walk1 g k G).2+1<=g.mp k-G.at_:=by
  unfold wtP walk1;dsimp only
  by_cases he:G.at_+1=g.mp k
  ·rw[if_pos he];dsimp only;omega
  ·rw[if_neg he,if_neg he];dsimp only;omega
 have hx:(match (walk1 g k G).1 with|some s=>szA g s+1|none=>0)=wtO g G.ow (g.fp k+G.at_):=by
  unfold walk1 wtO;dsimp only
  cases ho':G.ow[g.fp k+G.at_]? with
  |none=>simp
  |some b=>cases b<;>simp
 rw[hx];simp only[Bool.false_eq_true,if_false] at ho;unfold ja2;rw[hp]
 show wtQ g G.q+(jz (wtO g (G.ow.set (g.fp k+G.at_) false)) g.slots+(jz (wtD G.di) g.pages+wtP g (walk1 g k G).2))+_+1<=_
 omega
theorem jdU (ok:jh g) (hG:J4 g long G) {k:Nat} (h:openG G=some (k,G')):J4 g long G'/\G'.pg=some k/\ja2 g G'<=ja2 g G:=by
 unfold openG at h
 cases hp:G.pg with
 |some k'=>
  rw[hp] at h;simp only[Option.some.injEq,Prod.mk.injEq] at h
  obtain⟨rfl,rfl⟩:=h
  exact⟨hG,hp,Nat.le_refl _⟩
 |none=>
  rw[hp] at h
  cases hq:G.q with
  |cons a l=>rw [hq] at h;cases h
  |nil=>
   rw[hq] at h;dsimp only at h
   cases hn:nextB G.di 0 true with
   |none=>rw [hn] at h;cases h
   |some k'=>
    rw[hn] at h;simp only[Option.some.injEq,Prod.mk.injEq] at h
    obtain⟨rfl,rfl⟩:=h
    obtain⟨n1,n2,n3,n4⟩:=jck hn
    have hk:k'<g.pages:=by rw[<-hG.di];exact n1
    obtain⟨b1,b2,b3⟩:=jcL ok hk
    refine⟨⟨fun s hs=>(by cases hs),Nat.zero_le _,hG.ow,by rw[List.length_set];exact hG.di,?_,?_,?_⟩,rfl,?_⟩
    ·intro k hk'
     cases hk'
     exact⟨hk,by show 0<_;omega⟩
    ·intro h;cases h
    ·intro s hs
     rcases hG.od s hs with hd|⟨k,hk',_⟩
     ·by_cases hpk:g.pgOf s=k'
      ·right
       refine⟨k',rfl,hpk,?_⟩
       have hsl:s<g.slots:=by rw[<-hG.ow];exact jl hs
       obtain⟨y,hy⟩:=Je hsl
       have:=jdi ok hy
       rw[<-jdG hy,hpk] at this
       show g.fp k'+0<=s
       omega
      ·left
       show(G.di.set k' false)[g.pgOf s]?=some true
       rw[List.getElem?_set_ne bc];exact hd
     ·rw[hp] at hk';cases hk'
    ·have h1:=jke (g:=g) (di:=G.di) false hk n1
     have h2:wtD G.di k'=32:=by
      unfold wtD;rw[if_pos];rw[List.getElem?_eq_getElem n1] at n3|-
      simpa using n3
     simp only[Bool.false_eq_true,if_false] at h1
     have h3:wtP g G=0:=by unfold wtP;rw [hp]
     have h4:wtP g ⟨[],G.ow,G.di.set k' false,some k',0⟩=g.mp k'-0:=rfl
     unfold ja2;dsimp only;rw[hq,h3]
     have h5:wtP g {q:=G.q,ow:=G.ow,di:=G.di.set k' false,pg:=some k',at_:=0}=g.mp k'-0:=rfl
     rw[hq] at h5;rw[h5]
     omega
theorem jiY (ok:jh g) (hG:J4 g long G) {k:Nat} (hk:G.pg=some k):J4 g long (walk1 g k G).2/\ ∀ s,(walk1 g k G).1=some s->s<g.slots/\G.ow[s]?=some true:=by
 obtain⟨h1,h2⟩:=hG.pg k hk
 obtain⟨b1,b2,b3⟩:=jcL ok h1
 have hs:g.fp k+G.at_<g.slots:=by omega
 have hl:g.fp k+G.at_<G.ow.length:=by rw[hG.ow];exact hs
 constructor
 ·refine⟨hG.q,hG.ql,by show(G.ow.set _ _).length=_;rw [List.length_set];exact hG.ow,hG.di,?_,?_,?_⟩
  ·intro k' hk';unfold walk1 at hk'|-;dsimp only at hk'|-
   by_cases he:G.at_+1=g.mp k
   ·rw[if_pos he] at hk';cases hk'
   ·rw[if_neg he] at hk'|-
    cases hk'
    exact⟨h1,by omega⟩
  ·intro h;unfold walk1 at h|-;dsimp only at h|-
   by_cases he:G.at_+1=g.mp k
   ·rw[if_pos he]
   ·rw[if_neg he] at h;cases h
  ·intro s hs'
   change (G.ow.set (g.fp k+G.at_) false)[s]?=some true at hs'
   by_cases hse:s=g.fp k+G.at_
   ·subst hse;rw[List.getElem?_set_self hl] at hs';cases hs'
   ·rw[List.getElem?_set_ne bc] at hs'
    rcases hG.od s hs' with hd|⟨k',hk',e1,e2⟩
    ·exact .inl hd
    ·rw[hk] at hk';cases hk'
     right
     have hsl:s<g.slots:=by rw[<-hG.ow];exact jl hs'
     obtain⟨y,hy⟩:=Je hsl
     have:=jdi ok hy
     rw[<-jdG hy,e1] at this;unfold walk1;dsimp only
     by_cases he:G.at_+1=g.mp k
     ·omega
     ·rw[if_neg he,if_neg he];exact⟨k,rfl,e1,by omega⟩
 ·intro s hs';unfold walk1 at hs';dsimp only at hs'
  split at hs'
  ·rename_i ho
   cases hs'
   refine⟨hs,?_⟩;rw[List.getElem?_eq_getElem hl] at ho|-
   simpa using ho
  ·cases hs'
theorem put_ok (ok:jh g) (hG:J4 g long G) {s:Nat} (hs:s<g.slots):J4 g long (JP g long G s):=by
 unfold JP
 obtain⟨y,hy⟩:=Je hs
 have hp:g.pgOf s<g.pages:=by rw[jdG hy];exact(jdi ok hy).1
 split
 ·refine⟨fun t ht=>?_,by simp;omega,hG.ow,hG.di,hG.pg,hG.no,hG.od⟩
  rcases List.mem_append.1 ht with h|h
  ·exact hG.q t h
  ·rw[List.mem_singleton.1 h];exact hs
 ·refine⟨hG.q,hG.ql,by rw[List.length_set];exact hG.ow,by rw[List.length_set];exact hG.di,hG.pg,hG.no,fun t ht=>?_⟩;dsimp only at ht|-
  by_cases hts:t=s
  ·subst hts
   left;rw [List.getElem?_set_self (by rw[hG.di];exact hp)]
  ·rw[List.getElem?_set_ne bc] at ht
   rcases hG.od t ht with hd|h
   ·left
    by_cases hpp:g.pgOf s=g.pgOf t
    ·rw[hpp,List.getElem?_set_self (by rw[hG.di,<-hpp];exact hp)]
    ·rw[List.getElem?_set_ne hpp];exact hd
   ·exact .inr h
theorem jjb (ok:jh g) (hm:jw g long W m) (s:Int):jw g long W (Jt g long m s):=by
 unfold Jt
 split
 ·rename_i h
  have hn:s.toNat<g.slots:=by rw[<-hm.C];exact jl h.2
  refine⟨by rw[List.length_set];exact hm.C,fun v hv=>?_,put_ok ok hm.G hn,hm.hs,hm.h,hm.root⟩
  rcases List.mem_or_eq_of_mem_set hv with h1|h1
  ·exact hm.c v h1
  ·rw[h1];exact .inr (.inl rfl)
 ·exact hm
theorem jey (ok:jh g) (hm:jw g long W m) (o:Option Int):jw g long W (Jf g long m o):=by
 cases o with
 |none=>exact hm
 |some s=>exact jjb ok hm s
theorem jhJ (ok:jh g) (hm:jw g long W m) (o:Option Int):jH g W (Jf g long m o)<=jH g W m:=by
 cases o with
 |none=>exact Nat.le_refl _
 |some s=>exact jhW ok hm s
theorem jgx (s:Int):(Jt g long m s).hs=m.hs/\(Jt g long m s).root=m.root/\(Jt g long m s).act=m.act/\(Jt g long m s).steps=m.steps:=by
 unfold Jt;split<;>exact⟨rfl,rfl,rfl,rfl⟩
theorem jdu (o:Option Int):(Jf g long m o).hs=m.hs/\(Jf g long m o).root=m.root/\(Jf g long m o).act=m.act/\(Jf g long m o).steps=m.steps:=by
 cases o with
 |none=>exact⟨rfl,rfl,rfl,rfl⟩
 |some s=>exact jgx s
theorem root_ok (ok:jh g) (hm:jw g long W m) (h:rootM g long W m=some m'):jw g long W m'/\jH g W m'+1<=jH g W m/\m'.steps=m.steps/\m'.act=m.act/\m'.hs.length=m.hs.length:=by
 unfold rootM at h
 split at h
 ·rename_i hr
  cases h
  have hm1:jw g long W {m with root:=m.root+1}:=⟨hm.C,hm.c,hm.G,hm.hs,hm.h,hr⟩
  obtain⟨q1,q2,q3,q4⟩:=jdu (g:=g) (long:=long) (m:={m with root:=m.root+1}) (jL g W m.root)
  refine⟨jey ok hm1 _,?_,q4,q3,by rw[q1]⟩
  have h1:=jhJ ok hm1 (jL g W m.root)
  have h2:jH g W {m with root:=m.root+1}+1<=jH g W m:=by unfold jH;dsimp only;omega
  omega
 ·cases h
theorem jfn (hm:jw g long W m) {k:Nat} (hk:k<m.hs.length) {h:J3} (hh:(h.is=true/\0<=h.slot/\h.slot<(g.slots:Nat)/\0<=h.field/\(h.field=0\/h.field<refsN W.x (jv g h.slot)))\/h=jO) {C:List Int} {G:GyP} (hC:C.length=g.slots) (hc: ∀ v∈C,v=0\/v=1\/v=2) (hG:J4 g long G):
  jw g long W {m with C:=C,G:=G,hs:=m.hs.set k h}:=by
 refine⟨hC,hc,hG,by show 1<=(m.hs.set k h).length/\_;rw [List.length_set];exact hm.hs,fun j h' hj=>?_,hm.root⟩
 change (m.hs.set k h)[j]?=some h' at hj
 by_cases hjk:j=k
 ·subst hjk;rw[List.getElem?_set_self hk] at hj;cases hj;exact hh
 ·rw[List.getElem?_set_ne bc] at hj;exact hm.h j h' hj
theorem jaG {k:Nat} {h:J3} (hk:m.hs[k]?=some h):JU m k=h:=by unfold JU;rw [hk];rfl
theorem take_ok (ok:jh g) (hm:jw g long W m) {k:Nat} (hk:k<m.hs.length) (h:takeM m k=some m'):jw g long W m'/\jH g W m'+1<=jH g W m/\m'.steps=m.steps/\m'.act=m.act/\m'.hs.length=m.hs.length:=by
 unfold takeM at h
 split at h
 ·cases h
 ·rename_i hn
  cases hq:m.G.q with
  |nil=>rw [hq] at h;cases h
  |cons s q=>
   rw[hq] at h
   cases h
   have hs:s<g.slots:=hm.G.q s (by rw[hq];exact .head _)
   have hG:J4 g long {m.G with q:=q}:=⟨fun t ht=>hm.G.q t (by rw[hq];exact .tail _ ht),by have:=hm.G.ql;rw [hq] at this;simp at this;show q.length<=long;omega,hm.G.ow,hm.G.di,hm.G.pg,hm.G.no,hm.G.od⟩
   refine⟨jfn (C:=m.C) hm hk (.inl ⟨rfl,by show(0:Int)<=((s:Nat):Int);omega,by show((s:Nat):Int)<_;omega,Int.le_refl 0, .inl rfl⟩) hm.C hm.c hG,?_,rfl,rfl,by show(m.hs.set _ _).length=_;rw [List.length_set]⟩
   have h1:=jfe (g:=g) (hs:=m.hs) ⟨(s:Nat),0,true⟩ hk
   have h2:wtH g m.hs k=0:=by unfold wtH;exact if_neg hn
   have h3:wtQ g m.G.q=(szA g s+1)+wtQ g q:=by rw[hq];rfl
   simp only[if_true,Int.toNat_natCast,Int.toNat_zero,Nat.sub_zero] at h1;unfold jH ja2
   show _+(wtQ g q+(_+(_+wtP g m.G))+(jz (wtH g (m.hs.set k ⟨(s:Nat),0,true⟩)) (m.hs.set k ⟨(s:Nat),0,true⟩).length+_))+1<=_
   rw[List.length_set];dsimp only
   omega
theorem jga (ok:jh g) {s:Nat} (hs:s<g.slots) (x:List Int):refsN x (jv g (s:Nat))+1<=(szA g s:Nat):=by
 obtain⟨y,hy⟩:=Je hs
 rw[jY hy,jht hy]
 have:=ok.fits hy
 unfold refsN
 cases hh:headP x y with
 |none=>dsimp only;omega
 |some h=>
  obtain⟨_,hl⟩:=jb1 hh
  obtain⟨hm,_,hl⟩:=jbm hl
  simp only[Jb,decide_eq_true_eq] at hm;dsimp only
  omega
theorem scan_ok (ok:jh g) (hm:jw g long W m) {k:Nat} (hk:k<m.hs.length) (h:scanM g long W m k=some m'):jw g long W m'/\jH g W m'+1<=jH g W m/\m'.steps=m.steps/\m'.act=m.act/\m'.hs.length=m.hs.length:=by
 unfold scanM at h
 split at h
 ·rename_i hn
  obtain⟨hd,hhd⟩:=jq hk
  rw[jaG hhd] at h hn
  rcases hm.h k hd hhd with⟨e1,e2,e3,e4,e5⟩|e
  ·obtain⟨s,hs⟩: ∃ s:Nat,hd.slot=s:=⟨hd.slot.toNat,by omega⟩
   obtain⟨f,hf⟩: ∃ f:Nat,hd.field=f:=⟨hd.field.toNat,by omega⟩
   rw[hs] at e3 e5 h;rw[hf] at e5 h
   have hsl:s<g.slots:=by omega
   have hrs:=jga ok hsl W.x
   obtain⟨o,ho⟩: ∃ o,o=refO g W.x (s:Nat) (f:Nat):=⟨_,rfl⟩
   rw[<-ho] at h
   have k1:=jey ok hm o
   have k2:=jhJ ok hm o
   obtain⟨q1,q2,q3,q4⟩:=jdu (g:=g) (long:=long) (m:=m) o
   obtain⟨m1,hm1⟩: ∃ m1,m1=Jf g long m o:=⟨_,rfl⟩
   rw[<-hm1] at h k1 k2 q1 q2 q3 q4
   have h2:wtH g m1.hs k=szA g s-f:=by unfold wtH;rw [q1,hhd];simp only[Option.getD_some,e1,if_true,hs,hf,Int.toNat_natCast]
   have hsz:=(jff ok hsl).1
   have hk1:k<m1.hs.length:=by rw[q1];exact hk
   split at h
   ·rename_i hlt
    cases h
    have h1:=jfe (g:=g) (hs:=m1.hs) ⟨(s:Nat),(f:Nat)+1,true⟩ hk1
    have h4:=jfn (C:=m1.C) (h:=⟨(s:Nat),(f:Nat)+1,true⟩) k1 hk1 (.inl ⟨rfl,by show(0:Int)<=((s:Nat):Int);omega,e3,by show(0:Int)<=((f:Nat):Int)+1;omega, .inr hlt⟩) k1.C k1.c k1.G
    rw[q1] at h4 h1;refine⟨h4,?_,q4,q3,by show(m.hs.set _ _).length=_;rw [List.length_set]⟩
    have e:(((f:Nat):Int)+1).toNat=f+1:=by omega
    simp only[if_true,Int.toNat_natCast,e] at h1;rw[q1] at h2;unfold jH at k2|-;dsimp only;rw[List.length_set];rw[q1] at k2
    omega
   ·cases h
    have h1:=jfe (g:=g) (hs:=m1.hs) jO hk1
    have h4:=jfn (C:=m1.C.set s 2) (h:=jO) k1 hk1 (.inr rfl) (by rw[List.length_set];exact k1.C) (fun v hv=>by
     rcases List.mem_or_eq_of_mem_set hv with h|h
     ·exact k1.c v h
     ·rw[h];exact .inr (.inr rfl)) k1.G
    rw[q1] at h4 h1;refine⟨by simpa using h4,?_,q4,q3,by show(m.hs.set _ _).length=_;rw [List.length_set]⟩
    have h5:=jll (g:=g) (C:=m1.C) (s:=s) (c:=2) bn
    have e:jO.is=false:=rfl
    rw[e] at h1;simp only[Bool.false_eq_true,if_false] at h1;rw[q1] at h2
    have hfs:f+1<=szA g s:=by omega
    unfold jH at k2|-;dsimp only;simp only[Int.toNat_natCast];rw[List.length_set];rw[q1] at k2
    omega
  ·rw[e] at hn;cases hn
 ·cases h
theorem walk_ok (ok:jh g) (hm:jw g long W m) {k:Nat} (hk:k<m.hs.length) (h:walkM g m k=some m'):jw g long W m'/\jH g W m'+1<=jH g W m/\m'.steps=m.steps/\m'.act=m.act/\m'.hs.length=m.hs.length:=by
 unfold walkM at h
 split at h
 ·cases h
 ·rename_i hn
  unfold walkG at h
  cases hop:openG m.G with
  |none=>rw [hop] at h;cases h
  |some x=>
   obtain⟨j,G1⟩:=x
   rw[hop] at h
   obtain⟨k1,k2,k3⟩:=jdU ok hm.G hop
   have k4:=jln ok k1 k2
   obtain⟨k5,k6⟩:=jiY ok k1 k2
   simp only[Option.map_some] at h
   obtain⟨r,hr⟩: ∃ r,r=walk1 g j G1:=⟨_,rfl⟩
   rw[<-hr] at h k4 k5 k6
   obtain⟨o,G2⟩:=r
   cases o with
   |none=>
    dsimp only at h k4 k5
    cases h
    refine⟨⟨hm.C,hm.c,k5,hm.hs,hm.h,hm.root⟩,?_,rfl,rfl,rfl⟩;unfold jH;dsimp only
    omega
   |some s=>
    dsimp only at h k4 k5
    cases h
    have k4':ja2 g G2+(szA g s+1)+1<=ja2 g G1:=k4
    obtain⟨hs,_⟩:=k6 s rfl
    refine⟨jfn (C:=m.C) hm hk (.inl ⟨rfl,by show(0:Int)<=((s:Nat):Int);omega,by show((s:Nat):Int)<_;omega,Int.le_refl 0, .inl rfl⟩) hm.C hm.c k5,?_,rfl,rfl,by show(m.hs.set _ _).length=_;rw [List.length_set]⟩
    have h1:=jfe (g:=g) (hs:=m.hs) ⟨(s:Nat),0,true⟩ hk
    have h2:wtH g m.hs k=0:=by unfold wtH;exact if_neg hn
    simp only[if_true,Int.toNat_natCast,Int.toNat_zero,Nat.sub_zero] at h1;unfold jH;dsimp only;rw[List.length_set]
    omega
theorem jcl (ok:jh g) (hm:jw g long W m) {k:Nat} (hk:k<m.hs.length) {u:Int} (h:Jo g long W m k u=some m'):jw g long W m'/\jH g W m'+1<=jH g W m/\m'.steps=m.steps/\m'.act=m.act/\m'.hs.length=m.hs.length:=by
 unfold Jo at h
 split at h
 ·exact root_ok ok hm h
 ·split at h
  ·exact take_ok ok hm hk h
  ·split at h
   ·exact scan_ok ok hm hk h
   ·split at h
    ·exact walk_ok ok hm hk h
    ·cases h
theorem up_ok (hm:jw g long W m):jw g long W (upM m):=⟨hm.C,hm.c,hm.G,hm.hs,hm.h,hm.root⟩
theorem jdE (ok:jh g) (hm:jw g long W m) {k u:Int} (h:stepM g long W m k u=some m'):jw g long W m'/\jH g W m'+1<=jH g W m/\m'.steps=m.steps+1/\m'.act=m.act/\m'.hs.length=m.hs.length:=by
 unfold stepM at h
 split at h
 ·rename_i hc
  cases hu:Jo g long W m k.toNat u with
  |none=>rw [hu] at h;cases h
  |some m1=>
   rw[hu] at h;simp only[Option.map_some,Option.some.injEq] at h;subst h
   obtain⟨k1,k2,k3,k4,k5⟩:=jcl ok hm bc hu
   exact⟨up_ok k1,k2,by show m1.steps+1=_;rw [k3],k4,k5⟩
 ·cases h
theorem jcg {m':MaP} (h:JK g long W m=some m'): ∃ k u:Int,stepM g long W m k u=some m':=by
 unfold JK at h
 split at h
 ·exact⟨_,_,h⟩
 ·split at h
  ·rename_i m1 hm1
   cases h
   exact⟨_,_,hm1⟩
  ·split at h
   ·rename_i m1 hm1
    cases h
    exact⟨_,_,hm1⟩
   ·exact⟨_,_,h⟩
theorem jfN (ok:jh g) (nw:Nat):jH g W (JW g nw true)<=18*g.words+W.T.length:=by
 have h1:jz (wtA g (List.replicate g.slots 0)) g.slots=jz (szA g) g.slots+g.slots*33:=by
  rw[<-jdV,<-cum_add]
  refine jef fun i hi=>?_
  unfold wtA;rw[List.getElem?_replicate,if_pos hi,if_pos rfl]
 have h2:jz (wtO g (List.replicate g.slots false)) g.slots=0:=jgP fun i hi=>by
  unfold wtO;rw [List.getElem?_replicate,if_pos hi];simp
 have h3:jz (wtD (List.replicate g.pages false)) g.pages=0:=jgP fun i hi=>by
  unfold wtD;rw [List.getElem?_replicate,if_pos hi];simp
 have h4:jz (wtH g (List.replicate (nw+1) jO)) (List.replicate (nw+1) jO).length=0:=jgP fun i hi=>by
  unfold wtH;rw[List.getElem?_replicate,if_pos (show i<nw+1 by simpa using hi)];rfl
 have h5:=jhV ok
 have h6:=jk3 ok
 unfold jH ja2 JW nilG;dsimp only;rw[h1,h2,h3,h4]
 show _+(0+(0+(0+0))+(0+(W.T.length+g.slots-0)))<=_
 omega
theorem new_ok {nw:Nat} {act:Bool} (hl:1<=long) (hn:nw<=8):jw g long W (JW g nw act):=by
 refine⟨by simp[JW],fun v hv=>?_,⟨fun s hs=>(by cases hs),by simp[JW,nilG],by simp[JW,nilG],by simp[JW,nilG],fun k hk=>(by cases hk),fun _=>rfl,fun s hs=>?_⟩,by simp[JW];omega,fun k h hk=>?_,Nat.zero_le _⟩
 ·exact .inl (List.mem_replicate.1 hv).2
 ·simp only[JW,nilG,List.getElem?_replicate] at hs
  split at hs<;>simp at hs
 ·simp only[JW,List.getElem?_replicate] at hk
  split at hk
  ·right;simpa using hk.symm
  ·cases hk
end
theorem Page0_K {w0:World} {F:jb} {p:jQ} {s:Nat} {x:jn} (ok:jar p) (hx:p.g.L[s]?=some x):
  Cs w0 394 [pt p.b, .int .i64 (s:Nat)] (planH p++F) (.tuple [.int .i64 (x.page:Nat), .int .i64 0].toArray):=by
 have hpp:=ok.g.pages.2
 have hpb:=(jdi ok.g hx).1
 obtain⟨k,d,hk,hd,hs,rfl⟩:=L_at hx
 have hper:=ok.g.per hk
 have hnk:=ok.g.n hk
 have hal:=Nat.div_le_self d (p.g.per k)
 have ho:=ok.o
 have hpl:p.g.parts.length=p.g.m:=jcz
 have hkl:k<p.g.parts.length:=by omega
 have hx:p.g.parts[k]?=some (p.g.pt k):=jc1 hk
 simp only[PlG.sl] at hpb|-
 obtain⟨pt9,hpt⟩: ∃ pt9,pt9=p.g.pt k:=⟨_,rfl⟩
 have hp1:p.g.page k=pt9.page:=by rw[hpt];rfl
 have hp2:p.g.per k=pt9.per:=by rw[hpt];rfl
 rw[hp1,hp2] at hpb|-;rw[hp2] at hper hal;rw[<-hpt] at hx;clear hpt
 obtain⟨a,ha⟩: ∃ a,a=d/pt9.per:=⟨_,rfl⟩
 have e1:((d:Nat):Int)/((pt9.per:Nat):Int)=(a:Nat):=by rw[ha];rfl
 rw[<-ha] at hpb hal|-
 have e2:((pt9.page:Nat):Int)+((a:Nat):Int)=((pt9.page+a:Nat):Int):=by omega
 have hpe: ¬((pt9.per:Nat):Int)=0:=by omega
 have hpn: ¬((pt9.per:Nat):Int)= -1:=by omega
 refine en2 38 Tryz.func394 ?_;refine yr11 ?_;refine jj (jfD ok hk hd hs) ?_;simp only[jU];refine yr20 ?_;refine K.dr [] (od 0 [0,0,0,0,0,0,0,0,0,0,0,0,0,0,0,0,0,0,0,0,0]) Part.nil ?_;refine yr24 ?_;rw[e1,e2];exact zbv
theorem pin_K {w0:World} {F:jb} {p:jQ} {c j:Nat} (ok:jar p) (hc:c<p.g.m) (hj:j<p.g.pgs c):
  Cs w0 378 [pt p.b, .int .i64 (p.g.page c+j:Nat)] (planH p++F) (.tuple [.agg (jcU (p.g.pt c)).toArray, .int .i64 ((j*p.g.per c:Nat))].toArray):=by
 have hm:=ok.g.m
 have hpl:p.g.parts.length=p.g.m:=jcz
 have ho:=ok.o
 have hpc:=ok.g.page (Nat.le_of_lt hc)
 have hper:=ok.g.per hc
 have hn:=ok.g.n hc
 have hjn:=(jg7 ok.g hc).1 hj
 have hpb:=ok.g.pages
 have hpp:=jbL (n:=p.g.pgs) hc
 obtain⟨s,hs⟩: ∃ s,s=p.g.page c+j:=⟨_,rfl⟩
 rw[<-hs]
 have hsb:s<p.g.pages:=by show s<jz p.g.pgs p.g.m;have:jz p.g.pgs c=p.g.page c:=rfl;omega
 have hx:p.g.parts[c]?=some (p.g.pt c):=jc1 hc
 obtain⟨pt9,hpt⟩: ∃ pt9,pt9=p.g.pt c:=⟨_,rfl⟩
 have hp1:p.g.page c=pt9.page:=by rw[hpt];rfl
 have hp2:p.g.per c=pt9.per:=by rw[hpt];rfl
 rw[<-hpt] at hx|-;rw[hp2] at hper hjn|-;rw[hp1] at hs hpc;unfold jcU;clear hpt
 have hq: ∀ i,decide (p.g.page i<=s)=decide (((p.g.page i:Nat):Int)<=(s:Nat)):=fun i=>decide_eq_decide.2 bc
 refine en2 23 Tryz.func378 ?_;simp only[jU];refine yr3 ?_;intro b3;refine yr1 ?_;intro b4;refine yr4 ?_;refine K.dr _ (od 0 [1,1,1,1,0,0,2,0,0,2]) (Part.drop Part.all) ?_;refine yr6 ?_;refine zj fun T hT=>?_;refine(CallV.part (CallV.fn (last_K (F:=(b3,cells [.int .i64 (s:Nat)] 3)::(b4,cells [.int .i64 0, .int .i64 0, .int .i64 0, .int .i64 0, .int .i64 0] 219)::F) (g:=396) (cap:=[pt b3]) (q:=fun i=>decide (p.g.page i<=s)) ok ?_ ?_)) (by first|exact ja|(simp only[jU];exact ja))).mono ?_
 ·intro i j h1 h2 h3
  have h4:p.g.page i<=p.g.page j:=jgn h1
  have h5:=of_decide_eq_true h3
  exact decide_eq_true bc
 ·intro H' i hp hi;refine CallV.clo (cap:=[pt b3]) ?_
  have hsee:j7 w0 H' ⟨b3,0,none⟩ (.int .i64 (s:Nat)):=(j7.cell (H:=planH p++((b3,cells [.int .i64 (s:Nat)] 3)::(b4,cells [.int .i64 0, .int .i64 0, .int .i64 0, .int .i64 0, .int .i64 0] 219)::F)) jK rfl).more hp
  rw[hq];unfold jcU PlG.pt;dsimp only;refine en2 8 Tryz.func396 ?_
  (iterate 17 first|refine yS ?_|intro _)
  exact zd
 ·rintro _ _ ⟨i,hi,h1,h2,rfl,rfl⟩
  have hf0:p.g.page 0=0:=rfl
  have hi1:1<=i:=by
   rcases Nat.eq_zero_or_pos i with h|h
   ·subst h
    have:=h2 0 bc bc
    simp[hf0] at this
   ·exact h
  have hik:i=c+1:=by
   have e1:c<i:=by
    rcases Nat.lt_or_ge c i with h|h
    ·exact h
    ·have:=h2 c h hc
     have:=of_decide_eq_false this
     omega
   rcases Nat.lt_or_ge (c+1) i with h|h
   ·have h3:=of_decide_eq_true (h1 (c+1) h)
    have h4:p.g.page (c+1)=p.g.page c+p.g.pgs c:=rfl
    omega
   ·omega
  have he:(i:Int)-1=((c:Nat):Int):=by omega
  have hj':((s:Nat):Int)-((pt9.page:Nat):Int)=((j:Nat):Int):=by omega
  have hmul:(((s:Nat):Int)-((pt9.page:Nat):Int))*((pt9.per:Nat):Int)=((j*pt9.per:Nat):Int):=by rw[hj'];exact(Int.natCast_mul j pt9.per).symm
  rw[he];refine zf ?_;clear hT T;simp only[jU];refine yr7 ?_;refine K.dr _ (od 0 [0,1,0,0,1,0,0,1,2,0]) (Part.drop Part.all) ?_;refine yr14 ?_;rw[hmul];exact zbv
theorem In_K {w0:World} {F:jb} {p:jQ} {k:Nat} (ok:jar p) (hk:k<p.g.pages):
  Cs w0 344 [pt p.b, .int .i64 (k:Nat)] (planH p++F) (.tuple [.int .i64 (p.g.fp k:Nat), .int .i64 (p.g.mp k:Nat), .int .i64 0].toArray):=by
 have hpb:=ok.g.pages
 have hmb:=jcL ok.g hk
 obtain⟨c,j,hc,hj,hkj⟩:=jfc (n:=p.g.pgs) hk
 have hkj':k=p.g.page c+j:=hkj
 have hin:=fun A=>pin_K (w0:=w0) (F:=A) ok hc hj
 have hper:=ok.g.per hc
 have hn:=ok.g.n hc
 have hfc:=ok.g.first (Nat.le_of_lt hc)
 have hjn:=(jg7 ok.g hc).1 hj
 have h1:=fp_at hc hj
 have h2:=mp_at hc hj
 rw[<-hkj'] at h1 h2 hin
 have hge: ¬((k:Nat):Int)>=(p.g.pages:Nat):=by omega
 obtain⟨pt9,hpt⟩: ∃ pt9,pt9=p.g.pt c:=⟨_,rfl⟩
 have hp1:pt9.first=p.g.first c:=by rw[hpt];rfl
 have hp2:pt9.many=p.g.n c:=by rw[hpt];rfl
 have hp3:pt9.per=p.g.per c:=by rw[hpt];rfl
 rw[<-hpt] at hin;rw[<-hp1] at h1 hfc;rw[<-hp2] at h2 hn hjn;rw[<-hp3] at h1 h2 hper hjn hin
 obtain⟨sz,fi,ma,pa,pe⟩:=pt9
 unfold jcU at hin;dsimp only at hin h1 h2 hn hjn hper hfc
 obtain⟨q,hq⟩: ∃ q,q=j*pe:=⟨_,rfl⟩
 rw[<-hq] at hin h1 h2 hjn
 have e1:((fi:Nat):Int)+((q:Nat):Int)=((p.g.fp k:Nat):Int):=by omega
 have e2:((ma:Nat):Int)-((q:Nat):Int)=((ma-q:Nat):Int):=by omega
 have e3:(if ((ma:Nat):Int)-((q:Nat):Int)<((pe:Nat):Int) then((ma:Nat):Int)-((q:Nat):Int) else((pe:Nat):Int))=((p.g.mp k:Nat):Int):=by split<;>omega
 clear hpt hp1 hp2 hp3 hq;refine en2 40 Tryz.func344 ?_;refine yr13 ?_;refine zaa ?_;simp only[jU];refine yr28 ?_;refine ji (hin _) (by first|exact ja|(simp only[jU];exact ja)) ?_
 (iterate 10 first|refine yS ?_|intro _)
 refine zac ?_;refine yr17 ?_;rw[e1,e3];exact zbv
