/-The walker and contracts, part 25.-/
import Derived.Test.YtciaccbemnpipaaGreatDoorJ22
import Derived.Test.YtciaccbemnpipaaGreatDoorJ23
set_option linter.all false
namespace Go.Proofs.YtciaccbemnpipaaGreatDoor.Sw
set_option maxHeartbeats 8000000
open Go.Proofs.YtciaccbemnpipaaGreatDoor renaming lo -> qL, hi -> qH
open Go.RowKit
set_option maxRecDepth 10000
structure ArM where
 b:Nat
 r:jam
def jW (a:ArM) (p:jQ):jb:=(a.b,cells [pt p.b,pt a.r.b, .int .i64 (usedL p.g.L a.r.bs:Nat)] 156)::jD a.r
theorem arenaH_app {a:ArM} {p:jQ} {F:jb}:jW a p++F=(a.b,cells [pt p.b,pt a.r.b, .int .i64 (usedL p.g.L a.r.bs:Nat)] 156)::(jD a.r++F):=rfl
structure jag (a:ArM) (p:jQ):Prop where
 pl:jar p
 r:RowOk a.r
 n:a.r.bs.length=p.g.slots
theorem jeT {a:ArM} {p:jQ} (ok:jag a p) (A:List Bool):usedL p.g.L A<=1048576:=by
 have h:=jki (B:=64) (l:=p.g.L) (A:=A) (fun q hq=>by
  obtain⟨i,hi⟩:=List.getElem?_of_mem hq
  exact(ok.pl.g.fits hi).2.2.1)
 have:=ok.pl.g.slots.2
 rw[jak] at h;omega
def setA (a:ArM) (i:Nat) (v:Bool):ArM:=⟨a.b,JD a.r i v⟩
theorem jkw {a:ArM} {p:jQ} (ok:jag a p) (i:Nat) (v:Bool):jag (setA a i v) p:=⟨ok.pl,jdc ok.r i v,by simp[setA,JD,ok.n]⟩
theorem jdC {w0:World} {F:jb} {a:ArM} {p:jQ}:
  Cs w0 62 [pt a.b] (jW a p++F) (.bool false):=by
 refine en1 12 Tryz.func62 ?_;simp only[jG,jU,arenaH_app];refine yr20 ?_;exact zbZ
theorem Has_K {w0:World} {F:jb} {a:ArM} {p:jQ} {i:Int} (ok:jag a p):
  Call Tryz.prog w0 177 [pt a.b, .int .i64 i] (jW a p++F) (fun r H'=>r= .bool (getB a.r.bs i)/\H'=jW a p++F):=by
 have okr:=ok.r
 refine en2 16 Tryz.func177 ?_;refine yr9 ?_;refine jj (jdC (a:=a) (p:=p)) ?_;simp only[jG,jU,arenaH_app];refine yr8 ?_;refine ji (Get_K (i:=i) okr) ja ?_;simp only[jG,jU,arenaH_app];refine yr5 ?_;exact zbZ
theorem aCopy_K {w0:World} {F:jb} {a:ArM} {p:jQ} (ok:jag a p):
  Call Tryz.prog w0 168 [pt a.b] (jW a p++F) (fun r H'=> ∃ a':ArM,jag a' p/\a'.r.bs=a.r.bs/\r=pt a'.b/\H'=jW a' p++(jW a p++F)):=by
 have okr:=ok.r
 refine en1 20 Tryz.func168 ?_;refine yr10 ?_;refine jj (jdC (a:=a) (p:=p)) ?_;simp only[jG,jU,arenaH_app];refine yr6 ?_;refine K.dr _ [(0,1),(1,1),(2,1),(3,1),(4,0),(5,0),(6,0),(7,0),(9,1),(10,1),(11,1),(12,1),(8,2),(13,0),(14,2),(15,0)] Part.all ?_;refine yr13 ?_;refine je (jg5 okr) ja ?_;rintro _ _ ⟨r',kr',hbs,rfl,rfl⟩;refine yr1 ?_;simp only[jG,jU,arenaH_app];refine yr2 ?_;intro b19;refine yr5 ?_;exact KE.fin (H':=jW ⟨b19,r'⟩ p++(jW a p++F)) jd rfl jc (by simp only[arenaH_app,jG,hbs];exact ja) ⟨⟨b19,r'⟩,⟨ok.pl,kr',by rw[hbs];exact ok.n⟩,hbs,rfl,rfl⟩
theorem aNew_K {w0:World} {F:jb} {p:jQ} (ok:jar p):
  Call Tryz.prog w0 90 [pt p.b] (planH p++F) (fun r H'=> ∃ a:ArM,jag a p/\a.r.bs=List.replicate p.g.slots false/\r= .tuple [pt a.b, .int .i64 0].toArray/\H'=jW a p++(planH p++F)):=by
 have hs:=ok.g.slots
 have hne: ¬((p.g.slots:Nat):Int)=0:=by omega
 refine en1 20 Tryz.func90 ?_;refine yr11 ?_;refine jj (jc9 ok) ?_;refine yr10 ?_;refine jj (jc9 ok) ?_;refine yr1 ?_;refine Jx (jej (n:=p.g.slots) bc) ?_;rintro _ _ ⟨r,kr,hbs,rfl,rfl⟩;refine yr13 ?_;intro b18;refine yr6 ?_
 have hu:usedL p.g.L r.bs=0:=by rw[hbs];exact ji0
 exact KE.fin (H':=jW ⟨b18,r⟩ p++(planH p++F)) jd rfl jc (by simp only[arenaH_app,hu];exact ja) ⟨⟨b18,r⟩,⟨ok,kr,by rw[hbs];exact List.length_replicate⟩,hbs,rfl,rfl⟩
theorem turn_K {w0:World} {F:jb} {a:ArM} {p:jQ} {i:Nat} {v:Bool} {x:jn} {g:FuncId} {cap:List Value} {u:Int} (ok:jag a p) (hx:p.g.L[i]?=some x) (hu:u=(usedL p.g.L (a.r.bs.set i v):Nat))
  (hf: ∀ H',Part H' ((a.b,cells [pt p.b,pt a.r.b, .int .i64 (usedL p.g.L a.r.bs:Nat)] 156)::F)->CallV Tryz.prog w0 (.func (.func g) #[] cap.toArray) [.int .i64 (x.size:Nat)] H' (fun r H''=>r= .int .i64 u/\H''=H')):
  Call Tryz.prog w0 290 [pt a.b, .int .i64 (i:Nat), .bool v, .func (.func g) #[] cap.toArray] (jW a p++(planH p++F)) (fun r H'=>r= .tuple #[]/\H'=jW (setA a i v) p++(planH p++F)):=by
 have okr:=ok.r
 have okp:=ok.pl
 have hil:i<a.r.bs.length:=by rw[ok.n,<-jak];exact jl hx
 refine en4 32 Tryz.func290 ?_;simp only[jG,jU,arenaH_app];refine yr8 ?_;refine ji (Size0_K okp hx) bT ?_;simp only[jG,jU,arenaH_app];refine yr16 ?_;refine ji (jdm (v:=v) okr hil) bT ?_;refine yr7 ?_;refine(hf _ ja).mono ?_;rintro _ _ ⟨rfl,rfl⟩;refine yr4 ?_;subst hu;exact KE.finN (H':=jW (setA a i v) p++(planH p++F)) jd rfl jc (by simp only[arenaH_app,jU,setA];exact ja) ⟨rfl,rfl⟩
section
variable {w0 : World} {F : jb} {B : BoM} {x : List Int} {s : Nat} {y : jn}
theorem zero_ok {m:Jy} {t:Nat} {p:jn} (okm:jaB m) (hr:m.R[t]?=some x) (hl:p.addr+p.size<=x.length):jaB (jae m t (JH x p)):=jkI okm hr (jdz hl)
theorem bWipe_K (ok:jaf B x) (hy:B.p.g.L[s]?=some y):
  Call Tryz.prog w0 179 [pt B.b, .int .i64 (s:Nat)] (jT B++(jy B.m++(planH B.p++F))) (fun r H'=>r= .int .i64 0/\H'=jT B++(jy (jae B.m B.t (JH x y))++(planH B.p++F))):=by
 have okm:=ok.m
 have hr:=ok.r
 obtain⟨f1,f2,_⟩:=ok.p.g.fits hy
 have hz:=jh9 (p:=y) hr
 refine en2 29 Tryz.func179 ?_;refine yr10 ?_;refine zad ?_;rw[J5];refine yr20 ?_;refine K.dr [] (od 0 [0,0,0,0,0,0,0,0,0,0,2,0]) Part.nil ?_;refine yr10 ?_;refine zj fun T hT=>?_;refine(CallV.part (CallV.fn (Zero_K (n:=y.size) okm hr bc (by rw[ok.n];omega))) ja).mono ?_;rintro _ _ ⟨rfl,rfl⟩;rw[hz];refine zf ?_;clear hT T;refine yr4 ?_;exact zb0
theorem Make_K {h:HdP} (hG:ju w0) (ok:jaf B x) (hy:B.p.g.L[s]?=some y):
  Call Tryz.prog w0 198 [pt B.b, .int .i64 (s:Nat),hdV h] (jT B++(jy B.m++(planH B.p++F))) (fun r H'=>r= .int .i64 (makeP x y h).1/\H'=jT B++(jy (jae B.m B.t (makeP x y h).2)++(planH B.p++F))):=by
 have okm:=ok.m
 have hr:=ok.r
 obtain⟨f1,f2,_⟩:=ok.p.g.fits hy
 have hz:=jh9 (p:=y) hr
 have hself:=jeJ hr
 have hput:=fun A (hm:Jb h=true)=>Put_K (w0:=w0) (H:=A) hG hm
 have hlies:=fun A=>lies_K (w0:=w0) (F:=A) (h:=h) ok hy
 have hmk:makeP x y h=if JA y h then(if (headP x y).isSome then(8,x) else(0,(JH x y).set y.addr (jbW h))) else(2,x):=rfl
 have hpw:jbW h=(putN h.c.toNat h.r.toNat h.w.toNat:Nat):=rfl
 have hlm:=fun e=>(jbm (p:=y) (h:=h) e).1
 obtain⟨pw,hpw'⟩: ∃ pw,pw=jbW h:=⟨_,rfl⟩
 rw[<-hpw'] at hmk hpw;simp only[<-hpw] at hput
 obtain⟨mk,hmk'⟩: ∃ mk,mk=makeP x y h:=⟨_,rfl⟩
 rw[<-hmk'] at hmk|-
 obtain⟨li,hli⟩: ∃ li,li=JA y h:=⟨_,rfl⟩
 rw[<-hli] at hmk hlm;simp only[<-hli] at hlies
 obtain⟨c,r,w⟩:=h
 unfold hdV at*;dsimp only at*;clear hpw hpw' hmk' hli;refine en3 65 Tryz.func198 ?_
 (iterate 12 first|refine yS ?_|intro _)
 refine zad ?_;refine yq26 fun T hT=>?_;refine(CallV.part (CallV.fn (hlies _)) ja).mono ?_;rintro _ _ ⟨rfl,rfl⟩
 cases li with
 |false=>
  refine ze ?_;clear hT T;simp only[Bool.false_eq_true,if_false] at hmk;rw[hmk];dsimp only;rw[hself];refine yr11 ?_;exact zd
 |true=>
  simp only[if_true] at hmk;refine ze ?_;clear hT T;refine yq11 fun T hT=>?_;refine(CallV.part (CallV.fn (jdg hG ok hy)) ja).mono ?_;rintro _ _ ⟨rfl,rfl⟩;unfold headV
  cases hh:headP x y with
  |some h'=>
   rw[hh] at hmk;simp only[Option.isSome,if_true] at hmk;dsimp only
   obtain⟨c',r',w'⟩:=h'
   unfold hdV;dsimp only;refine ze ?_;clear hT T;rw[hmk];dsimp only;rw[hself]
   (iterate 23 first|refine yS ?_|intro _)
   exact zd
  |none=>
   rw[hh] at hmk;simp only[Option.isSome,Bool.false_eq_true,if_false] at hmk;dsimp only;unfold hdV;dsimp only;refine ze ?_;clear hT T
   (iterate 22 first|refine yS ?_|intro _)
   refine jj (hput _ (hlm rfl)) ?_;rw[J5];refine yr8 ?_;refine zae ?_;refine yr10 ?_;refine zj fun T hT=>?_;refine(CallV.part (CallV.fn (Zero_K (n:=y.size) okm hr bc (by rw[ok.n];omega))) ja).mono ?_;rintro _ _ ⟨rfl,rfl⟩;rw[hz];refine zf ?_;clear hT T;refine yr3 ?_;refine K.dr [] (od 0 [0,0,0,0,0,0,0,0,0,0,2,0]) Part.nil ?_;refine yr10 ?_;refine zj fun T hT=>?_;refine(CallV.part (CallV.fn (Store_K (t:=B.t) (a:=y.addr) (x:=JH x y) (w:=pw) (zero_ok okm hr (by rw[ok.n];omega)) (jhx hr) (by rw[jdz (by rw[ok.n];omega),ok.n];omega))) ja).mono ?_;rintro _ _ ⟨rfl,rfl⟩;rw[jjd (jhx hr),jjs];refine zf ?_;clear hT T;rw[hmk];dsimp only;refine yr4 ?_;exact zb0
end
theorem bNew_K {w0:World} {F:jb} {m:Jy} {t:Nat} {p:jQ} {x:List Int} (okm:jaB m) (hr:m.R[t]?=some x) (ok:jar p) (hn:x.length=p.g.words) (hw:JF x):
  Call Tryz.prog w0 89 [pt m.b, .int .i64 (t:Nat),pt p.b] (jy m++(planH p++F)) (fun r H'=> ∃ B:BoM,jaf B x/\B.m=m/\B.t=t/\B.p=p/\r= .tuple [pt B.b, .int .i64 0].toArray/\H'=jT B++(jy m++(planH p++F))):=by
 have hs:=ok.g.slots
 have hne: ¬((p.g.slots:Nat):Int)=0:=by omega
 have hne2: ¬((x.length:Nat):Int)≠(p.g.words:Nat):=by omega
 refine en3 39 Tryz.func89 ?_;refine yr11 ?_;refine je (Words_K okm hr) ja ?_;rintro _ _ ⟨o,ko,rfl,rfl⟩;refine yr16 ?_;refine ji (jc9 ok) ja ?_;refine yr15 ?_;refine ji (Words0_K ok) ja ?_;refine yr16 ?_;intro b38;refine yr5 ?_;exact KE.fin (H':=jT ⟨b38,m,t,p⟩++(jy m++(planH p++F))) jd rfl jc (by rw[J5];exact ja) ⟨⟨b38,m,t,p⟩,⟨okm,ok,hr,hn,hw⟩,rfl,rfl,rfl,rfl,rfl⟩
inductive jaC (g:PlG) (long:Nat):CyP->Nat->CyP->Prop
 |refl {s:CyP}:jaC g long s 0 s
 |snoc {s s1 s2:CyP} {n:Nat}:jaC g long s n s1->jM g long s1=some s2->jaC g long s (n+1) s2
def jb7 (g:PlG) (long:Nat):Nat->CyP->Nat × CyP
 |0,s=>(0,s)
 |f+1,s=>match jM g long s with
  |none=>(0,s)
  |some s1=>((jb7 g long f s1).1+1,(jb7 g long f s1).2)
def finC (g:PlG) (long:Nat) (s:CyP):Nat × CyP:=jb7 g long (Jg g s) s
section
variable {g : PlG} {long long' nw : Nat} {s s' s1 s2 : CyP} {S0 : Nat -> Prop} {A0 : List Bool} {P : Nat -> Prop} {n : Nat}
theorem jaC.cons (h0:jM g long s=some s1) (h:jaC g long s1 n s2):jaC g long s (n+1) s2:=by
 induction h with
 |refl=>exact .snoc .refl h0
 |snoc _ h2 ih=>exact .snoc ih h2
theorem jaC.un (h:jaC g long s n s'):n=0/\s=s'\/ ∃ m s1,n=m+1/\jM g long s=some s1/\jaC g long s1 m s':=by
 induction h with
 |refl=>exact .inl ⟨rfl,rfl⟩
 |snoc _ h2 ih=>
  right
  rcases ih with⟨rfl,rfl⟩|⟨m,s1,rfl,a,b⟩
  ·exact⟨0,_,rfl,h2, .refl⟩
  ·exact⟨m+1,s1,rfl,a, .snoc b h2⟩
theorem helps_is {f:Nat} (hf:n<=f) (h:jaC g long s n s') (hn:jM g long s'=none):jb7 g long f s=(n,s'):=by
 induction f generalizing n s with
 |zero=>
  rcases h.un with⟨rfl,rfl⟩|⟨m,s1,rfl,_⟩
  ·rfl
  ·omega
 |succ f ih=>
  unfold jb7
  rcases h.un with⟨rfl,rfl⟩|⟨m,s1,rfl,a,b⟩
  ·rw[hn]
  ·rw[a];dsimp only;rw[ih bc b]
structure HelpsOk (g:PlG) (long:Nat) (s s':CyP) (n:Nat):Prop where
 ok:jp g long s'
 mes:n+Jg g s'<=Jg g s
 st:s'.st=s.st+n
 ph:s.ph<=s'.ph
 I: ∀ {S0 A0},CyI g S0 A0 s->CyI g S0 A0 s'
 A:s'.A=s.A
 T:s'.W.T=s.W.T
 N:s'.W.N=s.W.N
 le:j0 g s->j0 g s'
theorem jeO (h:jp g long s) (ok:jh g) (hs:jM g long s=some s'):s'.A=s.A/\s'.W.T=s.W.T/\s'.W.N=s.W.N:=by
 unfold jM at hs
 split at hs
 ·cases hm:JK g long s.W s.m with
  |none=>rw [hm] at hs;cases hs
  |some m'=>
   rw[hm] at hs;cases hs
   obtain⟨a,b,c,_⟩:=jc2 (g:=g) (s:={s with m:=m',st:=s.st+1})
   exact⟨c,by show(jP g {s with m:=m',st:=s.st+1}).W.T=_;rw [a],by show(jP g {s with m:=m',st:=s.st+1}).W.N=_;rw [a]⟩
 ·split at hs
  ·rename_i h2
   cases hm:sweepC g s with
   |none=>rw [hm] at hs;cases hs
   |some q=>
    rw[hm] at hs;cases hs
    obtain⟨_,_,_,_,e1,e2,e3,_⟩:=jbw ok h h2 hm
    obtain⟨a,b,c,_⟩:=jc2 (g:=g) (s:={q with st:=q.st+1})
    exact⟨c.trans e1,by show(jP g {q with st:=q.st+1}).W.T=_;rw [a];exact e2,by show(jP g {q with st:=q.st+1}).W.N=_;rw [a];exact e3⟩
  ·cases hs
theorem jaC.ok (ok:jh g) (h0:jp g long s) (h:jaC g long s n s'):HelpsOk g long s s' n:=by
 induction h with
 |refl=>exact⟨h0,by omega,rfl,Nat.le_refl _,fun h=>h,rfl,rfl,rfl,fun h=>h⟩
 |snoc _ h2 ih=>
  have a:=jcm ok ih.ok h2
  have b:=jhf h2
  obtain⟨c,d,e⟩:=jeO ih.ok ok h2
  have f:=ih.mes
  have g1:=ih.st
  have g2:=ih.ph
  exact⟨jhg ok ih.ok h2,by omega,by omega,by omega,fun hI=>(ih.I hI).help ok ih.ok h2,c.trans ih.A,d.trans ih.T,e.trans ih.N,fun hl=>(ih.le hl).help ok ih.ok h2⟩
theorem fin_is (ok:jh g) (h0:jp g long s) (h:jaC g long s n s') (hn:jM g long s'=none):finC g long s=(n,s'):=by
 have:=(h.ok ok h0).mes
 exact helps_is bc h hn
theorem jlQ (f:Nat) (s:CyP):jaC g long s (jb7 g long f s).1 (jb7 g long f s).2:=by
 induction f generalizing s with
 |zero=>exact .refl
 |succ f ih=>
  unfold jb7
  cases h:jM g long s with
  |none=>exact .refl
  |some s1=>exact(ih s1).cons h
theorem jlR (ok:jh g) {f:Nat} {s:CyP} (h0:jp g long s) (hf:Jg g s<=f):jM g long (jb7 g long f s).2=none:=by
 induction f generalizing s with
 |zero=>
  cases h:jM g long s with
  |none=>exact h
  |some s1=>have:=jcm ok h0 h;omega
 |succ f ih=>
  unfold jb7
  cases h:jM g long s with
  |none=>dsimp only;exact h
  |some s1=>
   have:=jcm ok h0 h
   exact ih (jhg ok h0 h) bc
theorem jc8:jaC g long s (finC g long s).1 (finC g long s).2:=jlQ _ _
theorem finC_end (ok:jh g) (h0:jp g long s):jM g long (finC g long s).2=none:=jlR ok h0 (Nat.le_refl _)
theorem jhj (ok:jh g) (h0:jp g long s) (hp:s.ph≠0):(finC g long s).2.ph=3:=by
 have h1:=(jc8 (g:=g) (long:=long) (s:=s)).ok ok h0
 have h2:=h1.ph
 exact jgk ok h1.ok bc (finC_end ok h0)
end
section
variable {g : PlG} {x x' : List Int} {t : Nat} {y : jn}
end
def M62:Nat:=4611686018427387904
def satA (a b:Nat):Nat:=min (a+b) M62
structure PaP where
 since:Nat
 total:Nat
 debt:Nat
 cyc:Nat
 act:Bool
structure PaB (p:PaP):Prop where
 s:p.since<=M62
 t:p.total<=M62
 d:p.debt<=M62
 c:p.cyc<=M62
def Jz (tr ast n:Nat) (p:PaP):Nat × PaP:=
  (if satA p.since n<tr then 0 else if p.act then 2 else 1,
   ⟨if satA p.since n<tr then satA p.since n else 0,satA p.total n,if p.act then satA p.debt (n*ast) else p.debt,p.cyc,p.act⟩)
def jaw (a:Bool) (p:PaP):PaP:=if p.act=a then p else⟨0,p.total,0,if a then p.cyc else satA p.cyc 1,a⟩
theorem jfh (a b:Nat):satA a b<=M62:=Nat.min_le_right ..
theorem PaB.ask {p:PaP} (h:PaB p) (tr ast n:Nat):PaB (Jz tr ast n p).2:=by
 refine⟨?_,jfh _ _,?_,h.c⟩
 ·show(if _ then _ else _)<=_
  split
  ·exact jfh _ _
  ·exact Nat.zero_le _
 ·show(if _ then _ else _)<=_
  split
  ·exact jfh _ _
  ·exact h.d
theorem PaB.turn {p:PaP} (h:PaB p) (a:Bool):PaB (jaw a p):=by
 unfold jaw
 split
 ·exact h
 ·refine⟨Nat.zero_le _,h.t,Nat.zero_le _,?_⟩
  show(if _ then _ else _)<=_
  split
  ·exact h.c
  ·exact jfh _ _
def capG (w:Nat):Nat:=w%4294967296
def capI (w:Nat):Nat:=w/4294967296%16777216
def capT (w:Nat):Nat:=w/72057594037927936
def capW (t i n:Nat):Nat:=n+i*4294967296+t*72057594037927936
structure HpC where
 g:PlG
 long:Nat
 nw:Nat
 gn:Int
 tn:Nat
 tr:Nat
 ast:Nat
 caps:Nat
structure j6 (C:HpC):Prop where
 g:jh C.g
 long:1<=C.long
 nw:C.nw<=8
 gn:1<=C.gn/\C.gn<=2147483648
 tn:C.tn<8
 tr:1<=C.tr/\C.tr<=1048576
 ast:C.ast<=1024
 caps:1<=C.caps/\C.caps<=1024
structure HpP where
 s:CyP
 p:PaP
 wk:Nat
structure OpP where
 c:Nat
 h:Nat
 a:Int
 b:Int
 v:Nat
structure SnP where
 e:Int
 h:Nat
 w:Int
 addr:Int
 used:Int
 since:Int
 cyc:Int
 act:Bool
 deriving DecidableEq
def told (e:Int):SnP:=⟨e,0,0,0,0,0,0,false⟩
def jaM (C:HpC):HpP:=⟨⟨⟨List.replicate C.g.words 0,List.replicate C.caps ⟨0,0,1⟩,List.replicate C.g.slots 0⟩,JW C.g C.nw false,List.replicate C.g.slots false,false,0,List.replicate C.g.slots false,0,0⟩,⟨0,0,0,0,false⟩,0⟩
def jb4 (C:HpC) (h:HpP):HpP:=⟨beginC C.g h.s,jaw true h.p,h.wk⟩
def jbr (C:HpC) (h:HpP):HpP:=⟨publishC C.g C.gn (finC C.g C.long h.s).2,jaw false h.p,h.wk+(finC C.g C.long h.s).1⟩
def hpRoom1 (C:HpC) (is:CyP->Bool) (h:HpP):HpP:=if is h.s=false/\h.s.ph≠0 then jbr C h else h
def hpRoom (C:HpC) (is:CyP->Bool) (h:HpP):HpP:=if is (hpRoom1 C is h).s=true then hpRoom1 C is h else jbr C (jb4 C (hpRoom1 C is h))
def freeB (s:CyP):Bool:=decide (0<cntP 0 s.W.T)
def fitsB (g:PlG) (sz:Nat) (s:CyP):Bool:=decide (usedL g.L s.A+sz<=g.q)
def hpSlot (tn:Nat) (T:List jk) (w:Nat):Option Int:=
 if capG w≠0/\capT w=tn then(J2 T (capI w:Nat) (capG w:Nat)).map (·.slot) else none
def jaU (tn:Nat) (T:List jk):Nat:=capW tn (JT T).1.toNat (JT T).2.1.toNat
def JY (C:HpC):Nat->HpP->HpP
 |0,h=>h
 |d+1,h=>match jM C.g C.long h.s with
  |none=>h
  |some s'=>JY C d ⟨s',{h.p with debt:=d},h.wk+1⟩
def jcc (C:HpC) (due:Nat) (h:HpP):HpP:=if due=1 then jb4 C h else if due=2 then jbr C h else h
def jdd (C:HpC) (n:Nat) (h:HpP):HpP:=
 jcc C (Jz C.tr C.ast n h.p).1 (JY C (Jz C.tr C.ast n h.p).2.debt {h with p:=(Jz C.tr C.ast n h.p).2})
def mkC (g:PlG) (s:CyP) (k:Int) (hd:HdP):CyP:=
  {s with A:=(jX g s.A k).2.2,m:=Jd s.m (jX g s.A k).1.toNat,
           W:={s.W with T:=jS s.W.T (jX g s.A k).1,x:=(makeP s.W.x (jv g (jX g s.A k).1) hd).2}}
def classI (g:PlG) (need:Int):Nat:=g.cl.findIdx fun(y:Nat)=>decide (need<=(y:Nat))
def allocR (C:HpC) (h:HpP) (k:Nat):HpP:=hpRoom C (fun s=>fitsB C.g (C.g.y k) s&&freeB s) h
def hpAlloc (C:HpC) (h:HpP) (a b:Int):SnP × HpP:=
  if Jb ⟨0,a,b⟩=false then(told 50,h)
  else if classI C.g (a+b+1)=C.g.cl.length then(told 50,h)
  else if fitsB C.g (C.g.y (classI C.g (a+b+1))) (allocR C h (classI C.g (a+b+1))).s=false then(told 100,allocR C h (classI C.g (a+b+1)))
  else if freeB (allocR C h (classI C.g (a+b+1))).s=false then(told 131,allocR C h (classI C.g (a+b+1)))
  else
    ({told 0 with h:=jaU C.tn (allocR C h (classI C.g (a+b+1))).s.W.T,addr:=((jv C.g (jX C.g (allocR C h (classI C.g (a+b+1))).s.A (classI C.g (a+b+1):Nat)).1).addr:Nat)},
     jdd C (C.g.y (classI C.g (a+b+1))) {allocR C h (classI C.g (a+b+1)) with s:=mkC C.g (allocR C h (classI C.g (a+b+1))).s (classI C.g (a+b+1):Nat) ⟨(classI C.g (a+b+1):Nat),a,b⟩})
def jax (x:List Int) (y:jn) (i:Int):Bool × Int:=JJ ((headP x y).getD ⟨0,0,0⟩) i
def readC (g:PlG) (long:Nat) (s:CyP) (t:Int):CyP:={shdC g long s t with W:={(shdC g long s t).W with T:=jS (shdC g long s t).W.T t}}
def jaK (C:HpC) (h:HpP) (sl a:Int):SnP × HpP:=
 if (jax h.s.W.x (jv C.g sl) a).2≠0 then(told (jax h.s.W.x (jv C.g sl) a).2,h)
 else if (jax h.s.W.x (jv C.g sl) a).1=false then({told 0 with w:=(wordP h.s.W.x (jv C.g sl) a).1},h)
 else if (refP h.s.W.x C.g.slots (jv C.g sl) a).1<0 then(told 0,h)
 else if freeB (hpRoom C freeB h).s=false then(told 131,hpRoom C freeB h)
 else({told 0 with h:=jaU C.tn (hpRoom C freeB h).s.W.T},{hpRoom C freeB h with s:=readC C.g C.long (hpRoom C freeB h).s (refP h.s.W.x C.g.slots (jv C.g sl) a).1})
def jcR (g:PlG) (s:CyP) (sl i w:Int):CyP:={s with W:={s.W with x:=(J6 s.W.x (jv g sl) i w).2}}
def toW (C:HpC) (h:HpP) (v:Nat):Int:=if v=0 then-1 else(hpSlot C.tn h.s.W.T v).getD (-1)
def jaZ (C:HpC) (h:HpP) (sl a:Int) (v:Nat):SnP × HpP:=
 if (jax h.s.W.x (jv C.g sl) a).2≠0 then(told (jax h.s.W.x (jv C.g sl) a).2,h)
 else if (jax h.s.W.x (jv C.g sl) a).1=false then(told (J6 h.s.W.x (jv C.g sl) a (v:Nat)).1,{h with s:=jcR C.g h.s sl a (v:Nat)})
 else if v≠0/\(hpSlot C.tn h.s.W.T v).isNone=true then(told 130,h)
 else(told 0,{h with s:=putC C.g (shdO C.g C.long (shdO C.g C.long h.s (refP h.s.W.x C.g.slots (jv C.g sl) a).1) (toW C h v)) sl a (toW C h v)})
def jcN (h:HpP) (sl:Int):SnP × HpP:=(told (if (h.s.W.N[sl.toNat]?).getD 0<255 then 0 else 140),{h with s:={h.s with W:={h.s.W with N:=JQ h.s.W.N sl.toNat}}})
def jb0 (C:HpC) (h:HpP) (sl:Int):SnP × HpP:=
 if (h.s.W.N[sl.toNat]?).getD 0=0 then(told 140,h)
 else(told 0,{h with s:={shdC C.g C.long h.s sl with W:={(shdC C.g C.long h.s sl).W with N:=JX (shdC C.g C.long h.s sl).W.N sl.toNat}}})
def jcP (C:HpC) (h:HpP) (sl:Int) (w:Nat):SnP × HpP:=
 (told 0,{h with s:={shdC C.g C.long h.s sl with W:={(shdC C.g C.long h.s sl).W with T:=Jr (shdC C.g C.long h.s sl).W.T (capI w:Nat)}}})
def jai (x:List Int) (y:jn):List Int:=match headP x y with
 |some h=>(List.range h.w.toNat).map fun i=>(wordP x y (h.r+((i:Nat):Int))).1
 |none=> []
def jcO (C:HpC) (h:HpP) (sl:Int):SnP × HpP:=({told 0 with w:=Go.Proofs.YtciaccbemnpipaaGreatDoor.sumP (jai h.s.W.x (jv C.g sl))},h)
def hpOp (C:HpC) (h:HpP) (op:OpP) (sl:Int):SnP × HpP:=
 if op.c=2 then jaK C h sl op.a
 else if op.c=3 then jaZ C h sl op.a op.v
 else if op.c=4 then jcN h sl
 else if op.c=5 then jb0 C h sl
 else if op.c=6 then jcP C h sl op.h
 else jcO C h sl
def hpDoes (C:HpC) (h:HpP) (op:OpP):SnP × HpP:=
 if op.c<1\/7<op.c then(told 250,h)
 else if op.c=1 then hpAlloc C h op.a op.b
 else match hpSlot C.tn h.s.W.T op.h with
  |none=>(told 130,h)
  |some sl=>({(hpOp C h op sl).1 with addr:=((jv C.g sl).addr:Nat)},(hpOp C h op sl).2)
def jen (C:HpC) (h:HpP) (q:SnP):SnP:=
 {q with used:=(usedL C.g.L h.s.A:Nat),since:=(min h.p.since 2147483647:Nat),cyc:=(min h.p.cyc 2147483647:Nat),act:=h.p.act}
def Js (C:HpC) (h:HpP) (op:OpP):SnP × HpP:=
 (jen C (hpDoes C {h with wk:=0} op).2 (if (hpDoes C {h with wk:=0} op).1.e=0 then(hpDoes C {h with wk:=0} op).1 else told (hpDoes C {h with wk:=0} op).1.e),(hpDoes C {h with wk:=0} op).2)
def jaQ (C:HpC) (h:HpP) (k u:Int):Bool × HpP:=
 if 0<=k/\k<(C.nw:Nat) then(match stepC C.g C.long C.nw h.s k u with
  |some s'=>(true,{h with s:=s'})
  |none=>(false,h)) else(false,h)
structure MpR (k:MkM) (B:BoM) (T:TbM) (N:PiM) (W:MwP):Prop where
 bo:jaf B W.x
 tb:TbOk T
 pi:PiOk N
 eT:T.l=W.T
 eN:N.l=W.N
 bb:k.bb=B.b
 tbb:k.tb=T.b
 nb:k.nb=N.b
 w:Jv B.p.g W
theorem MpR.to {k k':MkM} {B:BoM} {T:TbM} {N:PiM} {W:MwP} (h:MpR k B T N W) (ht:MkTo k k'):MpR k' B T N W:=⟨h.bo,h.tb,h.pi,h.eT,h.eN,ht.bb.trans h.bb,ht.tb.trans h.tbb,ht.nb.trans h.nb,h.w⟩
def seenH (B:BoM) (T:TbM) (N:PiM):jb:=jT B++(jy B.m++(jF T++J0 N))
theorem seenH_app {B:BoM} {T:TbM} {N:PiM} {F:jb}:seenH B T N++F=jT B++(jy B.m++(jF T++(J0 N++F))):=by unfold seenH;simp only[List.append_assoc]
structure SkS where
 sl:Int
 is:Bool
section
variable {w0 : World} {F : jb} {k : MkM} {B : BoM} {T : TbM} {N : PiM} {W : MwP} {m : MaP}
theorem jiA (hp:MpR k B T N W) (ok:MkOk k B.p):
  Cs w0 258 [pt k.b] (jr k B.p++(planH B.p++(seenH B T N++F))) (.int .i64 ((W.T.length+B.p.g.slots:Nat):Int)):=by
 have okT:=hp.tb
 have okp:=hp.bo.p
 have hsl:=okp.g.slots
 have hn:=okT.n
 have e1:=hp.tbb
 have hT:=hp.eT
 have e2:((T.l.length:Nat):Int)+((B.p.g.slots:Nat):Int)=((W.T.length+B.p.g.slots:Nat):Int):=by rw[hT];rfl
 have hlen:=fun A=>jgZ (w0:=w0) (F:=A) okT
 simp only[<-e1] at hlen;refine en1 14 Tryz.func258 ?_;simp only[js,seenH_app];refine yr6 ?_;refine K.dr _ [(0,0),(1,0),(2,0),(3,0),(5,1),(6,1),(7,1),(8,1),(4,2),(9,2),(10,0),(11,0)] Part.all ?_;refine yr9 ?_;refine ji (hlen _) ja ⟨ja,?_⟩;refine yr1 ?_;refine ji (jc9 okp) ja ⟨ja,?_⟩;refine yr5 ?_;rw[e2];exact zb1
theorem mkseek_K {hv:Value} (hp:MpR k B T N W) (ok:MkOk k B.p) (hR:MkR k B.p m) (hm:jw B.p.g k.g.ring.length W m):
  Call Tryz.prog w0 262 [pt k.b,hv] (jr k B.p++(planH B.p++(seenH B T N++F)))
   (fun r H'=>r= .bool (rootM B.p.g k.g.ring.length W m).isSome/\ ∃ k',MkOk k' B.p/\MkTo k k'/\MkR k' B.p ((rootM B.p.g k.g.ring.length W m).getD m)/\H'=jr k' B.p++(planH B.p++(seenH B T N++F))):=by
 have okT:=hp.tb
 have okN:=hp.pi
 have okp:=hp.bo.p
 have hsl:=okp.g.slots
 have hn:=okT.n
 have e1:=hp.tbb
 have e3:=hp.nb
 have hT:=hp.eT
 have hNl:N.l.length=B.p.g.slots:=by rw[hp.eN];exact hp.w.N
 have hroots:=fun A=>jiA (w0:=w0) (F:=A) hp ok
 have hrt:=hm.root
 have hr:=hR.root
 rw[<-hr] at hrt
 have hTl:T.l.length=W.T.length:=by rw[hT]
 by_cases hlt:m.root<W.T.length+B.p.g.slots
 ·have hrm:rootM B.p.g k.g.ring.length W m=some (Jf B.p.g k.g.ring.length {m with root:=m.root+1} (jL B.p.g W m.root)):=by unfold rootM;rw [if_pos hlt]
  rw[hrm,jhI];simp only[Option.isSome,Option.getD]
  have hne: ¬((k.root:Nat):Int)=((W.T.length+B.p.g.slots:Nat):Int):=by omega
  have hslot:=fun A=>tbSlot_K (w0:=w0) (F:=A) (i:=k.root) okT
  have hlen:=fun A=>jgZ (w0:=w0) (F:=A) okT
  simp only[<-e1] at hslot hlen;refine en2 58 Tryz.func262 ?_;simp only[js,seenH_app];refine yr7 ?_;refine K.dr _ (od 0 [1,1,1,1,0,2,0]) Part.all ?_;refine yr6 ?_;refine zaZ ?_;rintro _ _ ⟨rfl,rfl⟩;simp only[js,seenH_app];refine yr8 ?_;refine K.dr [] (od 0 [0,0,0,0,0,0,0,0,2,0,0,0,0,0]) Part.nil ?_;refine yr9 ?_;refine ji (hslot _) bj ⟨ja,?_⟩;refine yr9 ?_;refine K.dr _ (od 0 [1,1,1,1,0,0,0,0,2,0,0]) Part.all ?_;refine yr9 ?_;refine ji (hlen _) bj ⟨ja,?_⟩;refine yr4 ?_;refine K.cutE (σ:=SkS) [(0,_)] jg (fun s kp_=>(5, .int .i64 s.sl)::(6, .bool s.is)::kp_) (fun s=>jr k B.p++(planH B.p++(seenH B T N++F))) (fun s=>jL B.p.g W m.root=(if s.is=true then some s.sl else none)) ?_ ?_
  ·by_cases hrl:k.root<T.l.length
   ·have hat: ¬((k.root:Nat):Int)-((T.l.length:Nat):Int)>=0:=by omega
    have hro:jL B.p.g W m.root=Ji T.l (k.root:Nat):=by
     unfold jL Ji;rw[if_pos (show(0:Int)<=(k.root:Nat) by omega),Int.toNat_natCast,<-hr,<-hT]
     obtain⟨e,he⟩:=jq hrl
     rw[he]
    refine yr8 ?_;exact KE.meet ⟨(Ji T.l (k.root:Nat)).getD 0,(Ji T.l (k.root:Nat)).isSome⟩ jg bj (by rw[hro];cases Ji T.l (k.root:Nat)<;>rfl)
   ·have hj:((k.root:Nat):Int)-((T.l.length:Nat):Int)=((k.root-T.l.length:Nat):Int):=by omega
    have hat:((k.root-T.l.length:Nat):Int)>=0:=by omega
    obtain⟨c,hc⟩:=jq (l:=N.l) (k:=k.root-T.l.length) bc
    have hcnt:=fun A=>jix (w0:=w0) (F:=A) (s:=((k.root-T.l.length:Nat):Int)) okN
    rw[if_pos bc,Int.toNat_natCast,hc] at hcnt;simp only[Option.getD,<-e3] at hcnt
    have hro:jL B.p.g W m.root=if decide (0<c)=true then some ((k.root-T.l.length:Nat):Int) else none:=by
     unfold jL;rw[<-hr,<-hT,<-hp.eN,List.getElem?_eq_none bc];dsimp only;rw[hc];simp only[Option.getD,decide_eq_true_eq]
    rw[hj];refine yr15 ?_;refine ji (hcnt _) bj ?_;refine yr4 ?_;exact KE.meet ⟨((k.root-T.l.length:Nat):Int),decide (0<c)⟩ jg bj hro
  ·rintro⟨sl,is⟩ hro;dsimp only at hro|-
   cases is with
   |true=>
    rw[if_pos rfl] at hro
    have hin:=jeD hp.w hlt hro
    obtain⟨q,rfl⟩: ∃ q:Nat,sl=q:=⟨sl.toNat,by omega⟩
    rw[hro]
    have hsh:=fun A=>jgg (w0:=w0) (F:=A) ok hR (s:=q) bc
    obtain⟨m1,hm1⟩: ∃ m1,m1=Jt B.p.g k.g.ring.length m ((q:Nat):Int):=⟨_,rfl⟩
    have hm1r:m1.root=m.root:=by rw[hm1];exact(jgx _).2.1
    have hso:Jf B.p.g k.g.ring.length m (some ((q:Nat):Int))=m1:=hm1.symm
    rw[hso];simp only[<-hm1] at hsh;refine yr11 ?_;refine je (hsh _) ja ?_;rintro _ _ ⟨rfl,k',kok,kto,kR,rfl⟩
    have hk'r:k'.root=k.root:=kR.root.trans (hm1r.trans hr.symm)
    have e5:((k'.root:Nat):Int)+1=((k'.root+1:Nat):Int):=by omega
    rw[<-kto.b];simp only[js,seenH_app];refine yr20 ?_;rw[e5];exact KE.fin (H':=jr {k' with root:=k'.root+1} B.p++(planH B.p++(seenH B T N++F))) jd rfl jc bN
     ⟨rfl,{k' with root:=k'.root+1},⟨kok.c,kok.g,kok.n,kok.o,kok.hs⟩,⟨⟨kto.b,kto.bb,kto.tb,kto.nb,kto.n,kto.l⟩,kto.f,kto.cb,kto.gb,kto.o⟩,⟨kR.C,kR.G,kR.hs,by show k'.root+1=m.root+1;rw [hk'r,hr],kR.act,kR.steps⟩,by simp only[js,seenH_app]⟩
   |false=>
    rw[if_neg bn] at hro;rw[hro]
    have hso:Jf B.p.g k.g.ring.length m none=m:=rfl
    rw[hso]
    have e5:((k.root:Nat):Int)+1=((k.root+1:Nat):Int):=by omega
    simp only[js,seenH_app];refine yr27 ?_;rw[e5];exact KE.fin (H':=jr {k with root:=k.root+1} B.p++(planH B.p++(seenH B T N++F))) jd rfl jc bN
     ⟨rfl,{k with root:=k.root+1},⟨ok.c,ok.g,ok.n,ok.o,ok.hs⟩,⟨⟨rfl,rfl,rfl,rfl,rfl,rfl⟩,rfl,rfl,rfl,rfl⟩,⟨hR.C,hR.G,hR.hs,by show k.root+1=m.root+1;rw [hr],hR.act,hR.steps⟩,by simp only[js,seenH_app]⟩
 ·have hrm:rootM B.p.g k.g.ring.length W m=none:=by unfold rootM;rw [if_neg hlt]
  rw[hrm];simp only[Option.isSome,Option.getD]
  have hne:((k.root:Nat):Int)=((W.T.length+B.p.g.slots:Nat):Int):=by omega
  refine en2 58 Tryz.func262 ?_;simp only[js,seenH_app];refine yr7 ?_;refine K.dr _ (od 0 [1,1,1,1,0,2,0]) Part.all ?_;refine yr6 ?_;refine zaZ ?_;rintro _ _ ⟨rfl,rfl⟩;simp only[js,seenH_app];refine yr12 ?_;exact zap
end
end Go.Proofs.YtciaccbemnpipaaGreatDoor.Sw
namespace Go.Proofs.YtciaccbemnpipaaGreatDoor
open Go.RowKit
section
variable {P : Program} {w0 : World} {m : jo} {H : jb} {ty : TypeId}
theorem Val.indexV {t e:TypeId} {x y:Operand} {cs ds:List Value} {len z off:Nat} {i:Int} {k:IntKind} (hx:evO m x=some (.agg cs.toArray)) (hy:evO m y=some (.int k i)) (ht:jcI P t=some (len,e)) (hz:Ju P e=some z) (h1:jbI P e=true) (hj:0<=i/\i<len) (ho:i.toNat*z=off) (hd:Seg cs off z ds):Val P w0 H m ty (.index t x y) (.agg ds.toArray):=
 ⟨by simp[jB,cov,hx,hy],fun w d pos af g _=>by
  have hu:P.underlying t=some (.array len e):=by unfold jcI at ht;split at ht<;>simp_all
  have hp:=jf6 (P:=P) w (cs:=cs.toArray) (off:=off) h1 hz
  have hd:=hd.eq.1
  subst hd
  have hr:(Instr.index t (.agg cs.toArray) (.int k i)).run P w= .ok (.agg ((cs.drop off).take z).toArray) w:=by
   simp[Instr.index,asIntOf,JG w hu,hj.1,hj.2,jaO w hz,ho,hp,List.take_drop]
  simp[execOp,evS,hx,hy,hr]⟩
end
end Go.Proofs.YtciaccbemnpipaaGreatDoor
namespace Go.Proofs.YtciaccbemnpipaaGreatDoor.Sw
open Go.Proofs.YtciaccbemnpipaaGreatDoor renaming lo -> qL, hi -> qH
set_option maxRecDepth 10000
section
variable {w0 : World} {F : jb} {k : MkM} {B : BoM} {T : TbM} {N : PiM} {W : MwP} {m : MaP}
theorem htake_K {L:List J3} {o:Own} {n i s:Nat} (ho:oOk Jn L o) (hn:n=L.length) (hi:i<L.length):
  Call Tryz.prog w0 265 [.pointer (some (adr (oV o n) (i*Jn.sz))), .int .i64 (s:Nat)] (oH Jn 291 L o++F) (fun r H'=>r= .tuple #[]/\H'=oH Jn 291 (L.set i ⟨(s:Nat),0,true⟩) o++F):=by
 obtain⟨h,hh⟩:=jq hi
 refine en2 8 Tryz.func265 ?_
 skip
 refine zg ?_;refine yr4 ?_;refine KL.eN (Eff.stSlA (x1:=(⟨(s:Nat),0,true⟩:J3)) rfl rfl rfl rfl jt ho hh) ?_;rintro _ _ rfl;refine yr1 ?_;exact zaX
theorem mktake_K {i:Nat} (ok:MkOk k B.p) (hR:MkR k B.p m) (hi:i<k.hs.length):
  Call Tryz.prog w0 263 [pt k.b, .pointer (some (adr (oV k.o k.hs.length) (i*Jn.sz)))] (jr k B.p++F)
   (fun r H'=>(m.G.q=[]/\r= .bool false/\H'=jr k B.p++F)\/ ∃ (s:Nat) (q:List Nat) (k':MkM),m.G.q=s::q/\r= .bool true/\MkOk k' B.p/\MkTo k k'/\MkR k' B.p {m with G:={m.G with q:=q},hs:=m.hs.set i ⟨(s:Nat),0,true⟩}/\H'=jr k' B.p++F):=by
 have okg:=ok.g
 have ho:=ok.o
 have hnx:=fun A=>grNext_K (w0:=w0) (F:=A) okg hR.G
 refine en2 20 Tryz.func263 ?_;simp only[js,seenH_app];refine yq11 fun T hT=>?_;refine(CallV.part (CallV.fn (hnx _)) ja).mono ?_;rintro _ _ (⟨hq,rfl,rfl⟩|⟨s,q,g',hq,rfl,kg,gb,gl,gR,rfl⟩)
 ·refine ze ?_;clear hT T;refine yr23 ?_;exact zb2
 ·refine ze ?_;clear hT T;refine yr18 ?_;refine ji (htake_K (s:=s) ho rfl hi) ja ?_;refine yr9 ?_;rw[<-gb];exact KE.fin (H':=jr {k with g:=g',hs:=k.hs.set i ⟨(s:Nat),0,true⟩} B.p++F) jd rfl jc (by simp only[js,List.length_set];exact ja)
   (.inr ⟨s,q,{k with g:=g',hs:=k.hs.set i ⟨(s:Nat),0,true⟩},hq,rfl,⟨ok.c,kg,ok.n,ok.o.set _ _,by simpa using ok.hs⟩,⟨⟨rfl,rfl,rfl,rfl,by simp,gl⟩,rfl,rfl,gb,rfl⟩,⟨hR.C,gR,by show k.hs.set i _=_;rw [hR.hs],hR.root,hR.act,hR.steps⟩,by simp only[js]⟩)
def wtM (m:MaP) (i:Nat) (o:Option Nat) (G:GyP):MaP:=match o with
 |none=>{m with G:=G}
 |some s=>{m with G:=G,hs:=m.hs.set i ⟨(s:Nat),0,true⟩}
theorem jiX {g:PlG} {m:MaP} {i:Nat} (hq:walkG g m.G=none):walkM g m i=none:=by
 unfold walkM;rw [hq];split<;>rfl
theorem jhS {g:PlG} {m:MaP} {i:Nat} {o:Option Nat} {G:GyP} (hn:(JU m i).is=false) (hq:walkG g m.G=some (o,G)):walkM g m i=some (wtM m i o G):=by
 unfold walkM;rw [hq,if_neg (by rw[hn];decide)];cases o<;>rfl
theorem mkwalk_K {i:Nat} (hG:ju w0) (ok:MkOk k B.p) (hR:MkR k B.p m) (hm:jw B.p.g k.g.ring.length W m) (hi:i<k.hs.length):
  Call Tryz.prog w0 267 [pt k.b, .pointer (some (adr (oV k.o k.hs.length) (i*Jn.sz)))] (jr k B.p++(planH B.p++F))
   (fun r H'=>(walkG B.p.g m.G=none/\r= .bool false/\H'=jr k B.p++(planH B.p++F))\/ ∃ (o:Option Nat) (G':GyP) (k':MkM),walkG B.p.g m.G=some (o,G')/\r= .bool true/\MkOk k' B.p/\MkTo k k'/\MkR k' B.p (wtM m i o G')/\H'=jr k' B.p++(planH B.p++F)):=by
 have okg:=ok.g
 have ho:=ok.o
 have hw:=fun A=>grWalk_K (w0:=w0) (F:=A) hG okg hR.G hm.G
 refine en2 22 Tryz.func267 ?_;simp only[js,seenH_app];refine yq11 fun T hT=>?_;refine(CallV.part (CallV.fn (hw _)) ja).mono ?_;rintro _ _ (⟨hq,rfl,rfl⟩|⟨o,G',g',hq,rfl,kg,gb,gl,gR,rfl⟩)
 ·refine ze ?_;clear hT T;refine yr25 ?_;exact zb2
 ·cases o with
  |none=>
   unfold nxI;dsimp only[Option.isSome,Option.getD];refine ze ?_;clear hT T;refine yr25 ?_;rw[<-gb];exact KE.fin (H':=jr {k with g:=g'} B.p++(planH B.p++F)) jd rfl jc Bu
    (.inr ⟨none,G',{k with g:=g'},hq,rfl,⟨ok.c,kg,ok.n,ok.o,ok.hs⟩,⟨⟨rfl,rfl,rfl,rfl,rfl,gl⟩,rfl,rfl,gb,rfl⟩,⟨hR.C,gR,hR.hs,hR.root,hR.act,hR.steps⟩,by simp only[js]⟩)
  |some s=>
   unfold nxI;dsimp only[Option.isSome,Option.getD];refine ze ?_;clear hT T;refine yr20 ?_;refine ji (htake_K (s:=s) ho rfl hi) ja ?_;refine yr9 ?_;rw[<-gb];exact KE.fin (H':=jr {k with g:=g',hs:=k.hs.set i ⟨(s:Nat),0,true⟩} B.p++(planH B.p++F)) jd rfl jc (by simp only[js,List.length_set];exact ja)
    (.inr ⟨some s,G',{k with g:=g',hs:=k.hs.set i ⟨(s:Nat),0,true⟩},hq,rfl,⟨ok.c,kg,ok.n,ok.o.set _ _,by simpa using ok.hs⟩,⟨⟨rfl,rfl,rfl,rfl,by simp,gl⟩,rfl,rfl,gb,rfl⟩,⟨hR.C,gR,by show k.hs.set i _=m.hs.set i _;rw [hR.hs],hR.root,hR.act,hR.steps⟩,by simp only[js]⟩)
def jb2:Value:= .agg [.bool false, .bool false, .nilFunc, .bool false, .bool true, .func (.func 262) #[] #[], .bool false, .bool false, .func (.func 263) #[] #[], .bool true, .bool false, .func (.func 266) #[] #[], .bool false, .bool false, .func (.func 267) #[] #[]].toArray
theorem micros_K {H:jb}:Cs w0 173 [] H jb2:=by
 unfold jb2;refine en0 6 Tryz.func173 ?_
 (iterate 17 first|refine yS ?_|intro _)
 exact zd
end
open Go.RowKit
theorem Call.at_ {P:Program} {w0:World} {f:FuncId} {args:List Value} {H H':jb} {R R':Value->jb->Prop} (h:Call P w0 f args H' R) (hp:Part H H') (hr: ∀ v H1,R v H1-> ∃ H2,R' v H2/\Part H1 H2):Call P w0 f args H R':=
 ⟨h.ent,fun w hw=>(h.out w (hw.part hp)).mono (by
  rintro e w' ⟨v,H1,he,hh,hR⟩
  obtain⟨H2,h2,hp⟩:=hr _ _ hR
  exact⟨v,H2,he,hh.part hp,h2⟩)⟩
structure CyM where
 b:Nat
 B:BoM
 a:ArM
 T:TbM
 N:PiM
 k:MkM
 s:SpM
 nw:Nat
 ph:Nat
 st:Nat
def cycH (y:CyM):jb:=(y.b,cells [pt y.B.p.b,pt y.a.b,pt y.B.b,pt y.T.b,pt y.N.b,pt y.k.b,pt y.s.b, .int .i64 (y.nw:Nat), .int .u8 (y.ph:Nat), .int .i64 (y.st:Nat)] 153)::(jao y.s++(jW y.a y.B.p++(jr y.k y.B.p++(planH y.B.p++(jT y.B++(jF y.T++(J0 y.N++jy y.B.m)))))))
theorem cycH_app {y:CyM} {F:jb}:cycH y++F=(y.b,cells [pt y.B.p.b,pt y.a.b,pt y.B.b,pt y.T.b,pt y.N.b,pt y.k.b,pt y.s.b, .int .i64 (y.nw:Nat), .int .u8 (y.ph:Nat), .int .i64 (y.st:Nat)] 153)::(jao y.s++(jW y.a y.B.p++(jr y.k y.B.p++(planH y.B.p++(jT y.B++(jF y.T++(J0 y.N++(jy y.B.m++F)))))))):=by
 unfold cycH;simp only[List.cons_append,List.append_assoc]
structure CpM (y:CyM) (s:CyP):Prop where
 p:MpR y.k y.B y.T y.N s.W
 ok:MkOk y.k y.B.p
 R:MkR y.k y.B.p s.m
 oka:jag y.a y.B.p
 A:y.a.r.bs=s.A
 oks:SpOk y.s y.B.p.g.slots
 sa:y.s.act=s.sa
 at_:y.s.at_=s.at_
 D:y.s.d.bs=s.D
 ab:y.s.ab=y.a.b
 bb:y.s.bb=y.B.b
 mb:y.s.mb=y.k.b
 ph:y.ph=s.ph
 st:y.st=s.st
 nw:y.k.hs.length=y.nw+1
structure JI (y y':CyM) (x:List Int) (n:Nat):Prop where
 b:y'.b=y.b
 B:y'.B=ja4 y.B x
 a:y'.a.b=y.a.b
 T:y'.T.b=y.T.b
 G:y'.T.gens=y.T.gens
 N:y'.N.b=y.N.b
 k:MkAs y.k y'.k
 f:y'.k.c.f=y.k.c.f+n
 s:y'.s.b=y.s.b
 nw:y'.nw=y.nw
theorem jml {B:BoM} {x z:List Int}:ja4 (ja4 B x) z=ja4 B z:=by unfold ja4;rw [jjs]
theorem MkAs.trans {a b c:MkM} (h:MkAs a b) (h':MkAs b c):MkAs a c:=⟨h'.b.trans h.b,h'.bb.trans h.bb,h'.tb.trans h.tb,h'.nb.trans h.nb,h'.n.trans h.n,h'.l.trans h.l⟩
theorem JI.refl {y:CyM} {s:CyP} (h:CpM y s):JI y y s.W.x 0:=⟨rfl,(jbj h.p.bo).symm,rfl,rfl,rfl,rfl,⟨rfl,rfl,rfl,rfl,rfl,rfl⟩,rfl,rfl,rfl⟩
theorem JI.trans {y y' y'':CyM} {x x':List Int} {n n':Nat} (h:JI y y' x n) (h':JI y' y'' x' n'):JI y y'' x' (n+n'):=
 ⟨h'.b.trans h.b,by rw[h'.B,h.B,jml],h'.a.trans h.a,h'.T.trans h.T,h'.G.trans h.G,h'.N.trans h.N,h.k.trans h'.k,by rw[h'.f,h.f];omega,h'.s.trans h.s,h'.nw.trans h.nw⟩
theorem JI.p {y y':CyM} {x:List Int} {n:Nat} (h:JI y y' x n):y'.B.p=y.B.p:=by rw[h.B];rfl
structure CpR (g:PlG) (long:Nat) (y:CyM) (s:CyP):Prop extends CpM y s where
 eg:y.B.p.g=g
 el:y.k.g.ring.length=long
 i:jp g long s
 le:j0 g s
def CyQ (g:PlG) (long:Nat) (y:CyM) (n:Nat) (F:jb) (s':CyP) (H':jb):Prop:= ∃ y',CpR g long y' s'/\JI y y' s'.W.x n/\H'=cycH y'++F
section
variable {w0 : World} {F : jb} {y : CyM}
theorem jbx:Cs w0 61 [pt y.b] (cycH y++F) (.bool false):=by
 refine en1 12 Tryz.func61 ?_;simp only[cycH_app,seenH_app];refine yr20 ?_;exact zy
theorem jeP:Cs w0 101 [pt y.b] (cycH y++F) (.int .u8 (y.ph:Nat)):=by
 refine en1 9 Tryz.func101 ?_;refine yr10 ?_;refine ji jbx ja ?_;simp only[cycH_app,seenH_app];refine yr15 ?_;exact zy
theorem cyPlan_K:Cs w0 59 [pt y.b] (cycH y++F) (pt y.B.p.b):=by
 refine en1 9 Tryz.func59 ?_;refine yr10 ?_;refine ji jbx ja ?_;simp only[cycH_app,seenH_app];refine yr15 ?_;exact zy
theorem cyArena_K:Cs w0 29 [pt y.b] (cycH y++F) (pt y.a.b):=by
 refine en1 9 Tryz.func29 ?_;refine yr10 ?_;refine ji jbx ja ?_;simp only[cycH_app,seenH_app];refine yr15 ?_;exact zy
theorem cyBody_K:Cs w0 197 [pt y.b] (cycH y++F) (pt y.B.b):=by
 refine en1 9 Tryz.func197 ?_;refine yr10 ?_;refine ji jbx ja ?_;simp only[cycH_app,seenH_app];refine yr15 ?_;exact zy
theorem cyTable_K:Cs w0 122 [pt y.b] (cycH y++F) (pt y.T.b):=by
 refine en1 9 Tryz.func122 ?_;refine yr10 ?_;refine ji jbx ja ?_;simp only[cycH_app,seenH_app];refine yr15 ?_;exact zy
theorem cyPins_K:Cs w0 208 [pt y.b] (cycH y++F) (pt y.N.b):=by
 refine en1 9 Tryz.func208 ?_;refine yr10 ?_;refine ji jbx ja ?_;simp only[cycH_app,seenH_app];refine yr15 ?_;exact zy
end
section
variable {w0 : World} {F : jb} {y : CyM} {s : CyP} {g : PlG} {long : Nat}
theorem cCount_K {t:Nat} (h:CpR g long y s):Cs w0 210 [pt y.N.b, .int .i64 (t:Nat)] (cycH y++F) (.int .i64 ((s.W.N[t]?).getD 0)):=by
 have hc:=Call.ro (w0:=w0) (A:=J0 y.N) (H:=cycH y++F) (fun F=>jix (F:=F) (s:=(t:Nat)) h.p.pi) bP
 rw[if_pos bc,Int.toNat_natCast,h.p.eN] at hc;exact hc
theorem cAll_K (h:CpR g long y s):Call Tryz.prog w0 15 [pt y.B.m.b] (cycH y++F)
  (fun r H'=> ∃ o,oOk uE y.B.m.R.flatten o/\r=oV o y.B.m.R.flatten.length/\H'=oH uE 67 y.B.m.R.flatten o++(cycH y++F)):=by
 refine Call.at_ (All_K h.p.bo.m) bL ?_;rintro _ _ ⟨o,ko,rfl,rfl⟩;exact⟨_,⟨o,ko,rfl,rfl⟩,by simp only[cycH_app];exact ja⟩
