/-The walker and the contracts that the law needs,part 27. -/
import Derived.Test.YtebiafomiemgbaaGreatDoorJ24
import Derived.Test.YtebiafomiemgbaaGreatDoorJ26
set_option linter.unusedVariables false set_option linter.unusedSimpArgs false set_option linter.unusedVariables false
set_option linter.unusedSimpArgs false
namespace Go.Proofs.YtebiafomiemgbaaGreatDoor.Sw
set_option maxHeartbeats 8000000
open Go.Proofs.YtebiafomiemgbaaGreatDoor renaming lo → qL, hi → qH
open Go.RowKit
set_option maxRecDepth 10000
structure AeS where
 k:Nat
 A:jb
theorem each1_K {w0:World} {F A0:jb} {r:jaM} {bl:Nat} {yv:Value} (hG:ji w0) (ok:RowOk r) (J:Nat→jb→Prop) (E:jb→Prop)
  (hy: ∀ k i A,J k A→nextB r.bs k true=some i→CallV Tryz.prog w0 yv [.int .i64 (i:Nat)] (A++((bl,cells [.pointer (some ⟨r.b,0,none⟩)] 129)::(jN r++F)))
   (fun u H'=>(u= .bool true∧ ∃ A',J (i+1) A'∧H'=A'++((bl,cells [.pointer (some ⟨r.b,0,none⟩)] 129)::(jN r++F)))∨(u= .bool false∧ ∃ A',E A'∧H'=A'++((bl,cells [.pointer (some ⟨r.b,0,none⟩)] 129)::(jN r++F)))))
  (h0:J 0 A0):
  Call Tryz.prog w0 346 [yv, .pointer (some ⟨bl,0,none⟩)] (A0++((bl,cells [.pointer (some ⟨r.b,0,none⟩)] 129)::(jN r++F)))
   (fun _ H'=> ∃ A',H'=A'++((bl,cells [.pointer (some ⟨r.b,0,none⟩)] 129)::(jN r++F))∧((∃ k,nextB r.bs k true=none∧J k A')∨E A')):=by
 have hn:=ok.n
 refine Call.enter2 (n:=22) (by rfl) Tryz.func346 rfl rfl rfl ?_;refine zG ?_;refine zaI ?_;refine jn (jhz (k:=0) (v:=true) ok hG (by omega)) ja ?_;refine zY ?_;refine zh8 ?_;refine K.loopT (σ:=AeS) [(0,_),(1,_)] (fun s kp_=>(3, .int .i64 (nxI (nextB r.bs s.k true)))::(4, .bool (nextB r.bs s.k true).isSome)::kp_) (fun s=>s.A++((bl,cells [.pointer (some ⟨r.b,0,none⟩)] 129)::(jN r++F))) (fun s=>J s.k s.A) (fun s=>r.bs.length+1-s.k) (⟨0,A0⟩) jc ja (h0) ?_;rintro⟨k,A⟩ hJ;dsimp only at hJ⊢
 cases hnx:nextB r.bs k true with
 |none=>
  unfold nxI;dsimp only[Option.isSome,Option.getD];refine zaF ?_;refine zdx ?_;exact KE.finN je rfl jd ja ⟨A,rfl, .inl ⟨k,hnx,hJ⟩⟩
 |some i=>
  unfold nxI;dsimp only[Option.isSome,Option.getD]
  obtain⟨n1,n2,n3,n4⟩:=jd4 hnx
  have he:((i:Nat):Int)+1=((i+1:Nat):Int):=by omega
  refine zaF ?_;refine zld ?_;refine zu fun T hT=>?_;refine(hy k i A hJ hnx).mono ?_;rintro _ _ (⟨rfl,A',hJ',rfl⟩|⟨rfl,A',hE',rfl⟩)
  ·refine ze ?_;clear hT T;refine zy ?_;refine zat ?_;refine zjU ?_;refine zw ?_;refine zle ?_;refine zu fun T hT=>?_;rw[he];refine(CallV.part (CallV.fn (jhz (k:=i+1) (v:=true) ok hG (by omega))) ja).mono ?_;rintro _ _ ⟨rfl,rfl⟩;refine ze ?_;clear hT T;refine zY ?_;refine zaK ?_;exact KE.again ⟨i+1,A'⟩ jc ja hJ' (by grind)
  ·refine ze ?_;clear hT T;refine zag ?_;refine zaR ?_;refine ziP ?_;refine zaS ?_;refine zef ?_;exact KE.fin je rfl jd ja ⟨A',rfl, .inr hE'⟩
theorem aeach_K {w0:World} {H:jb} {b:Nat}:
  Call Tryz.prog w0 344 [.pointer (some ⟨b,0,none⟩)] H (fun u H'=> ∃ bl,u= .func (.func 346) #[] [.pointer (some ⟨bl,0,none⟩)].toArray∧H'=(bl,cells [.pointer (some ⟨b,0,none⟩)] 129)::H):=by
 refine Call.enter1 (n:=4) (by rfl) Tryz.func344 rfl rfl rfl ?_;refine zbN ?_;intro b1;refine za5 ?_;refine zm ?_;exact KE.fin je rfl jd ja ⟨b1,rfl,rfl⟩
def jdp (A D:List Bool) (k:Nat):List Bool:=(List.range A.length).map fun i=>(A[i]?).getD false&&!(decide (i<k)&&(D[i]?).getD false)
theorem jgH (A D:List Bool) (k:Nat):(jdp A D k).length=A.length:=by simp[jdp]
theorem jfP {A D:List Bool} {k i:Nat} (h:i<A.length):(jdp A D k)[i]?=some ((A[i]?).getD false&&!(decide (i<k)&&(D[i]?).getD false)):=by
 grind[jdp]
theorem lessK_zero (A D:List Bool):jdp A D 0=A:=by
 apply List.ext_getElem?
 grind[jfP,jgH]
theorem lessK_next {A D:List Bool} {k i:Nat} (hl:D.length=A.length) (h:nextB D k true=some i):(jdp A D k).set i false=jdp A D (i+1):=by
 obtain⟨n1,n2,n3,n4⟩:=jd4 h
 apply List.ext_getElem?
 intro j
 by_cases hj:j<A.length
 ·rw[jfP hj]
  by_cases hij:j=i
  ·grind[jgH]
  ·rw[List.getElem?_set_ne (by omega),jfP hj]
   by_cases hjk:j<k
   ·grind
   ·by_cases hji:j<i
    ·grind
    ·simp[hjk,show ¬j<i+1 by omega]
 grind[jgH]
theorem lessK_done {A D:List Bool} {k:Nat} (hl:D.length=A.length) (h:nextB D k true=none):jdp A D k=jc0 A D:=by
 apply List.ext_getElem?
 intro j
 by_cases hj:j<A.length
 ·rw[jfP hj,jiJ j hl.symm,List.getElem?_eq_getElem hj];simp only[Option.map_some,Option.getD_some]
  by_cases hjk:j<k
  ·grind
  grind[nextB]
 grind[jgH,jiI]
theorem ok_bad: ∀ {A D:List Bool} {i:Nat},A[i]?=some false→D[i]?=some true→jdP A D=false
 |a::A,d::D,0,h1,h2=>by
  simp at h1 h2;subst h1;subst h2;rfl
 |a::A,d::D,i+1,h1,h2=>by
  simp only[List.getElem?_cons_succ] at h1 h2
  simp[jdP,ok_bad h1 h2]
 | [],D,i,h1,h2=>by grind
 |a::A,[],i,h1,h2=>by grind
set_option maxRecDepth 10000
section
variable {g : PlG} {long nw : Nat} {s s' z : CyP} {S0 : Nat → Prop} {A0 : List Bool} {n : Nat}
structure jbx (g:PlG) (S0:Nat→Prop) (A0:List Bool) (s s':CyP):Prop where
 A:s'.A=s.A
 w: ∀ t,NwP S0 A0 s.A t→jR g s.W.x s'.W.x t
 o: ∀ a,(∀ (t:Nat) (y:jq),g.L[t]?=some y→ ¬(y.addr≤a∧a<y.addr+y.size))→wAt s'.W.x a=wAt s.W.x a
 T:s'.W.T=s.W.T
 N:s'.W.N=s.W.N
 l:s'.W.x.length=s.W.x.length
 d:(∀ t:Nat,s'.D[t]?≠some true)→s'.W.x=s.W.x∧ ∀ t:Nat,s.D[t]?≠some true
theorem jbx.refl:jbx g S0 A0 s s:=⟨rfl,fun _ _=>jR.refl,fun _ _=>rfl,rfl,rfl,rfl,fun h=>⟨rfl,h⟩⟩
theorem jbx.trans {s'':CyP} (h:jbx g S0 A0 s s') (h':jbx g S0 A0 s' s''):jbx g S0 A0 s s'':=
 ⟨h'.A.trans h.A,fun t ht=>(h.w t ht).trans (h'.w t (by rw[h.A];omega)),fun a ha=>(h'.o a ha).trans (h.o a ha),h'.T.trans h.T,h'.N.trans h.N,h'.l.trans h.l,fun hd=>⟨(h'.d hd).1.trans (h.d (h'.d hd).2).1,(h.d (h'.d hd).2).2⟩⟩
theorem goes_W:jbx g S0 A0 s (Js g s):=by
 obtain⟨a,b,c,d,e⟩:=jdX (g:=g) (s:=s)
 exact⟨c,fun t _=>by grind[jR.refl],fun t _=>by rw[a],by rw[a],by rw[a],by rw[a],fun h=>⟨by rw[a],fun t=>by grind⟩⟩
theorem jhu:jbx g S0 A0 s (madeC g s):=by
 have h:=goes_W (g:=g) (S0:=S0) (A0:=A0) (s:={s with st:=s.st+1})
 exact⟨h.A,h.w,h.o,h.T,h.N,h.l,h.d⟩
theorem m_W {m':MaP}:jbx g S0 A0 s {s with m:=m'}:=⟨rfl,fun _ _=>jR.refl,fun _ _=>rfl,rfl,rfl,rfl,fun h=>⟨rfl,h⟩⟩
theorem sweep_W (ok:jg g) (h:jw g long s) (hI:CyI g S0 A0 s) (h2:s.ph=2) (hs:sweepC g s=some s'):jbx g S0 A0 s s':=by
 have hlt:=h.lt h2
 obtain⟨a,b,_⟩:=h.p2 h2
 have hd:=hI.doom h h2 hlt
 obtain⟨y,hy⟩:=j9 hlt
 have hyA:=jW hy
 have hfit:=ok.fits hy
 unfold sweepC at hs;rw[if_pos ⟨b,hlt⟩] at hs
 split at hs
 ·rename_i hg
  cases hs
  rw[hyA]
  obtain⟨d1,d2⟩:=hd.1 hg
  refine⟨rfl,fun t ht=>jgA ok h.w.x hy fun e=>?_,fun a ha=>?_,rfl,rfl,jd0 (by rw[h.w.x];omega),fun hD=>?_⟩
  ·subst e
   rcases ht with e|⟨_,e⟩
   ·grind
   grind
  ·show wAt (J6 s.W.x y) a=_
   rw[jbC (by rw[h.w.x];omega),if_neg (ha _ _ hy)]
  ·exact absurd (List.getElem?_set_self (by rw[h.D];omega)) (hD s.at_)
 ·cases hs
  exact⟨rfl,fun _ _=>jR.refl,fun _ _=>rfl,rfl,rfl,rfl,fun h=>⟨rfl,h⟩⟩
theorem jhn (ok:jg g) (h:jw g long s) (hI:CyI g S0 A0 s) {k u:Int} (hs:stepC g long nw s k u=some s'):jbx g S0 A0 s s':=by
 unfold stepC at hs
 split at hs
 ·cases hm:j0 g long s.W s.m k u with
  |none=>grind
  |some m'=>rw [hm] at hs;cases hs;exact m_W.trans jhu
 ·split at hs
  ·rename_i h2
   cases hm:sweepC g s with
   |none=>grind
   |some q=>rw [hm] at hs;cases hs;exact(sweep_W ok h hI h2.1 hm).trans jhu
  grind
theorem jgo (ok:jg g) (h:jw g long s) (hI:CyI g S0 A0 s) (hs:j8 g long s=some s'):jbx g S0 A0 s s':=by
 unfold j8 at hs
 split at hs
 ·cases hm:jaA g long s.W s.m with
  |none=>grind
  |some m'=>rw [hm] at hs;cases hs;exact m_W.trans jhu
 ·split at hs
  ·rename_i h2
   cases hm:sweepC g s with
   |none=>grind
   |some q=>rw [hm] at hs;cases hs;exact(sweep_W ok h hI h2 hm).trans jhu
  grind
theorem helps_W (ok:jg g) (h0:jw g long s) (hI:CyI g S0 A0 s) (h:jba g long s n s'):jbx g S0 A0 s s':=by
 induction h with
 |refl=>exact .refl
 |snoc h1 h2 ih=>
  have ho:=h1.ok ok h0
  exact ih.trans (jgo ok ho.ok (ho.I hI) h2)
theorem fin_W (ok:jg g) (h0:jw g long s) (hI:CyI g S0 A0 s):jbx g S0 A0 s (finC g long s).2:=helps_W ok h0 hI jfl
def jhl (g:PlG) (long:Nat) (gn:Int) (s:CyP):CyP:=publishC g gn (finC g long (beginC g s)).2
theorem whole_ok (ok:jg g) (hl:1≤long) (h:jw g long s) (h0:s.ph=0) (hT:CyT g s) (gn:Int):jw g long (jhl g long gn s)∧CyT g (jhl g long gn s)∧(∀ t:Nat,(jhl g long gn s).A[t]?=some true↔RchM g s.W t)∧jbx g (RchM g s.W) s.A (beginC g s) (finC g long (beginC g s)).2:=by
 have hb:=jiT ok hl h h0
 have hI:=CyI.begin h h0 hT
 have hr:=jfl.ok ok hb
 have h3:=jgf ok hb (show(1:Nat)≠0 from by decide)
 obtain⟨p1,p2⟩:=(hr.I hI).publish hr.ok h3 gn
 refine⟨jgy hr.ok h3 gn,p2,fun t=>?_,fin_W ok hb hI⟩;rw[show(jhl g long gn s).A[t]?=some true↔_ from p1 t]
 constructor
 ·rintro(e|⟨e1,e2⟩)
  ·omega
  ·rw[hr.A] at e1;rw[show s.A[t]?=some true from e1] at e2;grind
 ·exact .inl
theorem ji6 {W W':MwP} (hT:W'.T=W.T) (hN:W'.N=W.N) {r:Nat}:jU g W' r=jU g W r:=by
 grind[jU]
theorem rch_next (ok:jg g) {W W':MwP} {gn:Int} (hT:W'.T=j5 gn W.T) (hN:W'.N=W.N) (hx: ∀ t,RchM g W t→jR g W.x W'.x t) {t:Nat} (h:RchM g W t):RchM g W' t:=by
 induction h with
 |root a b=>
  refine .root (by rw[hT];unfold j5;rw [List.length_map];exact a) ?_;rw[ji6 (W:={W with T:=j5 gn W.T}) hT hN,jkb];omega
 |edge a b ih=>exact .edge ih (by rw[jcF ok (hx _ a)];exact b)
end
open Go.RowKit
set_option maxRecDepth 10000
theorem Call.at_ {P:Program} {w0:World} {f:FuncId} {args:List Value} {H H':jb} {R R':Value→jb→Prop} (h:Call P w0 f args H' R) (hp:Part H H') (hr: ∀ v H1,R v H1→ ∃ H2,R' v H2∧Part H1 H2):Call P w0 f args H R':=
 ⟨h.ent,fun w hw=>(h.out w (hw.part hp)).mono (by
  rintro e w' ⟨v,H1,he,hh,hR⟩
  obtain⟨H2,h2,hp⟩:=hr _ _ hR
  exact⟨v,H2,he,hh.part hp,h2⟩)⟩
structure CyM where
 b:Nat
 B:BoM
 a:ArM
 T:TbM
 N:PiM
 k:MkM
 s:SpM
 nw:Nat
 ph:Nat
 st:Nat
def cycH (y:CyM):jb:=(y.b,cells [.pointer (some ⟨y.B.p.b,0,none⟩), .pointer (some ⟨y.a.b,0,none⟩), .pointer (some ⟨y.B.b,0,none⟩), .pointer (some ⟨y.T.b,0,none⟩), .pointer (some ⟨y.N.b,0,none⟩), .pointer (some ⟨y.k.b,0,none⟩), .pointer (some ⟨y.s.b,0,none⟩), .int .i64 (y.nw:Nat), .int .u8 (y.ph:Nat), .int .i64 (y.st:Nat)] 128)::(jap y.s++(j7 y.a y.B.p++(jt y.k y.B.p++(planH y.B.p++(jT y.B++(jK y.T++(JX y.N++jy y.B.m)))))))
theorem cycH_app {y:CyM} {F:jb}:cycH y++F=(y.b,cells [.pointer (some ⟨y.B.p.b,0,none⟩), .pointer (some ⟨y.a.b,0,none⟩), .pointer (some ⟨y.B.b,0,none⟩), .pointer (some ⟨y.T.b,0,none⟩), .pointer (some ⟨y.N.b,0,none⟩), .pointer (some ⟨y.k.b,0,none⟩), .pointer (some ⟨y.s.b,0,none⟩), .int .i64 (y.nw:Nat), .int .u8 (y.ph:Nat), .int .i64 (y.st:Nat)] 128)::(jap y.s++(j7 y.a y.B.p++(jt y.k y.B.p++(planH y.B.p++(jT y.B++(jK y.T++(JX y.N++(jy y.B.m++F)))))))):=by
 simp[cycH]
structure CpM (y:CyM) (s:CyP):Prop where
 p:MpR y.k y.B y.T y.N s.W
 ok:MkOk y.k y.B.p
 R:MkR y.k y.B.p s.m
 oka:jaE y.a y.B.p
 A:y.a.r.bs=s.A
 oks:SpOk y.s y.B.p.g.slots
 sa:y.s.act=s.sa
 at_:y.s.at_=s.at_
 D:y.s.d.bs=s.D
 ab:y.s.ab=y.a.b
 bb:y.s.bb=y.B.b
 mb:y.s.mb=y.k.b
 ph:y.ph=s.ph
 st:y.st=s.st
 nw:y.k.hs.length=y.nw+1
structure J0 (y y':CyM) (x:List Int) (n:Nat):Prop where
 b:y'.b=y.b
 B:y'.B=jbK y.B x
 a:y'.a.b=y.a.b
 T:y'.T.b=y.T.b
 G:y'.T.gens=y.T.gens
 N:y'.N.b=y.N.b
 k:MkAs y.k y'.k
 f:y'.k.c.f=y.k.c.f+n
 s:y'.s.b=y.s.b
 nw:y'.nw=y.nw
theorem setB_setB {B:BoM} {x z:List Int}:jbK (jbK B x) z=jbK B z:=by grind[jbK,jld]
theorem MkAs.trans {a b c:MkM} (h:MkAs a b) (h':MkAs b c):MkAs a c:=⟨h'.b.trans h.b,h'.bb.trans h.bb,h'.tb.trans h.tb,h'.nb.trans h.nb,h'.n.trans h.n,h'.l.trans h.l⟩
theorem J0.refl {y:CyM} {s:CyP} (h:CpM y s):J0 y y s.W.x 0:=⟨rfl,(jcn h.p.bo).symm,rfl,rfl,rfl,rfl,⟨rfl,rfl,rfl,rfl,rfl,rfl⟩,rfl,rfl,rfl⟩
theorem J0.trans {y y' y'':CyM} {x x':List Int} {n n':Nat} (h:J0 y y' x n) (h':J0 y' y'' x' n'):J0 y y'' x' (n+n'):=
 ⟨h'.b.trans h.b,by rw[h'.B,h.B,setB_setB],h'.a.trans h.a,h'.T.trans h.T,h'.G.trans h.G,h'.N.trans h.N,h.k.trans h'.k,by rw[h'.f,h.f];omega,h'.s.trans h.s,h'.nw.trans h.nw⟩
theorem J0.p {y y':CyM} {x:List Int} {n:Nat} (h:J0 y y' x n):y'.B.p=y.B.p:=by rw[h.B];rfl
structure CpR (g:PlG) (long:Nat) (y:CyM) (s:CyP):Prop extends CpM y s where
 eg:y.B.p.g=g
 el:y.k.g.ring.length=long
 i:jw g long s
 le:jae g s
def CyQ (g:PlG) (long:Nat) (y:CyM) (n:Nat) (F:jb) (s':CyP) (H':jb):Prop:= ∃ y',CpR g long y' s'∧J0 y y' s'.W.x n∧H'=cycH y'++F
section
variable {w0 : World} {F : jb} {y : CyM}
theorem cynone_K:Call Tryz.prog w0 61 [.pointer (some ⟨y.b,0,none⟩)] (cycH y++F) (fun r H'=>r= .bool false∧H'=cycH y++F):=by
 refine Call.enter1 (n:=12) (by rfl) Tryz.func61 rfl rfl rfl ?_;simp only[cycH_app];refine zfx ?_;refine zea ?_;exact zei
theorem jgL:Call Tryz.prog w0 146 [.pointer (some ⟨y.b,0,none⟩)] (cycH y++F) (fun r H'=>r= .int .u8 (y.ph:Nat)∧H'=cycH y++F):=by
 refine Call.enter1 (n:=9) (by rfl) Tryz.func146 rfl rfl rfl ?_;refine zlw ?_;refine zkg ?_;refine zdy ?_;refine zm ?_;exact zei
theorem cyPlan_K:Call Tryz.prog w0 120 [.pointer (some ⟨y.b,0,none⟩)] (cycH y++F) (fun r H'=>r= .pointer (some ⟨y.B.p.b,0,none⟩)∧H'=cycH y++F):=by
 refine Call.enter1 (n:=9) (by rfl) Tryz.func120 rfl rfl rfl ?_;refine zlw ?_;refine zkg ?_;refine zN ?_;refine zm ?_;exact zei
theorem jkI:Call Tryz.prog w0 29 [.pointer (some ⟨y.b,0,none⟩)] (cycH y++F) (fun r H'=>r= .pointer (some ⟨y.a.b,0,none⟩)∧H'=cycH y++F):=by
 refine Call.enter1 (n:=9) (by rfl) Tryz.func29 rfl rfl rfl ?_;refine zlw ?_;refine zkg ?_;refine zae ?_;refine zm ?_;exact zei
theorem cyBody_K:Call Tryz.prog w0 196 [.pointer (some ⟨y.b,0,none⟩)] (cycH y++F) (fun r H'=>r= .pointer (some ⟨y.B.b,0,none⟩)∧H'=cycH y++F):=by
 refine Call.enter1 (n:=9) (by rfl) Tryz.func196 rfl rfl rfl ?_;refine zlw ?_;refine zkg ?_;refine zaa ?_;refine zm ?_;exact zei
theorem cyTable_K:Call Tryz.prog w0 161 [.pointer (some ⟨y.b,0,none⟩)] (cycH y++F) (fun r H'=>r= .pointer (some ⟨y.T.b,0,none⟩)∧H'=cycH y++F):=by
 refine Call.enter1 (n:=9) (by rfl) Tryz.func161 rfl rfl rfl ?_;refine zlw ?_;refine zkg ?_;refine zby ?_;refine zm ?_;exact zei
theorem cyPins_K:Call Tryz.prog w0 207 [.pointer (some ⟨y.b,0,none⟩)] (cycH y++F) (fun r H'=>r= .pointer (some ⟨y.N.b,0,none⟩)∧H'=cycH y++F):=by
 refine Call.enter1 (n:=9) (by rfl) Tryz.func207 rfl rfl rfl ?_;refine zlw ?_;refine zkg ?_;refine zdg ?_;refine zm ?_;exact zei
end
end Go.Proofs.YtebiafomiemgbaaGreatDoor.Sw
