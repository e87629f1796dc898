/-The walker and the contracts that the law needs,part 24. -/
import Derived.Test.YtebiafomiemgbaaGreatDoorJ23
set_option linter.unusedVariables false set_option linter.unusedSimpArgs false set_option linter.unusedVariables false
set_option linter.unusedSimpArgs false
namespace Go.Proofs.YtebiafomiemgbaaGreatDoor.Sw
set_option maxHeartbeats 8000000
open Go.Proofs.YtebiafomiemgbaaGreatDoor renaming lo → qL, hi → qH
open Go.RowKit
set_option maxRecDepth 10000
theorem Base_K {w0:World} {H:jb} {c:Cfg} {vc vt:Value} {t:Int} (hR:Jc w0 H c vc vt):
  Call Tryz.prog w0 79 [jr c vc vt, .int .i64 t] H (fun r H'=>r=prV (jcy c t)∧H'=H):=by
 have hc0:=fun A (hp:Part A H)=>jiZ (t:=t) (k:=0) (hR.part hp)
 cases ht:JB c t 0 with
 |false=>
  have he:jcy c t=(0,2):=by grind[jcy]
  rw[ht] at hc0;rw[he]
  obtain⟨hS,hT',o1,o2,l1,l2⟩:=hR
  obtain⟨cl,page,tn,workers,grey,gens⟩:=c
  dsimp only at hS hT' l1 l2 he;simp only[jr,jG] at hc0⊢;refine Call.enter2 (n:=16) (by rfl) Tryz.func79 rfl rfl rfl ?_;refine zb7 ?_;intro b2;refine zgB ?_;refine zaQ ?_;exact zfq
 |true=>
  obtain⟨i,j,x,y,rfl,_,hx,hy,ok⟩:=jcQ ht
  have hil:=jv hx
  have hok:=ok.tn
  have hcp:jz c=true:=by grind[JB]
  have he:jcy c (i:Nat)=(Jq (fun i=>wordsP c (i:Nat)) i,0):=by grind[jcy]
  have hc1:=fun k b1 (hk:k<c.tn.length)=>base1_K (b1:=b1) hR hcp hk
  have hB:=fun k (hk:k<c.tn.length)=>jfV hcp hk
  rw[ht] at hc0;rw[he]
  obtain⟨f,hf⟩: ∃ f:Nat→Int,f=fun i=>wordsP c (i:Nat):=⟨_,rfl⟩
  have hfi: ∀ i,wordsP c (i:Nat)=f i:=fun i=>by grind
  rw[←hf];simp only[hfi] at hB hc1
  obtain⟨hS,hT',o1,o2,l1,l2⟩:=hR
  obtain⟨cl,page,tn,workers,grey,gens⟩:=c
  dsimp only at hS hT' l1 l2 he hok hB hc1 hil hx hy⊢;simp only[jr,jG] at hc0 hc1⊢
  have htl:(tn.take i).length=i:=by grind
  have hT2:Sli w0 H tnE (subV vt 0 i tnE.sz) (tn.take i):=hT'.sub (Nat.zero_le _) (by omega)
  refine Call.enter2 (n:=16) (by rfl) Tryz.func79 rfl rfl rfl ?_;refine zb7 ?_;intro b2;refine zgB ?_;refine zy ?_;refine zK ?_;refine zaa ?_;refine zj ?_;refine zkM ?_;refine zbk fun T hT=>?_;refine(CallV.part (CallV.fn (sumT_K (H:=(b2,cells [vc, .int .i64 page,vt, .int .i64 workers, .int .i64 grey, .int .i64 gens] 25)::H) (l:=tn.take i) (f:=f) (hT2.part ja) (by omega) (fun k hk=>hB k (by omega)) ?_)) ja).mono ?_
  ·grind[CallV.clo]
  ·rintro _ _ ⟨rfl,rfl⟩;rw[htl];refine ze ?_;clear hT T;exact zb5
set_option maxRecDepth 10000
structure SpM where
 b:Nat
 d:jaM
 at_:Nat
 act:Bool
 ab:Nat
 bb:Nat
 mb:Nat
def jap (s:SpM):jb:=(s.b,cells [.pointer (some ⟨s.ab,0,none⟩), .pointer (some ⟨s.bb,0,none⟩), .pointer (some ⟨s.mb,0,none⟩), .pointer (some ⟨s.d.b,0,none⟩), .int .i64 (s.at_:Nat), .bool s.act] 249)::jN s.d
theorem sweepH_app {s:SpM} {F:jb}:jap s++F=(s.b,cells [.pointer (some ⟨s.ab,0,none⟩), .pointer (some ⟨s.bb,0,none⟩), .pointer (some ⟨s.mb,0,none⟩), .pointer (some ⟨s.d.b,0,none⟩), .int .i64 (s.at_:Nat), .bool s.act] 249)::(jN s.d++F):=rfl
structure SpOk (s:SpM) (n:Nat):Prop where
 d:RowOk s.d
 dn:s.d.bs.length=n
 at_:s.at_≤n
section
variable {w0 : World} {F : jb} {s : SpM}
theorem jir:Call Tryz.prog w0 233 [.pointer (some ⟨s.b,0,none⟩)] (jap s++F) (fun r H'=>r= .bool false∧H'=jap s++F):=by
 refine Call.enter1 (n:=12) (by rfl) Tryz.func233 rfl rfl rfl ?_;simp only[sweepH_app];refine zeA ?_;refine zbU ?_;refine zaD ?_;refine zea ?_;exact zl1
theorem jhL:Call Tryz.prog w0 183 [.pointer (some ⟨s.b,0,none⟩)] (jap s++F) (fun r H'=>r= .bool s.act∧H'=jap s++F):=by
 refine Call.enter1 (n:=12) (by rfl) Tryz.func183 rfl rfl rfl ?_;refine zbL ?_;refine jp (jir (s:=s)) ?_;simp only[sweepH_app];refine zag ?_;refine zaY ?_;refine zc2 ?_;refine zl ?_;refine zw ?_;refine zdh ?_;exact zl1
def jcN (s:SpM):Bool:=s.act&&decide (s.at_=s.d.bs.length)
theorem jis:Call Tryz.prog w0 179 [.pointer (some ⟨s.b,0,none⟩)] (jap s++F) (fun r H'=>r= .bool (jcN s)∧H'=jap s++F):=by
 have hd:jcN s=(s.act&&decide (((s.at_:Nat):Int)=(s.d.bs.length:Nat))):=by
  grind[jcN]
 rw[hd]
 cases ha:s.act with
 |true=>
  refine Call.enter1 (n:=17) (by rfl) Tryz.func179 rfl rfl rfl ?_;refine zfd ?_;refine zsg ?_;refine zd9 fun T hT=>?_;refine(CallV.fn (jhL (s:=s))).mono ?_;rintro _ _ ⟨rfl,rfl⟩;rw[ha];refine zi ?_;clear hT T;simp only[sweepH_app];refine zo ?_;refine KD.y1 rfl rfl rfl rfl (Val.move rfl) ?_;refine KD.y1 rfl rfl rfl rfl (Val.nilCheck rfl) ?_;refine KD.y1 rfl rfl rfl rfl (Val.fieldAddr0 (k:=4) rfl rfl) ?_;refine zok ?_;refine zii ?_;refine KD.y0 rfl rfl rfl rfl (Val.fieldAddr0 (k:=3) rfl rfl) ?_;refine zbV ?_;refine zdR fun T hT=>?_;refine(CallV.part (CallV.fn (jhs (r:=s.d))) ja).mono ?_;rintro _ _ ⟨rfl,rfl⟩;refine zi ?_;clear hT T;refine KD.y0 rfl rfl rfl rfl (Val.eql rfl rfl) ?_;refine zbD ?_;refine zbp ?_;exact zl1
 |false=>
  refine Call.enter1 (n:=17) (by rfl) Tryz.func179 rfl rfl rfl ?_;refine zfd ?_;refine zsg ?_;refine zd9 fun T hT=>?_;refine(CallV.fn (jhL (s:=s))).mono ?_;rintro _ _ ⟨rfl,rfl⟩;rw[ha];refine zi ?_;clear hT T;refine zfl ?_;refine zfV ?_;refine ziV ?_;refine zcr ?_;refine zbp ?_;exact zl1
theorem spStart_K (ha:s.act=false):Call Tryz.prog w0 178 [.pointer (some ⟨s.b,0,none⟩)] (jap s++F) (fun r H'=>r= .int .i64 0∧H'=jap {s with act:=true}++F):=by
 refine Call.enter1 (n:=14) (by rfl) Tryz.func178 rfl rfl rfl ?_;refine zL ?_;refine zdl ?_;refine zn ?_;refine jp (jir (s:=s)) ?_;simp only[sweepH_app,ha];refine zcw ?_;refine zF ?_;refine zdi ?_;refine zbA ?_;refine zF ?_;refine zc2 ?_;refine zgn ?_;exact zl1
end
open Go.RowKit
set_option maxRecDepth 10000
structure jae (g:PlG) (s:CyP):Prop where
 m:s.m.steps+jV g s.W s.m≤100000000
 s:s.st+Jo g s≤100000000
section
variable {g : PlG} {long nw : Nat} {s s' : CyP}
theorem goes_left:(Js g s).m.steps+jV g (Js g s).W (Js g s).m=s.m.steps+jV g s.W s.m:=by
 grind[jdX]
theorem jgG:(madeC g s).m.steps+jV g (madeC g s).W (madeC g s).m=s.m.steps+jV g s.W s.m:=goes_left (s:={s with st:=s.st+1})
theorem jjH (h:sweepC g s=some s'):s'.m.steps+jV g s'.W s'.m=s.m.steps+jV g s.W s.m:=by
 grind[sweepC,J6,jA,jhQ]
theorem jae.step (ok:jg g) (hi:jw g long s) (h:jae g s) {k u:Int} (hs:stepC g long nw s k u=some s'):jae g s':=by
 refine⟨?_,Nat.le_trans (jkZ ok hi hs) h.s⟩
 have h1:=h.m
 unfold stepC at hs
 split at hs
 ·cases hm:j0 g long s.W s.m k u with
  |none=>grind
  |some m'=>
   rw[hm] at hs;cases hs;rw[jgG]
   obtain⟨_,h2,h3,_⟩:=jfp ok hi.m hm
   grind
 grind[sweepC,s,jgG,jjH,h1]
theorem jae.help (ok:jg g) (hi:jw g long s) (h:jae g s) (hs:j8 g long s=some s'):jae g s':=by
 refine⟨?_,Nat.le_trans (jlv ok hi hs) h.s⟩
 have h1:=h.m
 unfold j8 at hs
 split at hs
 ·cases hm:jaA g long s.W s.m with
  |none=>grind
  |some m'=>
   rw[hm] at hs;cases hs;rw[jgG]
   obtain⟨k,u,hk⟩:=jeA hm
   obtain⟨_,h2,h3,_⟩:=jfp ok hi.m hk
   grind
 grind[sweepC,s,jgG,jjH,h1]
theorem jae.begin (ok:jg g) (hT:s.W.T.length≤1024):jae g (beginC g s):=by
 have h1:=jkK (s:=s) ok
 have h2:=ok.words
 have h3:=ok.slots
 refine⟨?_,by omega⟩
 have:=jhK (W:=s.W) ok (s.m.hs.length-1)
 show 0+jV g s.W (jgi g s.m)≤_
 grind[jgi]
theorem jiF (h:s.ph=0∨s.ph=3):Jo g s=0:=by
 grind[Jo]
theorem jae.publish (h:jae g s) (gens:Int):jae g (publishC g gens s):=by
 have h1:=h.m
 have h2:=h.s
 refine⟨?_,?_⟩
 ·show s.m.steps+jV g {s.W with T:=j5 gens s.W.T} {s.m with act:=false}≤_
  grind[jV,j5]
 ·rw[jiF (.inl rfl)];show s.st+0≤_;omega
theorem mes_m {m':MaP} (h:jV g s.W m'≤jV g s.W s.m):Jo g {s with m:=m'}≤Jo g s:=by
 grind[Jo]
theorem mes_W {W':MwP} (h:W'.T.length=s.W.T.length):Jo g {s with W:=W'}=Jo g s:=by
 grind[Jo,jhQ]
theorem jae.shd (ok:jg g) (hi:jw g long s) (h:jae g s) (t:Int):jae g (shdC g long s t):=by
 unfold shdC
 split
 ·have h1:=h.m
  have h2:=h.s
  have h3:=jhZ ok hi.m t
  have h4:=(jgb (g:=g) (long:=long) (m:=s.m) t).2.2.2
  have h5:=mes_m (s:=s) h3
  exact⟨by grind,by grind⟩
 omega
theorem jjU (hm:jL g long s.W s.m) (t:Nat):jV g s.W (JP s.m t)≤jV g s.W s.m:=by
 obtain⟨a,b,c,d,e⟩:=jfJ s.m t
 unfold jV;rw[a,b,c];refine Nat.add_le_add_right ?_ _;unfold JP
 split
 ·by_cases ht:t<g.slots
  ·grind[jiW]
  ·dsimp only;rw[List.set_eq_of_length_le (by rw[hm.C];omega)]
   omega
 omega
theorem jae.black (hi:jw g long s) (h:jae g s) (t:Nat):jae g {s with m:=JP s.m t}:=by
 have h1:=h.m
 have h2:=h.s
 have h3:=jjU hi.m t
 have h4:=(jfJ s.m t).2.2.2.2
 have h5:=mes_m (s:=s) h3
 exact⟨by grind,by grind⟩
theorem jae.world (h:jae g s) {W':MwP} (hT:W'.T.length=s.W.T.length):jae g {s with W:=W'}:=by
 have h1:=h.m
 have h2:=h.s
 exact⟨by grind[jhQ,h1],by grind[mes_W,h2]⟩
end
open Go.RowKit
set_option maxRecDepth 10000
def jR (g:PlG) (x x':List Int) (t:Nat):Prop:= ∀ y,g.L[t]?=some y→ ∀ j,j<y.size→wAt x' (y.addr+j)=wAt x (y.addr+j)
def jb9 (g:PlG) (x:List Int) (t:Nat):Prop:= ∀ y,g.L[t]?=some y→ ∀ j,j<y.size→wAt x (y.addr+j)=0
section
variable {g : PlG} {x x' x'' : List Int} {s t : Nat} {y : jq}
theorem jR.refl:jR g x x t:=fun _ _ _ _=>rfl
theorem jR.trans (h:jR g x x' t) (h':jR g x' x'' t):jR g x x'' t:=fun y hy j hj=>(h' y hy j hj).trans (h y hy j hj)
theorem jR.zero (h:jR g x x' t) (hz:jb9 g x t):jb9 g x' t:=fun y hy j hj=>(h y hy j hj).trans (hz y hy j hj)
theorem jgA (ok:jg g) (hx:x.length=g.words) (hy:g.L[s]?=some y) (h:s≠t):jR g x (J6 x y) t:=fun z hz j hj=>by
 have:=ok.apart hy hz h
 have f:=ok.fits hy
 grind[jbC]
theorem jjY (ok:jg g) (hx:x.length=g.words) (hy:g.L[s]?=some y):jb9 g (J6 x y) s:=fun z hz j hj=>by
 rw[hy] at hz;cases hz
 have f:=ok.fits hy
 grind[jbC]
theorem jez (ok:jg g) (hx:x.length=g.words) (hy:g.L[s]?=some y) (hd:HdP) (h:s≠t):jR g x (makeP x y hd).2 t:=fun z hz j hj=>by
 have f1:=ok.fits hy
 have:=ok.apart hy hz h
 grind[makeP,jaH,jbC]
theorem jgu (ok:jg g) (hy:g.L[s]?=some y) {i v:Int} (h:s≠t):jR g x (Jy x g.slots y i v).2 t:=fun z hz j hj=>by
 have f1:=ok.fits hy
 have:=ok.apart hy hz h
 unfold Jy
 split
 ·rfl
 ·split
  ·rename_i hf
   have:=jaq hf
   grind[jaH]
  ·rfl
theorem jla (h: ¬t<g.slots) {i:Int}:refO g x (t:Nat) i=none:=by
 cases hr:refO g x (t:Nat) i with
 |none=>rfl
 |some v=>exact absurd (jfO hr).1 h
theorem jcF (ok:jg g) (h:jR g x x' t) {i:Int}:refO g x' (t:Nat) i=refO g x (t:Nat) i:=by
 by_cases ht:t<g.slots
 ·obtain⟨z,hz⟩:=j9 ht
  have hf:=ok.fits hz
  have e:=jW hz
  have h0:wAt x' z.addr=wAt x z.addr:=h z hz 0 (by omega)
  by_cases hfl:fldP x z true i=0
  ·have hin:=jaq hfl
   obtain⟨j,hj⟩: ∃ j,fAt z i=z.addr+j:=⟨fAt z i-z.addr,by omega⟩
   refine jhN (by grind) ?_;rw[e,hj];exact h z hz j (by omega)
  grind[fldP,refO,refP,jdZ]
 grind[jla]
theorem jh7 (ok:jg g) (h: ∀ y,g.L[t]?=some y→ ∀ j,1≤j→j<y.size→wAt x (y.addr+j)=0) {i:Int}:refO g x (t:Nat) i=none:=by
 cases hr:refO g x (t:Nat) i with
 |none=>rfl
 |some v=>
  obtain⟨ht,hf⟩:=jfO hr
  obtain⟨z,hz⟩:=j9 ht
  have e:=jW hz
  rw[e] at hf
  have hin:=jaq hf
  obtain⟨j,hj⟩: ∃ j,fAt z i=z.addr+j:=⟨fAt z i-z.addr,by omega⟩
  grind[refO,refP]
theorem jb9.refO (ok:jg g) (h:jb9 g x t) {i:Int}:refO g x (t:Nat) i=none:=jh7 ok fun y hy j _ hj=>h y hy j hj
theorem jic (ok:jg g) (hx:x.length=g.words) (hy:g.L[s]?=some y) {hd:HdP} {i u:Int} (h:refO g (makeP x y hd).2 (t:Nat) i=some u):refO g x (t:Nat) i=some u:=by
 by_cases e:s=t
 ·subst e;unfold makeP at h
  split at h
  ·split at h
   ·omega
   ·have f1:=ok.fits hy
    grind[jh7,h1,jaH,jbC]
  omega
 grind[jcF,jez]
theorem wipe_refO (ok:jg g) (hx:x.length=g.words) (hy:g.L[s]?=some y) {i u:Int} (h:refO g (J6 x y) (t:Nat) i=some u):refO g x (t:Nat) i=some u:=by
 by_cases e:s=t
 ·subst e;rw [(jjY ok hx hy).refO ok] at h;grind
 grind[jcF,jgA]
theorem set_refN (ok:jg g) (hx:x.length=g.words) (hy:g.L[s]?=some y) {i0 v i u:Int} (h:refO g (Jy x g.slots y i0 v).2 (t:Nat) i=some u):refO g x (t:Nat) i=some u∨(t=s∧u=v):=by
 grind[f1,Jy,wAt,fAt,hi,refP,refO,jW,jaq,jfO,jaH,jdZ,jgN,jhN,jcF,jgu]
end
section
variable {g : PlG} {W : MwP} {P Q : Nat → Prop} {x' : List Int}
theorem jmz {n sl:Int} (h:slotT W.T n=some sl): ∃ r,r<W.T.length∧jU g W r=some sl:=by
 grind[slotT,jU]
theorem Cls.slot (h:Cls g W P) {n:Int} {s:Nat} (hs:slotT W.T n=some (s:Nat)):P s:=by
 obtain⟨r,h1,h2⟩:=jmz (g:=g) hs
 exact h.root (by omega) h2
theorem Cls.iff (h:Cls g W P) (hq: ∀ t,P t↔Q t):Cls g W Q:=⟨fun a b=>(hq _).1 (h.root a b),fun a b=>(hq _).1 (h.edge ((hq _).2 a) b)⟩
theorem jmh {W':MwP} (hl:W'.T.length=W.T.length) (hN:W'.N=W.N) (hT: ∀ (r:Nat) (e:jl),W'.T[r]?=some e→e.st=1→ ∃ e',W.T[r]?=some e'∧e'.st=1∧e'.slot=e.slot) {r:Nat} {s:Int} (h:jU g W' r=some s):jU g W r=some s:=by
 grind[jU]
theorem root_mint {sl:Int} {r:Nat} {s:Int} (h:jU g {W with T:=jH W.T sl} r=some s):jU g W r=some s∨s=sl:=by
 grind[jU,jH]
theorem root_drop {i:Int} {r:Nat} {s:Int} (h:jU g {W with T:=Jk W.T i} r=some s):jU g W r=some s:=by
 refine jmh (W':={W with T:=Jk W.T i}) jfd rfl (fun r e he h1=>?_) h
 grind[drop_at,h2,h1]
theorem root_pin {sl r:Nat} {s:Int} (h:jU g {W with N:=jav W.N sl} r=some s):jU g W r=some s∨s=(sl:Nat):=by
 grind[jU,jav]
theorem jmE {sl r:Nat} {s:Int} (h:jU g {W with N:=jax W.N sl} r=some s):jU g W r=some s:=by
 grind[jU,jax]
theorem jkb {gens:Int} {r:Nat}:jU g {W with T:=j5 gens W.T} r=jU g W r:=by
 grind[jU,j5,jah]
theorem Cls.words (h:Cls g W P) (hr: ∀ {s t:Nat} {i:Int},P s→refO g x' (s:Nat) i=some (t:Nat)→P t):Cls g {W with x:=x'} P:=⟨h.root,hr⟩
theorem Cls.recy (h:Cls g W P) (gens:Int):Cls g {W with T:=j5 gens W.T} P:=
 ⟨fun a b=>by
  rw[jkb] at b
  exact h.root (by grind[j5]) b,h.edge⟩
theorem Cls.drop (h:Cls g W P) (i:Int):Cls g {W with T:=Jk W.T i} P:=⟨fun a b=>h.root (by grind[jfd]) (root_drop b),h.edge⟩
theorem Cls.unpin (h:Cls g W P) (sl:Nat):Cls g {W with N:=jax W.N sl} P:=⟨fun a b=>h.root a (jmE b),h.edge⟩
theorem Cls.pin (h:Cls g W P) {sl:Nat} (hs:P sl):Cls g {W with N:=jav W.N sl} P:=⟨fun a b=>by
  rcases root_pin b with c|c
  ·exact h.root a c
  grind,h.edge⟩
theorem Cls.mint (h:Cls g W P) {sl:Nat} (hs:P sl):Cls g {W with T:=jH W.T (sl:Nat)} P:=⟨fun a b=>by
  rcases root_mint b with c|c
  ·exact h.root (by grind[jcG]) c
  grind,h.edge⟩
theorem Cls.wipe (ok:jg g) (hx:W.x.length=g.words) (h:Cls g W P) {s:Nat} {y:jq} (hy:g.L[s]?=some y):Cls g {W with x:=J6 W.x y} P:=h.words fun a b=>h.edge a (wipe_refO ok hx hy b)
theorem Cls.set (ok:jg g) (hx:W.x.length=g.words) (h:Cls g W P) {s:Nat} {y:jq} (hy:g.L[s]?=some y) {i v:Int} (hv: ∀ u:Nat,v=(u:Nat)→P u):Cls g {W with x:=(Jy W.x g.slots y i v).2} P:=h.words fun{a t} {k} ha b=>by
 rcases set_refN ok hx hy b with c|⟨_,c⟩
 ·exact h.edge ha c
 grind
theorem Cls.make (ok:jg g) (hx:W.x.length=g.words) (h:Cls g W P) {s:Nat} {y:jq} (hy:g.L[s]?=some y) {hd:HdP}:Cls g {W with x:=(makeP W.x y hd).2} P:=h.words fun a b=>h.edge a (jic ok hx hy b)
theorem Cls.new (ok:jg g) (h:Cls g W P) {j:Nat} (hz:jb9 g W.x j):Cls g W (fun t=>P t∨t=j):=
 ⟨fun a b=> .inl (h.root a b),fun a b=>by
  rcases a with a|rfl
  ·exact .inl (h.edge a b)
  ·rw[hz.refO ok] at b;grind⟩
end
open Go.RowKit
set_option maxRecDepth 10000
structure CyT (g:PlG) (s:CyP):Prop where
 tk:Cls g s.W (fun t=>s.A[t]?=some true)
 zr: ∀ t:Nat,s.A[t]?=some false→jb9 g s.W.x t
def NwP (S0:Nat→Prop) (A0 A:List Bool) (t:Nat):Prop:=S0 t∨(A[t]?=some true∧A0[t]?=some false)
structure CyI (g:PlG) (S0:Nat→Prop) (A0:List Bool) (s:CyP):Prop where
 len:A0.length=s.A.length
 sA: ∀ t:Nat,S0 t→A0[t]?=some true
 up: ∀ t:Nat,A0[t]?=some true→s.A[t]?=some true
 cl:Cls g s.W (NwP S0 A0 s.A)
 nP:jca (NwP S0 A0 s.A) s.m
 nw: ∀ t:Nat,s.A[t]?=some true→A0[t]?=some false→NW s.m t
 p1:s.ph=1→ ∀ t,S0 t→Prot g s.W s.m t
 p2:2≤s.ph→ ∀ t,S0 t→NW s.m t
 D: ∀ t:Nat,s.D[t]?=some true↔(2≤s.ph∧t<s.at_∧A0[t]?=some true∧ ¬S0 t)
 zr: ∀ t:Nat,s.A[t]?=some false→jb9 g s.W.x t
 dz: ∀ t:Nat,s.D[t]?=some true→jb9 g s.W.x t
theorem bit_some {l:List Bool} {t:Nat} (h:t<l.length):l[t]?=some true∨l[t]?=some false:=by
 simp_all
section
variable {g : PlG} {long nw : Nat} {s s' : CyP} {S0 : Nat → Prop} {A0 : List Bool} {P : Nat → Prop}
theorem CyI.pA (h:CyI g S0 A0 s) {t:Nat} (hp:NwP S0 A0 s.A t):s.A[t]?=some true:=by
 rcases hp with a|a
 ·exact h.up t (h.sA t a)
 grind
theorem CyI.mark (ok:jg g) (h:jw g long s) (hI:CyI g S0 A0 s) (h1:s.ph=1) {m':MaP} {k u:Int} (hm:j0 g long s.W s.m k u=some m'):CyI g S0 A0 {s with m:=m'}:=by
 have z5:=jgP ok h.m h.w h.i hm
 exact⟨hI.len,hI.sA,hI.up,hI.cl,z5.o _ hI.cl hI.nP,fun t a b=>z5.k.nw t (hI.nw t a b),fun _ t ht=>(hI.p1 h1 t ht).keep z5.k,fun e=>absurd (show 2≤s.ph from e) (by omega),hI.D,hI.zr,hI.dz⟩
theorem CyI.goes (h:CyPre g long s) (hI:CyI g S0 A0 s):CyI g S0 A0 (Js g s):=by
 unfold Js
 split
 ·rename_i h1
  obtain⟨a,b,c,d⟩:=h.p1 h1.1
  refine⟨hI.len,hI.sA,hI.up,hI.cl,hI.nP,hI.nw,fun e=>?_,fun _ t ht=>done_prot h1.2 (hI.p1 h1.1 t ht),fun t=>?_,hI.zr,hI.dz⟩
  ·grind
  grind
 ·split
  ·rename_i h2
   refine⟨hI.len,hI.sA,hI.up,hI.cl,hI.nP,hI.nw,fun e=>(by grind),fun _=>hI.p2 (by omega),fun t=>?_,hI.zr,hI.dz⟩
   show s.D[t]?=some true↔(2≤3∧t<s.at_∧_)
   rw[hI.D t,h2.1]
   grind
  omega
theorem CyI.made (h:CyPre g long s) (hI:CyI g S0 A0 s):CyI g S0 A0 (madeC g s):=
 CyI.goes (s:={s with st:=s.st+1}) ⟨h.w,h.rf,h.m,h.i,h.A,h.D,h.p0,h.p1,h.p2,h.p3,h.ph,h.dn⟩ ⟨hI.len,hI.sA,hI.up,hI.cl,hI.nP,hI.nw,hI.p1,hI.p2,hI.D,hI.zr,hI.dz⟩
theorem CyI.doom (h:jw g long s) (hI:CyI g S0 A0 s) (h2:s.ph=2) {t:Nat} (ht:t<g.slots):(s.A[t]?=some true∧s.m.C[t]?=some 0)↔(A0[t]?=some true∧ ¬S0 t):=by
 constructor
 ·rintro⟨a,c⟩
  have hn: ¬NW s.m t:=fun hn=>hn.not c
  have hS: ¬S0 t:=fun hS=>hn (hI.p2 (by omega) t hS)
  refine⟨?_,hS⟩
  rcases bit_some (l:=A0) (t:=t) (by rw[hI.len,h.A];omega) with e|e
  ·omega
  ·exact absurd (hI.nw t a e) hn
 ·rintro⟨a,hS⟩;refine⟨hI.up t a,?_⟩
  rcases nw_or h.m.C ht with e|e
  ·omega
  ·rcases hI.nP t e with c|⟨_,c⟩
   ·grind
   grind
theorem CyI.sweep (ok:jg g) (h:jw g long s) (hI:CyI g S0 A0 s) (h2:s.ph=2) (hs:sweepC g s=some s'):CyI g S0 A0 s':=by
 have hlt:=h.lt h2
 obtain⟨a,b,_⟩:=h.p2 h2
 have hd:=hI.doom h h2 hlt
 obtain⟨y,hy⟩:=j9 hlt
 have hyA:=jW hy
 unfold sweepC at hs;rw[if_pos ⟨b,hlt⟩] at hs
 split at hs
 ·rename_i hg
  cases hs
  rw[hyA]
  obtain⟨d1,d2⟩:=hd.1 hg
  refine⟨hI.len,hI.sA,hI.up,hI.cl.wipe ok h.w.x hy,hI.nP,hI.nw,fun e=>(by grind),fun e=>hI.p2 e,fun t=>?_,fun t ht=>?_,fun t ht=>?_⟩
  ·show(s.D.set s.at_ true)[t]?=some true↔(_∧t<s.at_+1∧_)
   by_cases e:t=s.at_
   ·subst e;rw[List.getElem?_set_self (by rw[h.D];omega)]
    grind
   ·rw[List.getElem?_set_ne (by omega),hI.D t]
    grind
  ·have hne:s.at_≠t:=fun e=>by grind
   exact(jgA ok h.w.x hy hne).zero (hI.zr t ht)
  ·by_cases e:s.at_=t
   ·subst e;exact jjY ok h.w.x hy
   ·have ht':(s.D.set s.at_ true)[t]?=some true:=ht
    rw[List.getElem?_set_ne e] at ht';exact(jgA ok h.w.x hy e).zero (hI.dz t ht')
 ·rename_i hg
  cases hs
  refine⟨hI.len,hI.sA,hI.up,hI.cl,hI.nP,hI.nw,fun e=>(by grind),fun e=>hI.p2 e,fun t=>?_,hI.zr,hI.dz⟩
  show s.D[t]?=some true↔(2≤s.ph∧t<s.at_+1∧_)
  rw[hI.D t]
  grind
theorem CyI.step (ok:jg g) (h:jw g long s) (hI:CyI g S0 A0 s) {k u:Int} (hs:stepC g long nw s k u=some s'):CyI g S0 A0 s':=by
 unfold stepC at hs
 split at hs
 ·rename_i h1
  cases hm:j0 g long s.W s.m k u with
  |none=>grind
  |some m'=>rw [hm] at hs;cases hs;exact CyI.made (jeN ok h h1 hm) (hI.mark ok h h1 hm)
 ·split at hs
  ·rename_i h2
   cases hm:sweepC g s with
   |none=>grind
   |some q=>rw [hm] at hs;cases hs;exact CyI.made (jdw ok h h2.1 hm).1 (hI.sweep ok h h2.1 hm)
  grind
theorem CyI.help (ok:jg g) (h:jw g long s) (hI:CyI g S0 A0 s) (hs:j8 g long s=some s'):CyI g S0 A0 s':=by
 unfold j8 at hs
 split at hs
 ·rename_i h1
  cases hm:jaA g long s.W s.m with
  |none=>grind
  |some m'=>
   rw[hm] at hs;cases hs
   obtain⟨k,u,hk⟩:=jeA hm
   exact CyI.made (jeN ok h h1 hk) (hI.mark ok h h1 hk)
 ·split at hs
  ·rename_i h2
   cases hm:sweepC g s with
   |none=>grind
   |some q=>rw [hm] at hs;cases hs;exact CyI.made (jdw ok h h2 hm).1 (hI.sweep ok h h2 hm)
  grind
theorem CyI.begin (h:jw g long s) (h0:s.ph=0) (hT:CyT g s):CyI g (RchM g s.W) s.A (beginC g s):=by
 obtain⟨a,b,c,d⟩:=h.p0 h0
 have hP: ∀ t,NwP (RchM g s.W) s.A s.A t↔RchM g s.W t:=fun t=>by
  constructor
  ·rintro(e|⟨e1,e2⟩)
   ·omega
   grind
  ·exact .inl
 refine⟨rfl,fun t ht=>hT.tk.rch ht,fun t ht=>ht,jcr.iff fun t=>(hP t).symm,new_only,fun t e1 e2=>?_,fun _ t ht=>new_prot h.w ht,fun e=>absurd (show 2≤1 from e) (by decide),fun t=>?_,hT.zr,fun t ht=>?_⟩
 ·rw[show s.A[t]?=some true from e1] at e2;grind
 ·show s.D[t]?=some true↔(2≤1∧_)
  grind
 ·have ht':s.D[t]?=some true:=ht
  grind
theorem CyI.publish (h:jw g long s) (hI:CyI g S0 A0 s) (h3:s.ph=3) (gens:Int):(∀ t:Nat,(publishC g gens s).A[t]?=some true↔NwP S0 A0 s.A t)∧CyT g (publishC g gens s):=by
 obtain⟨a,b,c⟩:=h.p3 h3
 have hD: ∀ t:Nat,s.D[t]?=some true↔(A0[t]?=some true∧ ¬S0 t):=fun t=>by
  rw[hI.D t,h3,c]
  constructor
  ·grind
  ·intro q;refine⟨by decide,?_,q⟩
   have:=jv q.1
   rwa[hI.len,h.A] at this
 have hga:(jbp s.A s.D).2=jc0 s.A s.D:=by
  unfold jbp;rw[if_pos (h.D.trans h.A.symm),if_pos (ok_all fun i hi=>hI.up i ((hD i).1 hi).1)]
 have hget: ∀ t:Nat,(jc0 s.A s.D)[t]?=(s.A[t]?).map fun a=>a&&!((s.D[t]?).getD false):=fun t=>jiJ t (h.A.trans h.D.symm)
 have hA: ∀ t:Nat,(publishC g gens s).A[t]?=some true↔NwP S0 A0 s.A t:=fun t=>by
  show(jbp s.A s.D).2[t]?=some true↔_
  rw[hga,hget]
  constructor
  ·intro e
   cases hAt:s.A[t]? with
   |none=>grind
   |some v=>
    rw[hAt] at e;simp only[Option.map_some,Option.some.injEq,Bool.and_eq_true,Bool.not_eq_true'] at e
    obtain⟨rfl,e2⟩:=e
    have hnd: ¬s.D[t]?=some true:=fun hd=>by grind
    rw[hD] at hnd
    rcases bit_some (l:=A0) (t:=t) (by rw[hI.len];grind) with q|q
    ·left
     grind
    ·exact .inr ⟨hAt,q⟩
  ·intro hp
   have hAt:=hI.pA hp
   have hnd: ¬s.D[t]?=some true:=fun hd=>by
    obtain⟨q1,q2⟩:=(hD t).1 hd
    rcases hp with q|q
    ·grind
    grind
   rw[hAt];simp only[Option.map_some,Option.some.injEq,Bool.true_and,Bool.not_eq_true']
   grind
 refine⟨hA,⟨(hI.cl.recy gens).iff fun t=>(hA t).symm,fun t ht=>?_⟩⟩
 have ht':(jbp s.A s.D).2[t]?=some false:=ht
 rw[hga,hget] at ht'
 cases hAt:s.A[t]? with
 |none=>grind
 |some v=>
  rw[hAt] at ht'
  cases v with
  |false=>exact hI.zr t hAt
  |true=>
   refine hI.dz t ?_
   grind
end
open Go.RowKit
set_option maxRecDepth 10000
section
variable {g : PlG} {long nw : Nat} {s s' : CyP} {S0 : Nat → Prop} {A0 : List Bool} {P : Nat → Prop} {W : MwP} {m : MaP}
theorem jg8 (t:Int):shdC g long s t={s with m:=if s.ph=1 then Jl g long s.m t else s.m}:=by
 unfold shdC;split<;>rfl
theorem shdS_neg {t:Int} (h: ¬t≥0):Jl g long m t=m:=by unfold Jl;rw [if_neg];rintro⟨a,_⟩;omega
theorem shdO_eq (t:Int):Jd g long s t={s with m:=if s.ph=1 then Jl g long s.m t else s.m}:=by
 unfold Jd
 split
 ·exact jg8 t
 ·rename_i h;rw [shdS_neg h,ite_self]
structure jcg (g:PlG) (P:Nat→Prop) (s s':CyP):Prop where
 A:s'.A=s.A
 D:s'.D=s.D
 ph:s'.ph=s.ph
 at_:s'.at_=s.at_
 cl:Cls g s'.W P
 nP:jca P s.m→jca P s'.m
 nw: ∀ t,NW s.m t→NW s'.m t
 kp:s.ph=1→J1 g s.W s'.W s.m s'.m
 w: ∀ t,¬P t→jR g s.W.x s'.W.x t
theorem jcg.refl (h:Cls g s.W P):jcg g P s s:=⟨rfl,rfl,rfl,rfl,h,fun h=>h,fun _ h=>h,fun _=>J1.refl,fun _ _=>jR.refl⟩
theorem jfM (ok:jg g) (hm:jL g long W m) (hi:jaT m) {t:Int} (ht: ∀ n:Nat,t=n→P n) (h:jca P m):jca P (Jl g long m t):=fun n hn=>by
 cases ha:m.act with
 |false=>rw [jj6 ha] at hn;exact h n hn
 |true=>
  rw[jk3 hm ha] at hn
  rcases(shade_keep (W':=W) ok hm hi t).2.2.2 n hn with e|e
  ·exact h n e
  grind
theorem jhj (ok:jg g) (h:jw g long s) {a:jdT} (h2: ¬a.w%10<2) (hm':s'={s with W:=J5 g s.W a,m:=if s.ph=1 then ja2 g long s.W s.m a else s.m}) (hcl:Cls g (J5 g s.W a) P)
  (hn:jca P s.m→jca P (ja2 g long s.W s.m a)) (hw: ∀ t,¬P t→jR g s.W.x (J5 g s.W a).x t):jcg g P s s':=by
 subst hm';refine⟨rfl,rfl,rfl,rfl,hcl,fun e=>?_,fun t ht=>?_,fun e=>?_,hw⟩
 ·grind
 ·show NW (if s.ph=1 then _ else _) t
  split
  ·rename_i h1
   exact(jlO ok h.m h.w h.i (h.p1 h1).1 h2).2.nw t ht
  omega
 ·show J1 g _ _ _ (if s.ph=1 then _ else _)
  rw[if_pos (show s.ph=1 from e)];exact(jlO ok h.m h.w h.i (h.p1 e).1 h2).2
theorem jbG {sl:Int} (h:inS g sl): ∃ n:Nat,sl=n∧n<g.slots:=⟨sl.toNat,by have:=h.1;omega,by have:=h.1;have:=h.2;omega⟩
theorem refO_of {x:List Int} {n:Nat} {i:Int} (h0:(refP x g.slots (jA g (n:Nat)) i).2=0) {u:Nat} (hu:(refP x g.slots (jA g (n:Nat)) i).1=(u:Nat)):refO g x (n:Nat) i=some (u:Nat):=by
 grind[refO]
theorem sets_N (ok:jg g) (h:jw g long s) (hcl:Cls g s.W P) {a:ja0}:jcg g P s (jbj g long s a):=by
 unfold jbj
 cases hs:slotT s.W.T a.n with
 |none=>grind[jcg.refl]
 |some sl=>
  dsimp only
  have hin:=jaG h.w hs
  split
  ·grind[jcg.refl]
  ·rename_i hto
   split
   ·grind[jcg.refl]
   ·rename_i h0
    have h0:(refP s.W.x g.slots (jA g sl) a.i).2=0:=Classical.byContradiction h0
    obtain⟨n,rfl,hn⟩:=jbG hin
    obtain⟨y,hy⟩:=j9 hn
    have hPn:P n:=hcl.slot hs
    have hPo: ∀ u:Nat,(refP s.W.x g.slots (jA g (n:Nat)) a.i).1=(u:Nat)→P u:=fun u hu=>hcl.edge hPn (refO_of h0 hu)
    have hPt: ∀ u:Nat,toC s.W.T a.t=(u:Nat)→P u:=fun u hu=>by
     unfold toC at hu
     split at hu
     ·omega
     ·rename_i hge
      cases ht:slotT s.W.T a.t with
      |none=>grind
      |some v=>rw [ht] at hu;simp only[Option.getD_some] at hu;subst hu;exact hcl.slot ht
    have hA:J5 g s.W ⟨2,(n:Nat),a.i,toC s.W.T a.t,0,0⟩={s.W with x:=(Jy s.W.x g.slots (jA g (n:Nat)) a.i (toC s.W.T a.t)).2}:=jlP hin h0
    have hK:ja2 g long s.W s.m ⟨2,(n:Nat),a.i,toC s.W.T a.t,0,0⟩=Jl g long (Jl g long s.m (refP s.W.x g.slots (jA g (n:Nat)) a.i).1) (toC s.W.T a.t):=by
     grind[ja2,oldS]
    refine jhj (a:=⟨2,(n:Nat),a.i,toC s.W.T a.t,0,0⟩) ok h (by grind) ?_ ?_ ?_ ?_
    ·grind[jcD,shdO_eq]
    ·rw[hA,jW hy];exact hcl.set ok h.w.x hy hPt
    ·rw[hK];intro e
     have m1:=jg7 ok h.m (refP s.W.x g.slots (jA g (n:Nat)) a.i).1
     have e1:=jfM ok h.m h.i hPo e
     cases ha:s.m.act with
     |false=>grind[jj6]
     |true=>exact jfM ok m1 (jdV (W':=s.W) ok h.m h.i ha _).1 hPt e1
    grind[jW,jgu]
theorem jhy (ok:jg g) (h:jw g long s) (hcl:Cls g s.W P) {a:ja0} (ha: ¬a.w%6<2):jcg g P s (doesC g long s a):=by
 unfold doesC;rw[if_neg ha]
 split
 ·grind[sets_N]
 ·cases hs:slotT s.W.T a.n with
  |none=>grind[jcg.refl]
  |some sl=>
   dsimp only
   have hin:=jaG h.w hs
   obtain⟨n,rfl,hn⟩:=jbG hin
   have hPn:P n:=hcl.slot hs
   have hPu: ∀ u:Nat,((n:Nat):Int)=(u:Nat)→P u:=fun u hu=>by grind
   split
   ·refine jhj (a:=⟨5,0,a.n,0,0,0⟩) ok h (by grind) ?_ ?_ ?_ ?_
    ·grind[ja2,Jl,jfU,jg8]
    ·rw[jfU];exact hcl.drop _
    ·unfold ja2;dsimp only;rw[if_neg (by decide),if_neg (by decide),if_pos (by decide),hs];exact jfM ok h.m h.i hPu
    grind[jfU,jR.refl]
   ·split
    ·refine⟨rfl,rfl,rfl,rfl,hcl.pin hPn,fun e=>e,fun _ e=>e,fun _=>?_,fun _ _=>jR.refl⟩
     refine jdq (W':={s.W with N:=jav s.W.N n}) rfl (fun r t hr=> .inr ?_) fun t u i hr=> .inr hr
     unfold jU at hr⊢
     grind[jiB]
    ·refine jhj (a:=⟨7,(n:Nat),0,0,0,0⟩) ok h (by grind) ?_ ?_ ?_ ?_
     ·grind[ja2,Jl,jfK,jg8]
     ·rw[jfK hin];exact hcl.unpin _
     ·unfold ja2;dsimp only;rw[if_neg (by decide),if_neg (by decide),if_neg (by decide),if_pos (by decide)];exact jfM ok h.m h.i hPu
     grind[jfK,jR.refl]
theorem CyT.act (hT:CyT g s) (h:jcg g (fun t=>s.A[t]?=some true) s s'):CyT g s':=by
 refine⟨h.cl.iff fun t=>by rw[h.A],fun t ht=>?_⟩;rw[h.A] at ht;exact(h.w t (fun e=>by grind)).zero (hT.zr t ht)
theorem CyI.act (hI:CyI g S0 A0 s) (h:jcg g (NwP S0 A0 s.A) s s'):CyI g S0 A0 s':=by
 refine⟨by rw[h.A];exact hI.len,hI.sA,by rw[h.A];exact hI.up,by rw[h.A];exact h.cl,by rw[h.A];exact h.nP hI.nP,fun t a b=>h.nw t (hI.nw t (by rw[←h.A];omega) b),fun e t ht=>?_,fun e t ht=>h.nw t (hI.p2 (by rw[←h.ph];omega) t ht),fun t=>by rw[h.D,h.ph,h.at_];exact hI.D t,fun t ht=>?_,fun t ht=>?_⟩
 ·rw[h.ph] at e;exact(hI.p1 e t ht).keep (h.kp e)
 ·rw[h.A] at ht;exact(h.w t (fun e=>by rw[hI.pA e] at ht;grind)).zero (hI.zr t ht)
 ·rw[h.D] at ht;refine(h.w t fun e=>?_).zero (hI.dz t ht)
  obtain⟨_,_,q1,q2⟩:=(hI.D t).1 ht
  rcases e with e|e
  ·grind
  grind
theorem jjV {j:Nat} (hz: ∀ i,refO g W.x (j:Nat) i=none):J1 g W W m (JP m j):=by
 unfold JP
 split
 ·refine⟨fun t ⟨c,h1,h2⟩=>?_,fun r t a b c=> .inr ⟨a,b,c⟩,fun t u i a b=> .inr ⟨.inl ?_,b⟩,fun t u i a b=> .inr ⟨a,b⟩⟩
  ·by_cases e:t=j
   ·subst e;exact⟨2,List.getElem?_set_self (jv h1),by decide⟩
   ·exact⟨c,by grind,h2⟩
  grind
 grind[J1.refl]
theorem black_only {j:Nat} (h:jca P m):jca (fun t=>P t∨t=j) (JP m j):=fun t ht=>by
 unfold JP at ht
 split at ht
 ·by_cases e:t=j
  ·omega
  ·obtain⟨c,h1,h2⟩:=ht
   have h1':(m.C.set j 2)[t]?=some c:=h1
   rw[List.getElem?_set_ne (by omega)] at h1';exact .inl (h t ⟨c,h1',h2⟩)
 ·exact .inl (h t ht)
theorem black_self {j:Nat} (ha:m.act=true) (hj:j<m.C.length):NW (JP m j) j:=by
 unfold JP;rw [if_pos ha];exact⟨2,List.getElem?_set_self hj,by decide⟩
theorem jlm {sl:Int} {r:Nat} {u:Nat} (h:jU g W r=some (u:Nat)):jU g {W with T:=jH W.T sl} r=some (u:Nat):=by
 grind[jH,g1,g2,jU,root_T,jcG,jbg]
structure MakeN (g:PlG) (s s':CyP) (j:Nat):Prop where
 jf:s.A[j]?=some false
 A:s'.A=s.A.set j true
 m:s'.m=JP s.m j
 D:s'.D=s.D
 ph:s'.ph=s.ph
 at_:s'.at_=s.at_
 cl: ∀ P,Cls g s.W P→jb9 g s.W.x j→Cls g s'.W (fun t=>P t∨t=j)
 w: ∀ t:Nat,t≠j→jR g s.W.x s'.W.x t
 kp:jb9 g s.W.x j→J1 g s.W s'.W s.m (JP s.m j)
theorem makes_N (ok:jg g) (h:jw g long s) {a:ja0}:makesC g s a=s∨ ∃ j,MakeN g s (makesC g s a) j:=by
 unfold makesC
 split
 ·rename_i hc
  right
  obtain⟨k,j,_,_,hf,ht,_⟩:=jew hc.1
  obtain⟨_,_,h3,_⟩:=jdY hf
  have hl:=jv h3
  rw[h.A] at hl
  obtain⟨y,hy⟩:=j9 hl
  rw[ht];dsimp only;rw[jW hy,Int.toNat_natCast];refine⟨j,h3,rfl,rfl,rfl,rfl,rfl,fun P hP hz=>?_,fun t ht=>jez ok h.w.x hy _ (fun e=>ht e.symm),fun hz=>?_⟩
  ·exact((hP.new ok hz).mint (.inr rfl)).make (W:={s.W with T:=jH s.W.T (j:Nat)}) ok h.w.x hy
  ·refine(jdq (W':={s.W with T:=jH s.W.T (j:Nat),x:=(makeP s.W.x y (hdM y a.i)).2}) jcG (fun r u hr=> .inr (jlm hr)) fun t u i hr=> .inr ?_).trans (jjV fun i=>?_)
   ·have e:j≠t:=fun e=>by rw[←e,hz.refO ok] at hr;grind
    show refO g (makeP s.W.x y _).2 _ _=_
    rw[jcF ok (jez ok h.w.x hy _ e)];omega
   ·cases hr:refO g (makeP s.W.x y (hdM y a.i)).2 (j:Nat) i with
    |none=>rfl
    |some u=>have:=jic ok h.w.x hy hr;rw [hz.refO ok] at this;grind
 grind
theorem jgR {A:List Bool} {j t:Nat} (hj:j<A.length):(A.set j true)[t]?=some true↔A[t]?=some true∨t=j:=by
 grind
theorem jj8 {A:List Bool} {j t:Nat} (hj:j<A.length):(A.set j true)[t]?=some false↔A[t]?=some false∧t≠j:=by
 grind
theorem CyT.make {j:Nat} (hT:CyT g s) (h:MakeN g s s' j):CyT g s':=by
 have hj:=jv h.jf
 refine⟨(h.cl _ hT.tk (hT.zr j h.jf)).iff fun t=>by rw[h.A,jgR hj],fun t ht=>?_⟩;rw[h.A,jj8 hj] at ht;exact(h.w t ht.2).zero (hT.zr t ht.1)
theorem CyI.make {j:Nat} (ok:jg g) (hk:jw g long s) (h1:1≤s.ph) (hI:CyI g S0 A0 s) (h:MakeN g s s' j):CyI g S0 A0 s':=by
 have hj:=jv h.jf
 have hz:=hI.zr j h.jf
 have hk':=h.kp hz
 have ha:s.m.act=true:=by
  have:=hk.ph
  rcases(show s.ph=1∨s.ph=2∨s.ph=3 by omega) with e|e|e
  ·exact(hk.p1 e).1
  ·exact(hk.p2 e).1
  ·exact(hk.p3 e).1
 have hj0:A0[j]?=some false:=by
  rcases bit_some (l:=A0) (t:=j) (by rw[hI.len];omega) with e|e
  ·have:=hI.up j e;rw [h.jf] at this;grind
  omega
 have hP: ∀ t,(NwP S0 A0 s.A t∨t=j)↔NwP S0 A0 s'.A t:=fun t=>by
  unfold NwP;rw[h.A,jgR hj]
  grind
 refine⟨by rw[h.A,List.length_set];exact hI.len,hI.sA,fun t ht=>?_,(h.cl _ hI.cl hz).iff hP,fun t ht=>?_,fun t a b=>?_,fun e t ht=>?_,fun e t ht=>?_,fun t=>by rw[h.D,h.ph,h.at_];exact hI.D t,fun t ht=>?_,fun t ht=>?_⟩
 ·rw[h.A,jgR hj];exact .inl (hI.up t ht)
 ·rw[h.m] at ht;exact(hP t).1 (black_only hI.nP t ht)
 ·rw[h.A,jgR hj] at a;rw[h.m]
  rcases a with a|a
  ·exact hk'.nw t (hI.nw t a b)
  ·rw[a];exact black_self ha (by rw[hk.m.C,←hk.A];omega)
 ·rw[h.ph] at e;rw[h.m];exact(hI.p1 e t ht).keep hk'
 ·rw[h.ph] at e;rw[h.m];exact hk'.nw t (hI.p2 e t ht)
 ·rw[h.A,jj8 hj] at ht;exact(h.w t ht.2).zero (hI.zr t ht.1)
 ·rw[h.D] at ht;refine(h.w t fun e=>?_).zero (hI.dz t ht)
  obtain⟨_,_,q1,_⟩:=(hI.D t).1 ht
  grind
theorem CyT.does (ok:jg g) (h:jw g long s) (hT:CyT g s) {a:ja0}:CyT g (doesC g long s a):=by
 by_cases ha:a.w%6<2
 ·have e:doesC g long s a=makesC g s a:=by grind[doesC]
  rw[e]
  rcases makes_N ok h (a:=a) with e|⟨j,e⟩
  ·grind
  ·exact hT.make e
 ·exact hT.act (jhy ok h hT.tk ha)
theorem CyI.does (ok:jg g) (h:jw g long s) (h1:1≤s.ph) (hI:CyI g S0 A0 s) {a:ja0}:CyI g S0 A0 (doesC g long s a):=by
 by_cases ha:a.w%6<2
 ·have e:doesC g long s a=makesC g s a:=by grind[doesC]
  rw[e]
  rcases makes_N ok h (a:=a) with e|⟨j,e⟩
  ·grind
  ·exact hI.make ok h h1 e
 ·exact hI.act (jhy ok h hI.cl ha)
end
open Go.RowKit
set_option maxRecDepth 10000
inductive jba (g:PlG) (long:Nat):CyP→Nat→CyP→Prop
 |refl {s:CyP}:jba g long s 0 s
 |snoc {s s1 s2:CyP} {n:Nat}:jba g long s n s1→j8 g long s1=some s2→jba g long s (n+1) s2
def jdj (g:PlG) (long:Nat):Nat→CyP→Nat × CyP
 |0,s=>(0,s)
 |f+1,s=>match j8 g long s with
  |none=>(0,s)
  |some s1=>((jdj g long f s1).1+1,(jdj g long f s1).2)
def finC (g:PlG) (long:Nat) (s:CyP):Nat × CyP:=jdj g long (Jo g s) s
section
variable {g : PlG} {long long' nw : Nat} {s s' s1 s2 : CyP} {S0 : Nat → Prop} {A0 : List Bool} {P : Nat → Prop} {n : Nat}
theorem jba.cons (h0:j8 g long s=some s1) (h:jba g long s1 n s2):jba g long s (n+1) s2:=by
 induction h with
 |refl=>exact .snoc .refl h0
 |snoc _ h2 ih=>exact .snoc ih h2
theorem jba.un (h:jba g long s n s'):n=0∧s=s'∨ ∃ m s1,n=m+1∧j8 g long s=some s1∧jba g long s1 m s':=by
 induction h with
 |refl=>grind
 |snoc _ h2 ih=>
  right
  rcases ih with⟨rfl,rfl⟩|⟨m,s1,rfl,a,b⟩
  ·exact⟨0,_,rfl,h2, .refl⟩
  ·exact⟨m+1,s1,rfl,a, .snoc b h2⟩
theorem helps_is {f:Nat} (hf:n≤f) (h:jba g long s n s') (hn:j8 g long s'=none):jdj g long f s=(n,s'):=by
 induction f generalizing n s with
 |zero=>
  rcases h.un with⟨rfl,rfl⟩|⟨m,s1,rfl,_⟩
  ·rfl
  omega
 |succ f ih=>
  unfold jdj
  rcases h.un with⟨rfl,rfl⟩|⟨m,s1,rfl,a,b⟩
  ·grind
  grind
structure HelpsOk (g:PlG) (long:Nat) (s s':CyP) (n:Nat):Prop where
 ok:jw g long s'
 mes:n+Jo g s'≤Jo g s
 st:s'.st=s.st+n
 ph:s.ph≤s'.ph
 I: ∀ {S0 A0},CyI g S0 A0 s→CyI g S0 A0 s'
 A:s'.A=s.A
 T:s'.W.T=s.W.T
 N:s'.W.N=s.W.N
 le:jae g s→jae g s'
theorem jda (h:jw g long s) (ok:jg g) (hs:j8 g long s=some s'):s'.A=s.A∧s'.W.T=s.W.T∧s'.W.N=s.W.N:=by
 unfold j8 at hs
 split at hs
 ·cases hm:jaA g long s.W s.m with
  |none=>grind
  |some m'=>
   rw[hm] at hs;cases hs
   obtain⟨a,b,c,_⟩:=jdX (g:=g) (s:={s with m:=m',st:=s.st+1})
   exact⟨c,by show(Js g {s with m:=m',st:=s.st+1}).W.T=_;rw [a],by show(Js g {s with m:=m',st:=s.st+1}).W.N=_;rw [a]⟩
 ·split at hs
  ·rename_i h2
   cases hm:sweepC g s with
   |none=>grind
   |some q=>
    rw[hm] at hs;cases hs
    obtain⟨_,_,_,_,e1,e2,e3,_⟩:=jdw ok h h2 hm
    obtain⟨a,b,c,_⟩:=jdX (g:=g) (s:={q with st:=q.st+1})
    exact⟨c.trans e1,by show(Js g {q with st:=q.st+1}).W.T=_;grind,by show(Js g {q with st:=q.st+1}).W.N=_;grind⟩
  grind
theorem jba.ok (ok:jg g) (h0:jw g long s) (h:jba g long s n s'):HelpsOk g long s s' n:=by
 induction h with
 |refl=>exact⟨h0,by omega,rfl,Nat.le_refl _,fun h=>h,rfl,rfl,rfl,fun h=>h⟩
 |snoc _ h2 ih=>
  have a:=jfj ok ih.ok h2
  have b:=jhd h2
  obtain⟨c,d,e⟩:=jda ih.ok ok h2
  have f:=ih.mes
  have g1:=ih.st
  have g2:=ih.ph
  exact⟨jhe ok ih.ok h2,by omega,by omega,by omega,fun hI=>(ih.I hI).help ok ih.ok h2,c.trans ih.A,d.trans ih.T,e.trans ih.N,fun hl=>(ih.le hl).help ok ih.ok h2⟩
theorem fin_is (ok:jg g) (h0:jw g long s) (h:jba g long s n s') (hn:j8 g long s'=none):finC g long s=(n,s'):=by
 have:=(h.ok ok h0).mes
 exact helps_is (by omega) h hn
theorem helpsC_run (f:Nat) (s:CyP):jba g long s (jdj g long f s).1 (jdj g long f s).2:=by
 induction f generalizing s with
 |zero=>exact .refl
 |succ f ih=>
  unfold jdj
  cases h:j8 g long s with
  |none=>exact .refl
  |some s1=>exact(ih s1).cons h
theorem helpsC_end (ok:jg g) {f:Nat} {s:CyP} (h0:jw g long s) (hf:Jo g s≤f):j8 g long (jdj g long f s).2=none:=by
 induction f generalizing s with
 |zero=>
  cases h:j8 g long s with
  |none=>exact h
  |some s1=>have:=jfj ok h0 h;omega
 |succ f ih=>
  unfold jdj
  cases h:j8 g long s with
  |none=>omega
  |some s1=>
   have:=jfj ok h0 h
   grind[jhe]
theorem jfl:jba g long s (finC g long s).1 (finC g long s).2:=helpsC_run _ _
theorem finC_end (ok:jg g) (h0:jw g long s):j8 g long (finC g long s).2=none:=helpsC_end ok h0 (Nat.le_refl _)
theorem jgf (ok:jg g) (h0:jw g long s) (hp:s.ph≠0):(finC g long s).2.ph=3:=by
 have h1:=(jfl (g:=g) (long:=long) (s:=s)).ok ok h0
 have h2:=h1.ph
 exact jkz ok h1.ok (by omega) (finC_end ok h0)
end
structure EqW (g:PlG) (P:Nat→Prop) (s s':CyP):Prop where
 A:s'.A=s.A
 T:s'.W.T=s.W.T
 N:s'.W.N=s.W.N
 x: ∀ t,P t→jR g s.W.x s'.W.x t
 out: ∀ a,(∀ (t:Nat) (y:jq),g.L[t]?=some y→ ¬(y.addr≤a∧a<y.addr+y.size))→wAt s'.W.x a=wAt s.W.x a
section
variable {g : PlG} {x x' : List Int} {t : Nat} {y : jq}
theorem jfW {a b:Nat} {v:Int} (h:a<x.length):wAt (x.set a v) b=if a=b then v else wAt x b:=by
 grind[jgN,jaH]
theorem jfQ (ok:jg g) (h:jR g x x' t) (hy:g.L[t]?=some y):headP x' y=headP x y:=jfI (h y hy 0 (by have:=ok.fits hy;omega))
theorem jf4 (ok:jg g) (h:jR g x x' t) (hy:g.L[t]?=some y) {r:Bool} {i:Int}:fldP x' y r i=fldP x y r i:=jdZ (h y hy 0 (by have:=ok.fits hy;omega))
theorem jlA (ok:jg g) (h:jR g x x' t) (hy:g.L[t]?=some y) {r:Bool} {i:Int} (hf:fldP x y r i=0):wAt x' (fAt y i)=wAt x (fAt y i):=by
 have hin:=jaq hf
 obtain⟨j,hj⟩: ∃ j,fAt y i=y.addr+j:=⟨fAt y i-y.addr,by omega⟩
 rw[hj];exact h y hy j (by omega)
theorem jh6 (ok:jg g) (h:jR g x x' t) (hy:g.L[t]?=some y) {n:Nat} {i:Int}:refP x' n y i=refP x n y i:=by
 grind[refP,jf4,jlA]
theorem jjF (ok:jg g) (h:jR g x x' t) (hy:g.L[t]?=some y) {i:Int}:wordP x' y i=wordP x y i:=by
 grind[wordP,jf4,jlA]
theorem jmf (ok:jg g) (hx:x.length=g.words) (hx':x'.length=g.words) (h:jR g x x' t) (hy:g.L[t]?=some y) {i v:Int}:jR g (Jy x g.slots y i v).2 (Jy x' g.slots y i v).2 t:=fun z hz j hj=>by
 rw[hy] at hz;cases hz
 have f:=ok.fits hy
 unfold Jy;rw[jf4 ok h hy]
 split
 ·exact h y hy j hj
 ·split
  ·rename_i hf
   have hin:=jaq hf
   dsimp only;rw[jfW (by omega),jfW (by omega),h y hy j hj]
  ·exact h y hy j hj
theorem make_cong (ok:jg g) (hx:x.length=g.words) (hx':x'.length=g.words) (h:jR g x x' t) (hy:g.L[t]?=some y) {hd:HdP}:(makeP x' y hd).1=(makeP x y hd).1∧jR g (makeP x y hd).2 (makeP x' y hd).2 t:=by
 have f:=ok.fits hy
 unfold makeP;rw[jfQ ok h hy]
 split
 ·split
  ·grind
  ·refine⟨rfl,fun z hz j hj=>?_⟩
   grind[jfW,jd0,jbC]
 grind
end
open Go.RowKit
set_option maxRecDepth 10000
def M62:Nat:=4611686018427387904
def satA (a b:Nat):Nat:=min (a+b) M62
structure PaP where
 since:Nat
 total:Nat
 debt:Nat
 cyc:Nat
 act:Bool
structure PaB (p:PaP):Prop where
 s:p.since≤M62
 t:p.total≤M62
 d:p.debt≤M62
 c:p.cyc≤M62
def Jz (tr ast n:Nat) (p:PaP):Nat × PaP:=
  (if satA p.since n<tr then 0 else if p.act then 2 else 1,
   ⟨if satA p.since n<tr then satA p.since n else 0,satA p.total n,if p.act then satA p.debt (n*ast) else p.debt,p.cyc,p.act⟩)
def ja7 (a:Bool) (p:PaP):PaP:=if p.act=a then p else⟨0,p.total,0,if a then p.cyc else satA p.cyc 1,a⟩
theorem jg9 (a b:Nat):satA a b≤M62:=Nat.min_le_right ..
theorem PaB.ask {p:PaP} (h:PaB p) (tr ast n:Nat):PaB (Jz tr ast n p).2:=by
 refine⟨?_,jg9 _ _,?_,h.c⟩
 ·show(if _ then _ else _)≤_
  grind[jg9]
 ·show(if _ then _ else _)≤_
  split
  ·grind[jg9]
  ·exact h.d
theorem PaB.turn {p:PaP} (h:PaB p) (a:Bool):PaB (ja7 a p):=by
 unfold ja7
 split
 ·omega
 ·refine⟨Nat.zero_le _,h.t,Nat.zero_le _,?_⟩
  show(if _ then _ else _)≤_
  split
  ·exact h.c
  grind[jg9]
def capG (w:Nat):Nat:=w%4294967296
def capI (w:Nat):Nat:=w/4294967296%16777216
def capT (w:Nat):Nat:=w/72057594037927936
def capW (t i n:Nat):Nat:=n+i*4294967296+t*72057594037927936
structure HpC where
 g:PlG
 long:Nat
 nw:Nat
 gn:Int
 tn:Nat
 tr:Nat
 ast:Nat
 caps:Nat
structure HpCk (C:HpC):Prop where
 g:jg C.g
 long:1≤C.long
 nw:C.nw≤8
 gn:1≤C.gn∧C.gn≤2147483648
 tn:C.tn<8
 tr:1≤C.tr∧C.tr≤1048576
 ast:C.ast≤1024
 caps:1≤C.caps∧C.caps≤1024
structure HpP where
 s:CyP
 p:PaP
 wk:Nat
structure OpP where
 c:Nat
 h:Nat
 a:Int
 b:Int
 v:Nat
structure SnP where
 e:Int
 h:Nat
 w:Int
 addr:Int
 used:Int
 since:Int
 cyc:Int
 act:Bool
 deriving DecidableEq
def told (e:Int):SnP:=⟨e,0,0,0,0,0,0,false⟩
def jbe (C:HpC):HpP:=⟨⟨⟨List.replicate C.g.words 0,List.replicate C.caps ⟨0,0,1⟩,List.replicate C.g.slots 0⟩,jam C.g C.nw false,List.replicate C.g.slots false,false,0,List.replicate C.g.slots false,0,0⟩,⟨0,0,0,0,false⟩,0⟩
def jbq (C:HpC) (h:HpP):HpP:=⟨beginC C.g h.s,ja7 true h.p,h.wk⟩
def jbl (C:HpC) (h:HpP):HpP:=⟨publishC C.g C.gn (finC C.g C.long h.s).2,ja7 false h.p,h.wk+(finC C.g C.long h.s).1⟩
def ja5 (C:HpC) (is:CyP→Bool) (h:HpP):HpP:=if is h.s=false∧h.s.ph≠0 then jbl C h else h
def jaQ (C:HpC) (is:CyP→Bool) (h:HpP):HpP:=if is (ja5 C is h).s=true then ja5 C is h else jbl C (jbq C (ja5 C is h))
def Jt (s:CyP):Bool:=decide (0<j6 0 s.W.T)
def fitsB (g:PlG) (sz:Nat) (s:CyP):Bool:=decide (usedL g.L s.A+sz≤g.q)
def hpSlot (tn:Nat) (T:List jl) (w:Nat):Option Int:=
 if capG w≠0∧capT w=tn then(namedT T (capI w:Nat) (capG w:Nat)).map (·.slot) else none
def jbk (tn:Nat) (T:List jl):Nat:=capW tn (jbd T).1.toNat (jbd T).2.1.toNat
def jaR (C:HpC):Nat→HpP→HpP
 |0,h=>h
 |d+1,h=>match j8 C.g C.long h.s with
  |none=>h
  |some s'=>jaR C d ⟨s',{h.p with debt:=d},h.wk+1⟩
def je1 (C:HpC) (due:Nat) (h:HpP):HpP:=if due=1 then jbq C h else if due=2 then jbl C h else h
def jdf (C:HpC) (n:Nat) (h:HpP):HpP:=
 je1 C (Jz C.tr C.ast n h.p).1 (jaR C (Jz C.tr C.ast n h.p).2.debt {h with p:=(Jz C.tr C.ast n h.p).2})
def mkC (g:PlG) (s:CyP) (k:Int) (hd:HdP):CyP:=
  {s with A:=(takeP g s.A k).2.2,m:=JP s.m (takeP g s.A k).1.toNat,
           W:={s.W with T:=jH s.W.T (takeP g s.A k).1,x:=(makeP s.W.x (jA g (takeP g s.A k).1) hd).2}}
def classI (g:PlG) (need:Int):Nat:=g.cl.findIdx fun(y:Nat)=>decide (need≤(y:Nat))
def allocR (C:HpC) (h:HpP) (k:Nat):HpP:=jaQ C (fun s=>fitsB C.g (C.g.y k) s&&Jt s) h
def Jn (C:HpC) (h:HpP) (a b:Int):SnP × HpP:=
  if JT ⟨0,a,b⟩=false then(told 50,h)
  else if classI C.g (a+b+1)=C.g.cl.length then(told 50,h)
  else if fitsB C.g (C.g.y (classI C.g (a+b+1))) (allocR C h (classI C.g (a+b+1))).s=false then(told 100,allocR C h (classI C.g (a+b+1)))
  else if Jt (allocR C h (classI C.g (a+b+1))).s=false then(told 131,allocR C h (classI C.g (a+b+1)))
  else
    ({told 0 with h:=jbk C.tn (allocR C h (classI C.g (a+b+1))).s.W.T,addr:=((jA C.g (takeP C.g (allocR C h (classI C.g (a+b+1))).s.A (classI C.g (a+b+1):Nat)).1).addr:Nat)},
     jdf C (C.g.y (classI C.g (a+b+1))) {allocR C h (classI C.g (a+b+1)) with s:=mkC C.g (allocR C h (classI C.g (a+b+1))).s (classI C.g (a+b+1):Nat) ⟨(classI C.g (a+b+1):Nat),a,b⟩})
def ja9 (x:List Int) (y:jq) (i:Int):Bool × Int:=jbZ ((headP x y).getD ⟨0,0,0⟩) i
def jcA (g:PlG) (long:Nat) (s:CyP) (t:Int):CyP:={shdC g long s t with W:={(shdC g long s t).W with T:=jH (shdC g long s t).W.T t}}
def Jj (C:HpC) (h:HpP) (sl a:Int):SnP × HpP:=
 if (ja9 h.s.W.x (jA C.g sl) a).2≠0 then(told (ja9 h.s.W.x (jA C.g sl) a).2,h)
 else if (ja9 h.s.W.x (jA C.g sl) a).1=false then({told 0 with w:=(wordP h.s.W.x (jA C.g sl) a).1},h)
 else if (refP h.s.W.x C.g.slots (jA C.g sl) a).1<0 then(told 0,h)
 else if Jt (jaQ C Jt h).s=false then(told 131,jaQ C Jt h)
 else({told 0 with h:=jbk C.tn (jaQ C Jt h).s.W.T},{jaQ C Jt h with s:=jcA C.g C.long (jaQ C Jt h).s (refP h.s.W.x C.g.slots (jA C.g sl) a).1})
def jbH (g:PlG) (s:CyP) (sl i w:Int):CyP:={s with W:={s.W with x:=(JV s.W.x (jA g sl) i w).2}}
def toW (C:HpC) (h:HpP) (v:Nat):Int:=if v=0 then-1 else(hpSlot C.tn h.s.W.T v).getD (-1)
def jaO (C:HpC) (h:HpP) (sl a:Int) (v:Nat):SnP × HpP:=
 if (ja9 h.s.W.x (jA C.g sl) a).2≠0 then(told (ja9 h.s.W.x (jA C.g sl) a).2,h)
 else if (ja9 h.s.W.x (jA C.g sl) a).1=false then(told (JV h.s.W.x (jA C.g sl) a (v:Nat)).1,{h with s:=jbH C.g h.s sl a (v:Nat)})
 else if v≠0∧(hpSlot C.tn h.s.W.T v).isNone=true then(told 130,h)
 else(told 0,{h with s:=jcD C.g (Jd C.g C.long (Jd C.g C.long h.s (refP h.s.W.x C.g.slots (jA C.g sl) a).1) (toW C h v)) sl a (toW C h v)})
def jfB (h:HpP) (sl:Int):SnP × HpP:=(told (if (h.s.W.N[sl.toNat]?).getD 0<255 then 0 else 140),{h with s:={h.s with W:={h.s.W with N:=jav h.s.W.N sl.toNat}}})
def jbo (C:HpC) (h:HpP) (sl:Int):SnP × HpP:=
 if (h.s.W.N[sl.toNat]?).getD 0=0 then(told 140,h)
 else(told 0,{h with s:={shdC C.g C.long h.s sl with W:={(shdC C.g C.long h.s sl).W with N:=jax (shdC C.g C.long h.s sl).W.N sl.toNat}}})
def jfC (C:HpC) (h:HpP) (sl:Int) (w:Nat):SnP × HpP:=
 (told 0,{h with s:={shdC C.g C.long h.s sl with W:={(shdC C.g C.long h.s sl).W with T:=Jk (shdC C.g C.long h.s sl).W.T (capI w:Nat)}}})
def jbr (x:List Int) (y:jq):List Int:=match headP x y with
 |some h=>(List.range h.w.toNat).map fun i=>(wordP x y (h.r+((i:Nat):Int))).1
 |none=> []
def jeV (C:HpC) (h:HpP) (sl:Int):SnP × HpP:=({told 0 with w:=Go.Proofs.YtebiafomiemgbaaGreatDoor.sumP (jbr h.s.W.x (jA C.g sl))},h)
def hpOp (C:HpC) (h:HpP) (op:OpP) (sl:Int):SnP × HpP:=
 if op.c=2 then Jj C h sl op.a
 else if op.c=3 then jaO C h sl op.a op.v
 else if op.c=4 then jfB h sl
 else if op.c=5 then jbo C h sl
 else if op.c=6 then jfC C h sl op.h
 else jeV C h sl
def jD (C:HpC) (h:HpP) (op:OpP):SnP × HpP:=
 if op.c<1∨7<op.c then(told 250,h)
 else if op.c=1 then Jn C h op.a op.b
 else match hpSlot C.tn h.s.W.T op.h with
  |none=>(told 130,h)
  |some sl=>({(hpOp C h op sl).1 with addr:=((jA C.g sl).addr:Nat)},(hpOp C h op sl).2)
def jgn (C:HpC) (h:HpP) (q:SnP):SnP:=
 {q with used:=(usedL C.g.L h.s.A:Nat),since:=(min h.p.since 2147483647:Nat),cyc:=(min h.p.cyc 2147483647:Nat),act:=h.p.act}
def jS (C:HpC) (h:HpP) (op:OpP):SnP × HpP:=
 (jgn C (jD C {h with wk:=0} op).2 (if (jD C {h with wk:=0} op).1.e=0 then(jD C {h with wk:=0} op).1 else told (jD C {h with wk:=0} op).1.e),(jD C {h with wk:=0} op).2)
def hpStep (C:HpC) (h:HpP) (k u:Int):Bool × HpP:=
 if 0≤k∧k<(C.nw:Nat) then(match stepC C.g C.long C.nw h.s k u with
  |some s'=>(true,{h with s:=s'})
  |none=>(false,h)) else(false,h)
open Go.RowKit
set_option maxRecDepth 10000
section
variable {g : PlG} {long nw : Nat} {s s' : CyP} {x x' : List Int} {P : Nat → Prop} {n t : Nat} {y : jq} {i j w : Int}
theorem fAt_inj {i j:Int} (hi:0≤i) (hj:0≤j) (h:fAt y i=fAt y j):i=j:=by grind[fAt]
theorem jhD (ok:jg g) (hy:g.L[n]?=some y) {z:jq} (hz:g.L[t]?=some z):wAt (JV x y i w).2 z.addr=wAt x z.addr:=by
 have f1:=ok.fits hy
 have f2:=ok.fits hz
 unfold JV
 split
 ·rename_i hf
  have hin:=jaq hf
  dsimp only;refine jaH ?_
  by_cases e:n=t
  ·grind
  ·have:=ok.apart hy hz e;omega
 ·rfl
theorem jjB (ok:jg g) (hy:g.L[n]?=some y) {z:jq} (hz:g.L[t]?=some z) {r:Bool}:fldP (JV x y i w).2 z r j=fldP x z r j:=jdZ (jhD ok hy hz)
theorem jjL (ok:jg g) (hy:g.L[n]?=some y) {z:jq} (hz:g.L[t]?=some z) (hj:fldP x z true j=0):wAt (JV x y i w).2 (fAt z j)=wAt x (fAt z j):=by
 have f1:=ok.fits hy
 have f2:=ok.fits hz
 have hin2:=jaq hj
 unfold JV
 split
 ·rename_i hf
  have hin:=jaq hf
  dsimp only
  refine jaH fun e=>?_
  by_cases e2:n=t
  ·subst e2;rw[hy] at hz;cases hz
   have:=fAt_inj hin.1 hin2.1 e
   subst this;unfold fldP at hf hj
   cases hh:headP x y with
   |none=>grind
   |some q=>
    grind
  ·have:=ok.apart hy hz e2;omega
 ·rfl
theorem jjt (ok:jg g) (hy:g.L[n]?=some y):refO g (JV x y i w).2 (t:Nat) j=refO g x (t:Nat) j:=by
 by_cases ht:t<g.slots
 ·grind[refO,refP,fldP,j9,jW,jjB,jjL]
 grind[jla]
theorem jmA (ok:jg g) (hy:g.L[n]?=some y) (h:jbA g x):jbA g (JV x y i w).2:=fun t z hz j hf=>by
 rw[jjB ok hy hz] at hf;rw[jjL ok hy hz hf];exact h t z hz j hf
theorem jhC (ok:jg g) (hy:g.L[n]?=some y) (h:n≠t):jR g x (JV x y i w).2 t:=fun z hz j hj=>by
 have f1:=ok.fits hy
 have f2:=ok.fits hz
 have:=ok.apart hy hz h
 unfold JV
 split
 ·rename_i hf
  have hin:=jaq hf
  grind[jaH]
 ·rfl
theorem jlZ (ok:jg g) (hy:g.L[n]?=some y) (ht:t<g.slots):refsN (JV x y i w).2 (jA g (t:Nat))=refsN x (jA g (t:Nat)):=by
 grind[j9,jW,jhM,jhD]
theorem jw.putx (h:jw g long s) {x':List Int} (hw:jad g {s.W with x:=x'}) (hr:jbA g x') (hf: ∀ t:Nat,t<g.slots→0<refsN s.W.x (jA g (t:Nat))→refsN x' (jA g (t:Nat))=refsN s.W.x (jA g (t:Nat))):jw g long {s with W:={s.W with x:=x'}}:=
 ⟨⟨hw,hr,h.m.world rfl hf,h.i,h.A,h.D,h.p0,h.p1,h.p2,h.p3,h.ph,h.dn⟩,h.lt,fun e=>(jhT rfl).trans (h.go e)⟩
theorem jg6 (ok:jg g) (h:jw g long s) (hn:n<g.slots) (hw:0≤w∧w<18446744073709551616):jw g long (jbH g s (n:Nat) i w):=by
 obtain⟨y,hy⟩:=j9 hn
 unfold jbH;rw[jW hy]
 exact h.putx ⟨by show(JV s.W.x y i w).2.length=_;rw [jmc];exact h.w.x,jmB h.w.w hw,h.w.N,h.w.n,h.w.t⟩ (jmA ok hy h.rf) fun t ht _=>jlZ ok hy ht
theorem jhk (ok:jg g) (h:jw g long s) (hcl:Cls g s.W P) {k:Int} (hs:slotT s.W.T k=some ((n:Nat):Int)):jcg g P s (jbH g s (n:Nat) i w):=by
 have hP:=hcl.slot hs
 obtain⟨_,hn⟩:0≤((n:Nat):Int)∧n<g.slots:=by have:=jaG h.w hs;exact⟨this.1,by have:=this.2;omega⟩
 obtain⟨y,hy⟩:=j9 hn
 unfold jbH;rw[jW hy];refine⟨rfl,rfl,rfl,rfl,hcl.words fun a b=>hcl.edge a (by rw[jjt ok hy] at b;exact b),fun h=>h,fun _ h=>h,fun _=>?_,fun t ht=>jhC ok hy fun e=>ht (e▸hP)⟩
 exact jdq (W':={s.W with x:=(JV s.W.x y i w).2}) rfl (fun r u hr=> .inr hr) fun t u i hr=> .inr (by grind[jjt])
theorem read_eq (hi:inS g (n:Nat)):jcA g long s (n:Nat)={s with W:=J5 g s.W ⟨4,(n:Nat),0,0,0,0⟩,m:=if s.ph=1 then ja2 g long s.W s.m ⟨4,(n:Nat),0,0,0,0⟩ else s.m}:=by
 unfold jcA;rw[jeB hi,jg8]
 rfl
theorem ji7 (ok:jg g) (h:jw g long s) (hn:n<g.slots):jw g long (jcA g long s (n:Nat)):=by
 have hi:inS g (n:Nat):=⟨by omega,by omega⟩
 have h1:=(h.shd ok (n:Nat)).world ok (a:=⟨4,(n:Nat),0,0,0,0⟩)
 rw[jeB hi] at h1;exact h1
theorem jhr (ok:jg g) (h:jw g long s) (hcl:Cls g s.W P) (hn:n<g.slots) (hP:P n):jcg g P s (jcA g long s (n:Nat)):=by
 have hi:inS g (n:Nat):=⟨by omega,by omega⟩
 refine jhj ok h (a:=⟨4,(n:Nat),0,0,0,0⟩) (by grind) (read_eq hi) ?_ (fun ho=>?_) fun t _=>?_
 ·rw[jeB hi];exact hcl.mint hP
 ·show jca P (Jl g long s.m (n:Nat))
  exact jfM ok h.m h.i (fun k e=>by grind) ho
 grind[jeB,jR.refl]
theorem mk_cy (ok:jg g) (h:jw g long s) {k:Int} {hd:HdP} (ht:(takeP g s.A k).2.1=0):jw g long (mkC g s k hd):=by
 obtain⟨k',j,_,_,hf,e,_⟩:=jew ht
 obtain⟨_,_,h3,_⟩:=jdY hf
 have hl:=jv h3
 rw[h.A] at hl
 obtain⟨y,hy⟩:=j9 hl
 have hfit:=ok.fits hy
 unfold mkC;rw[e];dsimp only;rw[jW hy,Int.toNat_natCast]
 have h1:=(h.black j).take (A':=s.A.set j true) (by grind)
 have h2:=h1.putx (x':=(makeP s.W.x y hd).2) ⟨by show(makeP s.W.x y hd).2.length=_;rw [jiG (by rw[h.w.x];omega)];exact h.w.x,jjd h.w.w,h.w.N,h.w.n,h.w.t⟩ (jjc ok h.w.x h.rf hy hd) fun t ht hp=>jib ok h.w.x hy hd ht hp
 have h3:=h2.world ok (a:=⟨4,(j:Nat),0,0,0,0⟩)
 rw[jeB ⟨by omega,by omega⟩] at h3
 omega
theorem mk_N (ok:jg g) (h:jw g long s) {k:Int} {hd:HdP} (ht:(takeP g s.A k).2.1=0): ∃ j,(takeP g s.A k).1=(j:Nat)∧MakeN g s (mkC g s k hd) j:=by
 obtain⟨k',j,_,_,hf,e,_⟩:=jew ht
 obtain⟨_,_,h3,_⟩:=jdY hf
 have hl:=jv h3
 rw[h.A] at hl
 obtain⟨y,hy⟩:=j9 hl
 unfold mkC;rw[e];dsimp only;rw[jW hy,Int.toNat_natCast];refine⟨j,rfl,h3,rfl,rfl,rfl,rfl,rfl,fun P hP hz=>?_,fun t ht=>jez ok h.w.x hy _ (fun e=>ht e.symm),fun hz=>?_⟩
 ·exact((hP.new ok hz).mint (.inr rfl)).make (W:={s.W with T:=jH s.W.T (j:Nat)}) ok h.w.x hy
 ·refine(jdq (W':={s.W with T:=jH s.W.T (j:Nat),x:=(makeP s.W.x y hd).2}) jcG (fun r u hr=> .inr (jlm hr)) fun t u i hr=> .inr ?_).trans (jjV fun i=>?_)
  ·have e:j≠t:=fun e=>by rw[←e,hz.refO ok] at hr;grind
   show refO g (makeP s.W.x y _).2 _ _=_
   rw[jcF ok (jez ok h.w.x hy _ e)];omega
  ·cases hr:refO g (makeP s.W.x y hd).2 (j:Nat) i with
   |none=>rfl
   |some u=>have:=jic ok h.w.x hy hr;rw [hz.refO ok] at this;grind
theorem jf6 {a:ja0}:(doesC g long s a).ph=s.ph:=by
 have h1: ∀ (z:CyP) (t:Int),(shdC g long z t).ph=z.ph:=fun z t=>by grind[shdC]
 have h2: ∀ (z:CyP) (t:Int),(Jd g long z t).ph=z.ph:=fun z t=>by
  grind[Jd]
 unfold doesC
 split
 ·grind[makesC]
 ·split
  ·unfold jbj
   split
   ·rfl
   ·split
    ·rfl
    ·split
     ·rfl
     ·show(Jd g long (Jd g long s _) _).ph=_
      grind
  grind
theorem jlp:(madeC g s).W=s.W:=(jdX (g:=g) (s:={s with st:=s.st+1})).1
theorem jha {t u:Nat} (h:refO g x (t:Nat) i=some (u:Nat)):u<g.slots:=by
 grind[refO,refP]
theorem jeh (ok:jg g) (h:jw g long s) {k u:Int} (h1:stepC g long nw s k u=some s'):s'.W.T=s.W.T:=by
 unfold stepC at h1
 split at h1
 ·cases hm:j0 g long s.W s.m k u with
  |none=>grind
  |some m'=>
   grind[h1,jlp]
 grind[sweepC,h1,h2,jdw,jlp]
theorem step_A (ok:jg g) (h:jw g long s) {k u:Int} (h1:stepC g long nw s k u=some s'):s'.A=s.A:=by
 have hm: ∀ q:CyP,(madeC g q).A=q.A:=fun q=>(jdX (g:=g) (s:={q with st:=q.st+1})).2.2.1
 unfold stepC at h1
 split at h1
 ·cases hm':j0 g long s.W s.m k u with
  |none=>grind
  |some m'=>grind
 grind[sweepC]
theorem does_A {a:ja0} (ha:2≤a.w%6):(doesC g long s a).A=s.A:=by
 have h1: ∀ (z:CyP) (t:Int),(shdC g long z t).A=z.A:=fun z t=>by grind[shdC]
 have h2: ∀ (z:CyP) (t:Int),(Jd g long z t).A=z.A:=fun z t=>by
  grind[Jd]
 unfold doesC;rw[if_neg (by omega)]
 split
 ·unfold jbj
  split
  ·rfl
  ·split
   ·rfl
   ·split
    ·rfl
    ·show(Jd g long (Jd g long s _) _).A=_
     grind
 grind
theorem jfu (h0:s.ph=0):j8 g long s=none:=by grind[j8]
theorem jfq (h0:s.ph=0) {k u:Int}:stepC g long nw s k u=none:=by grind[stepC]
end
inductive HpMv (C:HpC) (wr:Bool):HpP→HpP→Prop
 |free {h:HpP} {p:PaP} {wk:Nat}:p.act=h.p.act→(PaB h.p→PaB p)→HpMv C wr h ⟨h.s,p,wk⟩
 |help {h:HpP} {s':CyP}:j8 C.g C.long h.s=some s'→HpMv C wr h {h with s:=s'}
 |step {h:HpP} {s':CyP} {k u:Int}:stepC C.g C.long C.nw h.s k u=some s'→HpMv C wr h {h with s:=s'}
 |begin {h:HpP}:h.s.ph=0→HpMv C wr h (jbq C h)
 |publish {h:HpP} {wk:Nat}:h.s.ph=3→HpMv C wr h ⟨publishC C.g C.gn h.s,ja7 false h.p,wk⟩
 |acts {h:HpP} {a:ja0}:2≤a.w%6→(wr=false→a.w%6=3∨a.w%6=4)→HpMv C wr h {h with s:=doesC C.g C.long h.s a}
 |word {h:HpP} {n:Nat} {k i w:Int}:wr=true→slotT h.s.W.T k=some ((n:Nat):Int)→0≤w∧w<18446744073709551616→HpMv C wr h {h with s:=jbH C.g h.s (n:Nat) i w}
 |read {h:HpP} {n t:Nat} {k i:Int}:slotT h.s.W.T k=some ((n:Nat):Int)→refO C.g h.s.W.x ((n:Nat):Int) i=some ((t:Nat):Int)→(JM h.s.W.T).isSome=true→HpMv C wr h {h with s:=jcA C.g C.long h.s (t:Nat)}
 |make {h:HpP} {k:Int} {hd:HdP}:(takeP C.g h.s.A k).2.1=0→(JM h.s.W.T).isSome=true→usedL C.g.L (takeP C.g h.s.A k).2.2≤C.g.q→jaz (jA C.g (takeP C.g h.s.A k).1) hd=true→HpMv C wr h {h with s:=mkC C.g h.s k hd}
inductive Jh (C:HpC) (wr:Bool):HpP→HpP→Prop
 |refl {h:HpP}:Jh C wr h h
 |tail {h h1 h2:HpP}:Jh C wr h h1→HpMv C wr h1 h2→Jh C wr h h2
theorem Jh.trans {C:HpC} {wr:Bool} {h h1 h2:HpP} (a:Jh C wr h h1) (b:Jh C wr h1 h2):Jh C wr h h2:=by
 induction b with
 |refl=>omega
 |tail _ c ih=>exact ih.tail c
theorem HpMv.one {C:HpC} {wr:Bool} {h h1:HpP} (a:HpMv C wr h h1):Jh C wr h h1:= .tail .refl a
theorem Jh.ind {C:HpC} {wr:Bool} {I:HpP→Prop} (hI: ∀ h h',HpMv C wr h h'→I h→I h') {h h':HpP} (a:Jh C wr h h') (h0:I h):I h':=by
 induction a with
 |refl=>omega
 |tail _ c ih=>grind
structure HeI (C:HpC) (h:HpP):Prop where
 ok:jw C.g C.long h.s
 t0:h.s.ph=0→CyT C.g h.s
 i1:h.s.ph≠0→ ∃ S0 A0,CyI C.g S0 A0 h.s
 pa:h.p.act=decide (h.s.ph≠0)
 pb:PaB h.p
 e: ∀ e∈h.s.W.T,1≤e.gen∧e.gen≤C.gn
 n:h.s.W.T.length=C.caps
section
variable {C : HpC} {wr : Bool} {h h' : HpP} {s s' : CyP}
theorem HeI.act (hI:HeI C h) (hc:jw C.g C.long s') (ha: ∀ P,Cls C.g h.s.W P→jcg C.g P h.s s') (he: ∀ e∈s'.W.T,1≤e.gen∧e.gen≤C.gn) (hn:s'.W.T.length=h.s.W.T.length):HeI C {h with s:=s'}:=by
 have hp:s'.ph=h.s.ph:=by
  by_cases e:h.s.ph=0
  ·exact(ha _ (hI.t0 e).tk).ph
  ·obtain⟨S0,A0,hi⟩:=hI.i1 e;exact(ha _ hi.cl).ph
 refine⟨hc,fun e=>?_,fun e=>?_,?_,hI.pb,he,hn.trans hI.n⟩
 ·have e':h.s.ph=0:=hp▸e
  exact(hI.t0 e').act (ha _ (hI.t0 e').tk)
 ·have e':h.s.ph≠0:=hp▸e
  obtain⟨S0,A0,hi⟩:=hI.i1 e'
  exact⟨S0,A0,hi.act (ha _ hi.cl)⟩
 ·show h.p.act=decide (s'.ph≠0)
  rw[hp];exact hI.pa
theorem jln {T:List jl} {t gn:Int} (h: ∀ e∈T,1≤e.gen∧e.gen≤gn): ∀ e∈jH T t,1≤e.gen∧e.gen≤gn:=fun e he=>by
 grind[jH,JM,g1,genA,h1,jbg]
theorem drop_gen {T:List jl} {i gn:Int} (h: ∀ e∈T,1≤e.gen∧e.gen≤gn): ∀ e∈Jk T i,1≤e.gen∧e.gen≤gn:=fun e he=>by
 grind[Jk]
theorem recy_gen {T:List jl} {gn:Int} (h: ∀ e∈T,1≤e.gen∧e.gen≤gn): ∀ e∈j5 gn T,1≤e.gen∧e.gen≤gn:=fun e he=>by
 grind[j5,jah]
theorem does_TN {a:ja0} (ha:2≤a.w%6):(doesC C.g C.long s a).W.T=s.W.T∨ ∃ i,(doesC C.g C.long s a).W.T=Jk s.W.T i:=by
 unfold doesC;rw[if_neg (by omega)]
 split
 ·left
  unfold jbj
  split
  ·rfl
  ·split
   ·rfl
   ·split
    ·rfl
    ·show(Jd _ _ (Jd _ _ s _) _).W.T=_
     grind[jei]
 grind[Jk,shdC]
theorem HeI.mv (hC:HpCk C) (m:HpMv C wr h h') (hI:HeI C h):HeI C h':=by
 have ok:=hC.g
 cases m with
 |free h1 h2=>exact⟨hI.ok,hI.t0,hI.i1,h1.trans hI.pa,h2 hI.pb,hI.e,hI.n⟩
 | @help s' h1=>
  have hs:=jda hI.ok ok h1
  have h0:h.s.ph≠0:=fun e=>by grind[jfu,e,h1]
  have hph:=(jhd h1).2
  refine⟨jhe ok hI.ok h1,fun e=>absurd (show s'.ph=0 from e) (by omega),fun _=>?_,?_,hI.pb,by show ∀ e∈s'.W.T,_;rw [hs.2.1];exact hI.e,by show s'.W.T.length=_;rw [hs.2.1];exact hI.n⟩
  ·obtain⟨S0,A0,hi⟩:=hI.i1 h0
   exact⟨S0,A0,hi.help ok hI.ok h1⟩
  ·show h.p.act=_
   rw[hI.pa,decide_eq_true h0]
   grind
 | @step s' k u h1=>
  have h0:h.s.ph≠0:=fun e=>by grind[jfq,e,h1]
  have hph:=(ji4 h1).2
  have hT:s'.W.T=h.s.W.T:=jeh ok hI.ok h1
  refine⟨step_cy ok hI.ok h1,fun e=>absurd (show s'.ph=0 from e) (by omega),fun _=>?_,?_,hI.pb,by show ∀ e∈s'.W.T,_;rw [hT];exact hI.e,by show s'.W.T.length=_;rw [hT];exact hI.n⟩
  ·obtain⟨S0,A0,hi⟩:=hI.i1 h0
   exact⟨S0,A0,hi.step ok hI.ok h1⟩
  ·show h.p.act=_
   rw[hI.pa,decide_eq_true h0]
   grind
 |begin h0=>
  refine⟨jiT ok hC.long hI.ok h0,fun e=>(by cases e),fun _=>⟨_,_,CyI.begin hI.ok h0 (hI.t0 h0)⟩,?_,hI.pb.turn _,hI.e,hI.n⟩
  show(ja7 true h.p).act=true
  grind[ja7]
 |publish h3=>
  obtain⟨S0,A0,hi⟩:=hI.i1 (by omega)
  refine⟨jgy hI.ok h3 C.gn,fun _=>(hi.publish hI.ok h3 C.gn).2,fun e=>absurd rfl e,?_,hI.pb.turn _,recy_gen hI.e,?_⟩
  ·show(ja7 false h.p).act=false
   grind[ja7]
  ·show(j5 C.gn h.s.W.T).length=_
   unfold j5;rw [List.length_map];exact hI.n
 | @acts a h2 _=>
  refine hI.act (jjj ok hI.ok) (fun P hP=>jhy ok hI.ok hP (by omega)) ?_ ?_
  ·rcases does_TN (C:=C) (s:=h.s) h2 with e|⟨i,e⟩
   ·rw[e];exact hI.e
   ·rw[e];exact drop_gen hI.e
  grind[does_TN,h2,e,jfd]
 | @word n k i w _ h1 h2=>
  have hin:=jaG hI.ok.w h1
  exact hI.act (jg6 ok hI.ok (by have:=hin.2;omega) h2) (fun P hP=>jhk ok hI.ok hP h1) hI.e rfl
 | @read n t k i h1 h2 _=>
  obtain⟨hn,hf⟩:=jfO h2
  have ht:t<C.g.slots:=jha h2
  refine hI.act (ji7 ok hI.ok ht) (fun P hP=>jhr ok hI.ok hP ht (hP.edge (hP.slot h1) h2)) ?_ ?_
  ·show ∀ e∈jH (shdC _ _ h.s _).W.T _,_
   rw[shdC_W];exact jln hI.e
  ·show(jH (shdC _ _ h.s _).W.T _).length=_
   grind[shdC_W,jcG]
 | @make k hd h1 _ _ _=>
  obtain⟨j,_,hm⟩:=mk_N ok hI.ok (hd:=hd) h1
  refine⟨mk_cy ok hI.ok h1,fun e=>?_,fun e=>?_,?_,hI.pb,jln hI.e,jcG.trans hI.n⟩
  ·exact(hI.t0 (hm.ph▸e)).make hm
  ·have e':h.s.ph≠0:=hm.ph▸e
   obtain⟨S0,A0,hi⟩:=hI.i1 e'
   exact⟨S0,A0,hi.make ok hI.ok (by omega) hm⟩
  ·show h.p.act=decide ((mkC C.g h.s k hd).ph≠0)
   rw[hm.ph];exact hI.pa
end
end Go.Proofs.YtebiafomiemgbaaGreatDoor.Sw
