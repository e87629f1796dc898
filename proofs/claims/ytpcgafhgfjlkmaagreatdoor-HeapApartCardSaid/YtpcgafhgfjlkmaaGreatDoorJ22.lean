/-The walker and the contracts that the law needs,part 22. -/
import Derived.Test.YtpcgafhgfjlkmaaGreatDoorD1
import Derived.ArgAppend
import Derived.ChangeMaps5
import Derived.Deep.Fields
import Derived.Deep.LoopGhost
import Derived.Deep.OwnRows
import Derived.Deep.Quiet
import Derived.Deep.Slices
import Derived.IntWalk
import Derived.Laws.Cells
import Derived.Laws.CopyOwn
import Derived.Laws.Externs
import Derived.Laws.FloatArith
import Derived.Laws.IdiomStrings
import Derived.Laws.NewFold
import Derived.Laws.StructEq
import Derived.Lib.BitFns
import Derived.Lib.Hide
import Derived.Lib.SmallJoins
import Derived.Lib.TrailingZeros
import Derived.Maps.RangeRun
import Derived.OrdersIn
import Derived.ProofKit
import Derived.RangeFuncBound
import Derived.RangeFuncCalls
import Derived.RangeFuncLeaves
import Derived.RangeFuncNested
import Derived.RecoverIn
import Derived.Shelf.Bits.Mul64
import Derived.Shelf.Slices.Turned
import Derived.Shelf.Spec.TrailingZeros
import Derived.Shelf.Strconv.Itoa0
import Derived.SizedLaws
import Derived.Sort.BigQuietIn
import Derived.StillTailTactics
import Derived.Test.YtpcgafhgfjlkmaaGreatDoorProg
import Derived.WalkKit
import Derived.Test.YtpcgafhgfjlkmaaGreatDoorJ19
import Derived.Test.YtpcgafhgfjlkmaaGreatDoorJ20
set_option linter.unusedVariables false set_option linter.unusedSimpArgs false set_option linter.unusedVariables false
set_option linter.unusedSimpArgs false
namespace Go.Proofs.YtpcgafhgfjlkmaaGreatDoor.Sw
set_option maxHeartbeats 8000000
open Go.Proofs.YtpcgafhgfjlkmaaGreatDoor renaming lo → qL, hi → qH
open Go.RowKit
set_option maxRecDepth 10000
theorem bNew_K {w0:World} {F:jb} {m:Js} {t:Nat} {p:jQ} {x:List Int} (okm:jau m) (hr:m.R[t]?=some x) (ok:J6 p) (hn:x.length=p.g.words) (hw:JW x):
  Call Tryz.prog w0 98 [.pointer (some ⟨m.b,0,none⟩), .int .i64 (t:Nat), .pointer (some ⟨p.b,0,none⟩)] (jv m++(planH p++F)) (fun r H'=> ∃ B:BoM,jag B x∧B.m=m∧B.t=t∧B.p=p∧r= .tuple [.pointer (some ⟨B.b,0,none⟩), .int .i64 0].toArray∧H'=jR B++(jv m++(planH p++F))):=by
 have hs:=ok.g.slots
 have hne: ¬((p.g.slots:Nat):Int)=0:=by omega
 have hne2: ¬((x.length:Nat):Int)≠(p.g.words:Nat):=by omega
 refine Call.enter3 (n:=39) (by rfl) Tryz.func98 rfl rfl rfl ?_;refine zhD ?_;refine j4 (Words_K okm hr) ja ?_;rintro _ _ ⟨o,ko,rfl,rfl⟩;refine zhy ?_;refine ze ?_;refine zG ?_;refine zeT ?_;refine ji (jdu ok) ja ?_;refine zi ?_;refine zbz ?_;refine zau ?_;refine zcv ?_;refine zA ?_;refine zbp ?_;refine zgf ?_;refine ji (jhT ok) ja ?_;refine zi ?_;refine zed ?_;refine zay ?_;refine zm ?_;refine zco ?_;refine zbR ?_;intro b38;refine zaI ?_;exact KE.fin (H':=jR ⟨b38,m,t,p⟩++(jv m++(planH p++F))) je rfl jd (by rw[jaX];exact ja) ⟨⟨b38,m,t,p⟩,⟨okm,ok,hr,hn,hw⟩,rfl,rfl,rfl,rfl,rfl⟩
set_option maxRecDepth 10000
structure AeS where
 k:Nat
 A:jb
theorem each1_K {w0:World} {F A0:jb} {r:jan} {bl:Nat} {yv:Value} (hG:js w0) (ok:RowOk r) (J:Nat→jb→Prop) (E:jb→Prop)
  (hy: ∀ k i A,J k A→nextB r.bs k true=some i→CallV Tryz.prog w0 yv [.int .i64 (i:Nat)] (A++((bl,cells [.pointer (some ⟨r.b,0,none⟩)] 113)::(jH r++F)))
   (fun u H'=>(u= .bool true∧ ∃ A',J (i+1) A'∧H'=A'++((bl,cells [.pointer (some ⟨r.b,0,none⟩)] 113)::(jH r++F)))∨(u= .bool false∧ ∃ A',E A'∧H'=A'++((bl,cells [.pointer (some ⟨r.b,0,none⟩)] 113)::(jH r++F)))))
  (h0:J 0 A0):
  Call Tryz.prog w0 318 [yv, .pointer (some ⟨bl,0,none⟩)] (A0++((bl,cells [.pointer (some ⟨r.b,0,none⟩)] 113)::(jH r++F)))
   (fun _ H'=> ∃ A',H'=A'++((bl,cells [.pointer (some ⟨r.b,0,none⟩)] 113)::(jH r++F))∧((∃ k,nextB r.bs k true=none∧J k A')∨E A')):=by
 have hn:=ok.n
 refine Call.enter2 (n:=22) (by rfl) Tryz.func318 rfl rfl rfl ?_;refine zy ?_;refine zV ?_;refine ji (jgu (k:=0) (v:=true) ok hG (by omega)) ja ?_;refine zcw ?_;refine zb9 ?_;refine K.loopT (σ:=AeS) [(0,_),(1,_)] (fun s kp_=>(3, .int .i64 (nxI (nextB r.bs s.k true)))::(4, .bool (nextB r.bs s.k true).isSome)::kp_) (fun s=>s.A++((bl,cells [.pointer (some ⟨r.b,0,none⟩)] 113)::(jH r++F))) (fun s=>J s.k s.A) (fun s=>r.bs.length+1-s.k) (⟨0,A0⟩) jj ja (h0) ?_;rintro⟨k,A⟩ hJ;dsimp only at hJ⊢
 cases hnx:nextB r.bs k true with
 |none=>
  unfold nxI;dsimp only[Option.isSome,Option.getD];refine zaA ?_;refine zcf ?_;exact KE.finN je rfl jd ja ⟨A,rfl, .inl ⟨k,hnx,hJ⟩⟩
 |some i=>
  unfold nxI;dsimp only[Option.isSome,Option.getD]
  obtain⟨n1,n2,n3,n4⟩:=jcV hnx
  have he:((i:Nat):Int)+1=((i+1:Nat):Int):=by omega
  refine zaA ?_;refine zbc ?_;refine zaC fun T hT=>?_;refine(hy k i A hJ hnx).mono ?_;rintro _ _ (⟨rfl,A',hJ',rfl⟩|⟨rfl,A',hE',rfl⟩)
  ·refine zd ?_;clear hT T;refine zE ?_;refine zbq ?_;refine zbL ?_;refine zdz ?_;refine zal ?_;refine zq fun T hT=>?_;rw[he];refine(CallV.part (CallV.fn (jgu (k:=i+1) (v:=true) ok hG (by omega))) ja).mono ?_;rintro _ _ ⟨rfl,rfl⟩;refine zd ?_;clear hT T;refine zez ?_;refine zbY ?_;exact KE.again ⟨i+1,A'⟩ jj ja hJ' (by grind)
  ·refine zd ?_;clear hT T;refine zU ?_;refine zcI ?_;refine zdr ?_;refine zbE ?_;refine zbS ?_;exact KE.fin je rfl jd ja ⟨A',rfl, .inr hE'⟩
theorem aeach_K {w0:World} {H:jb} {b:Nat}:
  Call Tryz.prog w0 316 [.pointer (some ⟨b,0,none⟩)] H (fun u H'=> ∃ bl,u= .func (.func 318) #[] [.pointer (some ⟨bl,0,none⟩)].toArray∧H'=(bl,cells [.pointer (some ⟨b,0,none⟩)] 113)::H):=by
 refine Call.enter1 (n:=4) (by rfl) Tryz.func316 rfl rfl rfl ?_;refine zcN ?_;intro b1;refine zbF ?_;refine zf ?_;exact KE.fin je rfl jd ja ⟨b1,rfl,rfl⟩
def jcn (A D:List Bool) (k:Nat):List Bool:=(List.range A.length).map fun i=>(A[i]?).getD false&&!(decide (i<k)&&(D[i]?).getD false)
theorem jft (A D:List Bool) (k:Nat):(jcn A D k).length=A.length:=by simp[jcn]
theorem jeE {A D:List Bool} {k i:Nat} (h:i<A.length):(jcn A D k)[i]?=some ((A[i]?).getD false&&!(decide (i<k)&&(D[i]?).getD false)):=by
 grind[jcn]
theorem jma (A D:List Bool):jcn A D 0=A:=by
 apply List.ext_getElem?
 grind[jeE,jft]
theorem jmb {A D:List Bool} {k i:Nat} (hl:D.length=A.length) (h:nextB D k true=some i):(jcn A D k).set i false=jcn A D (i+1):=by
 obtain⟨n1,n2,n3,n4⟩:=jcV h
 apply List.ext_getElem?
 intro j
 by_cases hj:j<A.length
 ·rw[jeE hj]
  by_cases hij:j=i
  ·grind[jft]
  ·rw[List.getElem?_set_ne (by omega),jeE hj]
   by_cases hjk:j<k
   ·grind
   ·by_cases hji:j<i
    ·grind
    ·simp[hjk,show ¬j<i+1 by omega]
 grind[jft]
theorem jmc {A D:List Bool} {k:Nat} (hl:D.length=A.length) (h:nextB D k true=none):jcn A D k=jcm A D:=by
 apply List.ext_getElem?
 intro j
 by_cases hj:j<A.length
 ·rw[jeE hj,jhF j hl.symm,List.getElem?_eq_getElem hj];simp only[Option.map_some,Option.getD_some]
  by_cases hjk:j<k
  ·grind
  grind[nextB]
 grind[jft,jhE]
theorem ok_bad: ∀ {A D:List Bool} {i:Nat},A[i]?=some false→D[i]?=some true→jcC A D=false
 |a::A,d::D,0,h1,h2=>by
  simp at h1 h2;subst h1;subst h2;rfl
 |a::A,d::D,i+1,h1,h2=>by
  simp only[List.getElem?_cons_succ] at h1 h2
  simp[jcC,ok_bad h1 h2]
 | [],D,i,h1,h2=>by grind
 |a::A,[],i,h1,h2=>by grind
open Go.RowKit
set_option maxRecDepth 10000
inductive RchM (g:PlG) (W:MwP):Nat→Prop
 |root {r s:Nat}:r<W.T.length+g.slots→jP g W r=some (s:Nat)→RchM g W s
 |edge {s t:Nat} {i:Int}:RchM g W s→refO g W.x (s:Nat) i=some (t:Nat)→RchM g W t
def NW (m:MaP) (s:Nat):Prop:= ∃ c,m.C[s]?=some c∧c≠0
def Lst (m:MaP) (s:Nat):Prop:=s∈m.G.q∨m.G.ow[s]?=some true∨ ∃ (k:Nat) (h:jab),m.hs[k]?=some h∧h.is=true∧h.slot=(s:Nat)
def Uns (m:MaP) (s:Nat) (i:Int):Prop:=s∈m.G.q∨m.G.ow[s]?=some true∨ ∃ (k:Nat) (h:jab),m.hs[k]?=some h∧h.is=true∧h.slot=(s:Nat)∧h.field≤i
structure jav (m:MaP):Prop where
 grey: ∀ s,m.C[s]?=some 1→Lst m s
 lst: ∀ s,Lst m s→NW m s
inductive Prot (g:PlG) (W:MwP) (m:MaP):Nat→Prop
 |col {s:Nat}:NW m s→Prot g W m s
 |root {r s:Nat}:m.root≤r→r<W.T.length+g.slots→jP g W r=some (s:Nat)→Prot g W m s
 |wht {t s:Nat} {i:Int}:Prot g W m t→m.C[t]?=some 0→refO g W.x (t:Nat) i=some (s:Nat)→Prot g W m s
 |fld {t s:Nat} {i:Int}:Uns m t i→refO g W.x (t:Nat) i=some (s:Nat)→Prot g W m s
structure JJ (g:PlG) (W W':MwP) (m m':MaP):Prop where
 nw: ∀ s,NW m s→NW m' s
 rt: ∀ r s:Nat,m.root≤r→r<W.T.length+g.slots→jP g W r=some (s:Nat)→NW m' s∨(m'.root≤r∧r<W'.T.length+g.slots∧jP g W' r=some (s:Nat))
 wt: ∀ (t s:Nat) (i:Int),m.C[t]?=some 0→refO g W.x (t:Nat) i=some (s:Nat)→NW m' s∨((m'.C[t]?=some 0∨Uns m' t i)∧refO g W'.x (t:Nat) i=some (s:Nat))
 fd: ∀ (t s:Nat) (i:Int),Uns m t i→refO g W.x (t:Nat) i=some (s:Nat)→NW m' s∨(Uns m' t i∧refO g W'.x (t:Nat) i=some (s:Nat))
def jbu (P:Nat→Prop) (m:MaP):Prop:= ∀ s,NW m s→P s
structure Cls (g:PlG) (W:MwP) (P:Nat→Prop):Prop where
 root: ∀ {r s:Nat},r<W.T.length+g.slots→jP g W r=some (s:Nat)→P s
 edge: ∀ {s t:Nat} {i:Int},P s→refO g W.x (s:Nat) i=some (t:Nat)→P t
theorem jax {g:PlG} {W:MwP}:Cls g W (RchM g W):=⟨.root, .edge⟩
theorem Cls.rch {g:PlG} {W:MwP} {P:Nat→Prop} (h:Cls g W P) {s:Nat} (hs:RchM g W s):P s:=by
 induction hs with
 |root a b=>exact h.root a b
 |edge a b ih=>exact h.edge ih b
section
variable {g : PlG} {long : Nat} {W W' W'' : MwP} {m m' m'' : MaP}
theorem JJ.refl:JJ g W W m m:=⟨fun _ h=>h,fun r s h1 h2 h3=> .inr ⟨h1,h2,h3⟩,fun t s i h1 h2=> .inr ⟨.inl h1,h2⟩,fun t s i h1 h2=> .inr ⟨h1,h2⟩⟩
theorem JJ.trans (h:JJ g W W' m m') (h':JJ g W' W'' m' m''):JJ g W W'' m m'':=by
 refine⟨fun s hs=>h'.nw s (h.nw s hs),fun r s h1 h2 h3=>?_,fun t s i h1 h2=>?_,fun t s i h1 h2=>?_⟩
 ·rcases h.rt r s h1 h2 h3 with a|⟨a,b,c⟩
  ·exact .inl (h'.nw s a)
  ·exact h'.rt r s a b c
 ·rcases h.wt t s i h1 h2 with a|⟨a|a,b⟩
  ·exact .inl (h'.nw s a)
  ·exact h'.wt t s i a b
  ·rcases h'.fd t s i a b with c|⟨c,d⟩
   ·grind
   grind
 ·rcases h.fd t s i h1 h2 with a|⟨a,b⟩
  ·exact .inl (h'.nw s a)
  ·exact h'.fd t s i a b
theorem Prot.keep (k:JJ g W W' m m') {s:Nat} (h:Prot g W m s):Prot g W' m' s:=by
 induction h with
 |col h=>exact .col (k.nw _ h)
 |root h1 h2 h3=>
  rcases k.rt _ _ h1 h2 h3 with a|⟨a,b,c⟩
  ·exact .col a
  ·exact .root a b c
 |wht h1 h2 h3 ih=>
  rcases k.wt _ _ _ h2 h3 with a|⟨a|a,b⟩
  ·exact .col a
  ·exact .wht ih a b
  ·exact .fld a b
 |fld h1 h2=>
  rcases k.fd _ _ _ h1 h2 with a|⟨a,b⟩
  ·exact .col a
  ·exact .fld a b
theorem Uns.lst {s:Nat} {i:Int} (h:Uns m s i):Lst m s:=by
 rcases h with h|h|⟨k,x,h1,h2,h3,h4⟩
 ·exact .inl h
 ·exact .inr (.inl h)
 ·exact .inr (.inr ⟨k,x,h1,h2,h3⟩)
theorem NW.not {s:Nat} (h:NW m s):m.C[s]?≠some 0:=by
 obtain⟨c,h1,h2⟩:=h
 grind
theorem nw_or (hC:m.C.length=g.slots) {s:Nat} (hs:s<g.slots):m.C[s]?=some 0∨NW m s:=by
 obtain⟨c,hc⟩:=jA (l:=m.C) (k:=s) (by omega)
 by_cases h:c=0
 ·grind
 ·exact .inr ⟨c,hc,h⟩
theorem put_lst {G:GyP} (ok:jc g) (hG:jbh g long G) {n:Nat} (hn:n<g.slots):(n∈(jam g long G n).q∨(jam g long G n).ow[n]?=some true)∧(∀ s,s∈G.q→s∈(jam g long G n).q)∧(∀ s:Nat,G.ow[s]?=some true→(jam g long G n).ow[s]?=some true)∧
  (∀ s,s∈(jam g long G n).q→s∈G.q∨s=n)∧(∀ s:Nat,(jam g long G n).ow[s]?=some true→G.ow[s]?=some true∨s=n):=by
 unfold jam
 split
 ·grind
 ·have hl:n<G.ow.length:=by rw[hG.ow];omega
  grind
theorem shade_keep (ok:jc g) (hm:jG g long W m) (hi:jav m) (s:Int):
  jav (JP g long m s)∧JJ g W' W' m (JP g long m s)∧(∀ n:Nat,s=n→n<g.slots→NW (JP g long m s) n)∧(∀ n:Nat,NW (JP g long m s) n→NW m n∨s=n):=by
 unfold JP
 split
 ·rename_i h
  obtain⟨n,rfl⟩: ∃ n:Nat,s=n:=⟨s.toNat,by omega⟩
  simp only[Int.toNat_natCast] at h⊢
  have hn:n<m.C.length:=jx h.2
  have hns:n<g.slots:=by rw[←hm.C];omega
  obtain⟨p1,p2,p3,p4,p5⟩:=put_lst ok hm.G hns
  obtain⟨m1,hm1⟩: ∃ m1,m1={m with C:=m.C.set n 1,G:=jam g long m.G n}:=⟨_,rfl⟩
  have eC:m1.C=m.C.set n 1:=by grind
  have eG:m1.G=jam g long m.G n:=by grind
  have eh:m1.hs=m.hs:=by grind
  have er:m1.root=m.root:=by grind
  rw[←hm1]
  have hself:m1.C[n]?=some 1:=by grind
  have hne: ∀ t,t≠n→m1.C[t]?=m.C[t]? :=fun t ht=>by grind
  have hnw: ∀ t,NW m t→NW m1 t:=fun t ⟨c,h1,h2⟩=>by
   by_cases e:t=n
   ·grind
   ·exact⟨c,by grind,h2⟩
  have hul: ∀ t i,Uns m t i→Uns m1 t i:=fun t i hu=>by
   rcases hu with h|h|⟨k,x,h1,h2,h3,h4⟩
   ·exact zes
   ·exact .inr (.inl (by grind))
   ·exact .inr (.inr ⟨k,x,by grind,h2,h3,h4⟩)
  have hun: ∀ i,Uns m1 n i:=fun i=>by
   rcases p1 with h|h
   ·exact zes
   ·exact .inr (.inl (by grind))
  have hll: ∀ t,Lst m t→Lst m1 t:=fun t hu=>by
   rcases hu with h|h|⟨k,x,h1,h2,h3⟩
   ·exact zes
   ·exact .inr (.inl (by grind))
   ·exact .inr (.inr ⟨k,x,by grind,h2,h3⟩)
  refine⟨⟨fun t ht=>?_,fun t ht=>?_⟩,⟨hnw,fun r t h1 h2 h3=> .inr ⟨by omega,h2,h3⟩,fun t u i h1 h2=>?_,fun t u i h1 h2=> .inr ⟨hul t i h1,h2⟩⟩,fun k hk hks=>?_,fun t ht=>?_⟩
  ·by_cases e:t=n
   ·rw[e];exact(hun 0).lst
   ·rw[hne t e] at ht;exact hll t (hi.grey t ht)
  ·by_cases e:t=n
   ·rw[e];exact⟨1,hself,by decide⟩
   ·have:Lst m t:=by
     rcases ht with h|h|⟨k,x,h1,h2,h3⟩
     ·rw[eG] at h
      rcases p4 t h with h|h
      ·exact .inl h
      omega
     ·rw[eG] at h
      rcases p5 t h with h|h
      ·exact .inr (.inl h)
      omega
     ·exact .inr (.inr ⟨k,x,by grind,h2,h3⟩)
    exact hnw t (hi.lst t this)
  ·grind
  ·obtain rfl:n=k:=by omega
   exact⟨1,hself,by decide⟩
  ·by_cases e:t=n
   ·omega
   ·left
    obtain⟨c,h1,h2⟩:=ht
    exact⟨c,by grind,h2⟩
 ·rename_i h
  refine⟨hi,JJ.refl,fun n hn hs=>?_,fun n hn=> .inl hn⟩;subst hn;simp only[Int.toNat_natCast] at h
  rcases nw_or hm.C hs with h0|h0
  ·grind
  omega
theorem jiL (ok:jc g) (hm:jG g long W m) (hi:jav m) (o:Option Int):
  jav (JO g long m o)∧JJ g W' W' m (JO g long m o)∧(∀ n:Nat,o=some ((n:Nat):Int)→n<g.slots→NW (JO g long m o) n)∧(∀ n:Nat,NW (JO g long m o) n→NW m n∨o=some ((n:Nat):Int)):=by
 cases o with
 |none=>exact⟨hi,JJ.refl,fun n hn=>(by grind),fun n hn=> .inl hn⟩
 |some s=>
  obtain⟨h1,h2,h3,h4⟩:=shade_keep (W':=W') ok hm hi s
  exact⟨h1,h2,fun n hn=>h3 n (by grind),fun n hn=>by
   rcases h4 n hn with h|h
   ·grind
   grind⟩
theorem jdx {x:List Int} {s:Nat} {i to:Int} (h:refO g x (s:Nat) i=some to) (hx:JW x):0≤to∧to<(g.slots:Nat)∧0≤i∧i<refsN x (ju g (s:Nat)):=by
 grind[refO,refP,f1,refsN,ju,fldP,headP]
theorem jg1 (hW:JX g W) {r:Nat} {to:Int} (hr:r<W.T.length+g.slots) (h:jP g W r=some to):0≤to∧to<(g.slots:Nat):=by
 unfold jP at h
 cases hT:W.T[r]? with
 |some e=>
  rw[hT] at h;dsimp only at h
  split at h
  ·rename_i he
   cases h
   exact hW.t e (List.mem_of_getElem? hT) he
  grind
 |none=>
  grind
theorem jiJ (o:Option Int) (r:Nat):JO g long {m with root:=r} o={JO g long m o with root:=r}:=by
 cases o with
 |none=>rfl
 |some s=>grind[JP,JO]
structure Mic (g:PlG) (W:MwP) (m m':MaP):Prop where
 i:jav m'
 k:JJ g W W m m'
 o: ∀ P:Nat→Prop,Cls g W P→jbu P m→jbu P m'
theorem root_mic (ok:jc g) (hm:jG g long W m) (hW:JX g W) (hi:jav m) (h:jbq g long W m=some m'):Mic g W m m':=by
 unfold jbq at h
 split at h
 ·rename_i hr
  cases h
  rw[jiJ]
  obtain⟨h1,h2,h3,h4⟩:=jiL (W':=W) ok hm hi (jP g W m.root)
  obtain⟨q1,q2,q3,q4⟩:=jeB (g:=g) (long:=long) (m:=m) (jP g W m.root)
  obtain⟨m1,hm1⟩: ∃ m1,m1=JO g long m (jP g W m.root):=⟨_,rfl⟩
  rw[←hm1] at h1 h2 h3 h4 q2⊢;refine⟨⟨h1.grey,h1.lst⟩,h2.trans ⟨fun s h=>h,fun r s a b c=>?_,fun t s i a b=> .inr ⟨.inl a,b⟩,fun t s i a b=> .inr ⟨a,b⟩⟩,fun P hc ho s hs=>?_⟩
  ·by_cases e:r=m.root
   ·subst e
    have:=jg1 hW b c
    exact .inl (h3 s c (by omega))
   grind
  ·rcases h4 s hs with a|a
   ·exact ho s a
   ·exact hc.root hr a
 grind
theorem take_mic (hm:jG g long W m) (hW:JX g W) (hi:jav m) {k:Nat} (hk:k<m.hs.length) (h:jbI m k=some m'):Mic g W m m':=by
 unfold jbI at h
 split at h
 ·grind
 ·rename_i hn
  cases hq:m.G.q with
  |nil=>grind
  |cons s q=>
   rw[hq] at h
   cases h
   have hne: ∀ (j:Nat) (x:jab),m.hs[j]?=some x→x.is=true→(m.hs.set k ⟨(s:Nat),0,true⟩)[j]?=some x:=fun j x h1 h2=>by
    grind[jbk,h1,h2]
   refine⟨⟨fun t ht=>?_,fun t ht=>?_⟩,⟨fun t h=>h,fun r t a b c=> .inr ⟨a,b,c⟩,fun t u i a b=> .inr ⟨.inl a,b⟩,fun t u i a b=> .inr ⟨?_,b⟩⟩,fun P hc ho t ht=>ho t ht⟩
   ·rcases hi.grey t ht with h|h|⟨j,x,h1,h2,h3⟩
    ·rw[hq] at h
     rcases List.mem_cons.1 h with h|h
     ·exact .inr (.inr ⟨k,_,List.getElem?_set_self hk,rfl,by rw[h]⟩)
     ·exact .inl h
    ·exact .inr (.inl h)
    ·exact .inr (.inr ⟨j,x,hne j x h1 h2,h2,h3⟩)
   ·have:Lst m t:=by
     rcases ht with h|h|⟨j,x,h1,h2,h3⟩
     ·exact zes
     ·exact .inr (.inl h)
     ·by_cases e:j=k
      ·left;grind
      ·rw[List.getElem?_set_ne (by omega)] at h1;exact .inr (.inr ⟨j,x,h1,h2,h3⟩)
    exact hi.lst t this
   ·have hi0:=(jdx b hW.w).2.2.1
    rcases a with h|h|⟨j,x,h1,h2,h3,h4⟩
    ·rw[hq] at h
     rcases List.mem_cons.1 h with h|h
     ·exact .inr (.inr ⟨k,_,List.getElem?_set_self hk,rfl,by rw[h],hi0⟩)
     ·exact .inl h
    ·exact .inr (.inl h)
    ·exact .inr (.inr ⟨j,x,hne j x h1 h2,h2,h3,h4⟩)
theorem open_same {G G1:GyP} {j:Nat} (h:ja3 G=some (j,G1)):G1.q=G.q∧G1.ow=G.ow:=by
 grind[ja3,nextB]
theorem walk_mic (ok:jc g) (hm:jG g long W m) (hW:JX g W) (hi:jav m) {k:Nat} (hk:k<m.hs.length) (h:jbc g m k=some m'):Mic g W m m':=by
 unfold jbc at h
 split at h
 ·grind
 ·rename_i hn
  unfold walkG at h
  cases hop:ja3 m.G with
  |none=>grind
  |some x=>
   obtain⟨j,G1⟩:=x
   rw[hop] at h
   obtain⟨k1,k2,k3⟩:=jg6 ok hm.G hop
   obtain⟨s1,s2⟩:=open_same hop
   obtain⟨h1,h2⟩:=k1.pg j k2
   obtain⟨b1,b2,b3⟩:=jcB ok h1
   simp only[Option.map_some] at h
   obtain⟨n,hnn⟩: ∃ n,n=g.fp j+G1.at_:=⟨_,rfl⟩
   have hol:n<m.G.ow.length:=by rw[hm.G.ow];omega
   have eq2:(walk1 g j G1).2.q=m.G.q:=by rw[←s1];rfl
   have eo2:(walk1 g j G1).2.ow=m.G.ow.set n false:=by rw[←s2,hnn];rfl
   have e1:(walk1 g j G1).1=if (m.G.ow[n]?).getD false then some n else none:=by rw[←s2,hnn];rfl
   obtain⟨r,hr⟩: ∃ r,r=walk1 g j G1:=⟨_,rfl⟩
   rw[←hr] at h eq2 eo2 e1
   obtain⟨o,G2⟩:=r
   have how: ∀ t:Nat,t≠n→G2.ow[t]?=m.G.ow[t]? :=fun t ht=>by grind
   have hon:G2.ow[n]?=some false:=by grind
   cases ho:(m.G.ow[n]?).getD false with
   |false=>
    rw[ho] at e1;simp only[Bool.false_eq_true,if_false] at e1;subst e1
    cases h
    have hnt: ∀ t:Nat,m.G.ow[t]?=some true→G2.ow[t]?=some true:=fun t ht=>by
     grind
    have hnf: ∀ t:Nat,G2.ow[t]?=some true→m.G.ow[t]?=some true:=fun t ht=>by
     grind
    refine⟨⟨fun t ht=>?_,fun t ht=>?_⟩,⟨fun t h=>h,fun r t a b c=> .inr ⟨a,b,c⟩,fun t u i a b=> .inr ⟨.inl a,b⟩,fun t u i a b=> .inr ⟨?_,b⟩⟩,fun P hc ho t ht=>ho t ht⟩
    ·rcases hi.grey t ht with h|h|h
     ·exact zes
     ·exact .inr (.inl (hnt t h))
     ·exact .inr (.inr h)
    ·refine hi.lst t ?_
     rcases ht with h|h|h
     ·exact zes
     ·exact .inr (.inl (hnf t h))
     ·exact .inr (.inr h)
    ·rcases a with h|h|h
     ·exact zes
     ·exact .inr (.inl (hnt t h))
     ·exact .inr (.inr h)
   |true=>
    rw[ho] at e1;simp only[if_true] at e1;subst e1
    cases h
    have hon2:m.G.ow[n]?=some true:=by grind
    have hne: ∀ (j:Nat) (x:jab),m.hs[j]?=some x→x.is=true→(m.hs.set k ⟨(n:Nat),0,true⟩)[j]?=some x:=fun j x h1 h2=>by
     grind[jbk,h1,h2]
    refine⟨⟨fun t ht=>?_,fun t ht=>?_⟩,⟨fun t h=>h,fun r t a b c=> .inr ⟨a,b,c⟩,fun t u i a b=> .inr ⟨.inl a,b⟩,fun t u i a b=> .inr ⟨?_,b⟩⟩,fun P hc ho t ht=>ho t ht⟩
    ·rcases hi.grey t ht with h|h|⟨j,x,h1,h2,h3⟩
     ·exact zes
     ·by_cases e:t=n
      ·exact .inr (.inr ⟨k,_,List.getElem?_set_self hk,rfl,by rw[e]⟩)
      ·exact .inr (.inl (by grind))
     ·exact .inr (.inr ⟨j,x,hne j x h1 h2,h2,h3⟩)
    ·refine hi.lst t ?_
     rcases ht with h|h|⟨j,x,h1,h2,h3⟩
     ·exact zes
     ·by_cases e:t=n
      ·grind
      ·rw[how t e] at h;exact .inr (.inl h)
     ·by_cases e:j=k
      ·subst e;rw[List.getElem?_set_self hk] at h1;cases h1
       have:n=t:=by grind
       rw[←this];exact .inr (.inl hon2)
      ·rw[List.getElem?_set_ne (by omega)] at h1;exact .inr (.inr ⟨j,x,h1,h2,h3⟩)
    ·have hi0:=(jdx b hW.w).2.2.1
     rcases a with h|h|⟨j,x,h1,h2,h3,h4⟩
     ·exact zes
     ·by_cases e:t=n
      ·exact .inr (.inr ⟨k,_,List.getElem?_set_self hk,rfl,by rw[e],hi0⟩)
      ·exact .inr (.inl (by grind))
     ·exact .inr (.inr ⟨j,x,hne j x h1 h2,h2,h3,h4⟩)
theorem scan_mic (ok:jc g) (hm:jG g long W m) (hW:JX g W) (hi:jav m) {k:Nat} (hk:k<m.hs.length) (h:scanM g long W m k=some m'):Mic g W m m':=by
 unfold scanM at h
 split at h
 ·rename_i hn
  obtain⟨hd,hhd⟩:=jA hk
  rw[jbk hhd] at h hn
  rcases hm.h k hd hhd with⟨e1,e2,e3,e4,e5⟩|e
  ·obtain⟨s,hs⟩: ∃ s:Nat,hd.slot=s:=⟨hd.slot.toNat,by omega⟩
   rw[hs] at e3 e5 h
   have hsl:s<g.slots:=by omega
   have hls:Lst m s:= .inr (.inr ⟨k,hd,hhd,hn,hs⟩)
   obtain⟨o,ho⟩: ∃ o,o=refO g W.x (s:Nat) hd.field:=⟨_,rfl⟩
   rw[←ho] at h
   obtain⟨h1,h2,h3,h4⟩:=jiL (W':=W) ok hm hi o
   obtain⟨q1,q2,q3,q4⟩:=jeB (g:=g) (long:=long) (m:=m) o
   have hlen:=(jgY ok hm o).C
   obtain⟨m1,hm1⟩: ∃ m1,m1=JO g long m o:=⟨_,rfl⟩
   rw[←hm1] at h h1 h2 h3 h4 q1 q2 q3 q4 hlen
   have hk1:k<m1.hs.length:=by rw[q1];exact hk
   have hhd1:m1.hs[k]?=some hd:=by rw[q1];exact hhd
   have hls1:Lst m1 s:= .inr (.inr ⟨k,hd,hhd1,hn,hs⟩)
   have hnw1:=h1.lst s hls1
   have hon: ∀ P:Nat→Prop,Cls g W P→ ∀ n:Nat,NW m1 n→jbu P m→P n:=fun P hc n hnn hr=>by
    rcases h4 n hnn with a|a
    ·exact hr n a
    ·rw[ho] at a;exact hc.edge (hr s (hi.lst s hls)) a
   have hto: ∀ u:Nat,refO g W.x (s:Nat) hd.field=some (u:Nat)→NW m1 u:=fun u hu=>by
    have:=jdx hu hW.w
    exact h3 u (ho.trans hu) (by omega)
   have hne: ∀ (x:jab) (j:Nat) (y:jab),j≠k→m1.hs[j]?=some y→(m1.hs.set k x)[j]?=some y:=fun x j y h1 h2=>by
    rw[List.getElem?_set_ne (by omega)];exact h2
   split at h
   ·rename_i hlt
    cases h
    rw[←q1] at*;refine⟨⟨fun t ht=>?_,fun t ht=>?_⟩,h2.trans ⟨fun t h=>h,fun r t a b c=> .inr ⟨a,b,c⟩,fun t u i a b=> .inr ⟨.inl a,b⟩,fun t u i a b=>?_⟩,fun P hc hr t ht=>hon P hc t ht hr⟩
    ·rcases h1.grey t ht with h|h|⟨j,x,p1,p2,p3⟩
     ·exact .inl h
     ·exact .inr (.inl h)
     ·by_cases e:j=k
      ·subst e;rw[hhd1] at p1;cases p1;exact .inr (.inr ⟨j,_,List.getElem?_set_self hk1,rfl,hs.symm.trans p3⟩)
      ·exact .inr (.inr ⟨j,x,hne _ j x e p1,p2,p3⟩)
    ·refine h1.lst t ?_
     rcases ht with h|h|⟨j,x,p1,p2,p3⟩
     ·exact .inl h
     ·exact .inr (.inl h)
     ·by_cases e:j=k
      ·subst e
       change (m1.hs.set j _)[j]?=some x at p1
       rw[List.getElem?_set_self hk1] at p1;cases p1;exact .inr (.inr ⟨j,hd,hhd1,hn,hs.trans p3⟩)
      ·change (m1.hs.set k _)[j]?=some x at p1
       rw[List.getElem?_set_ne (by omega)] at p1;exact .inr (.inr ⟨j,x,p1,p2,p3⟩)
    ·rcases a with h|h|⟨j,x,p1,p2,p3,p4⟩
     ·exact .inr ⟨.inl h,b⟩
     ·exact .inr ⟨.inr (.inl h),b⟩
     ·by_cases e:j=k
      ·subst e;rw[hhd1] at p1;cases p1
       have hst:s=t:=by omega
       subst hst
       by_cases hf:i=hd.field
       ·left;subst hf;exact hto u b
       ·right
        exact⟨.inr (.inr ⟨j,_,List.getElem?_set_self hk1,rfl,rfl,by show hd.field+1≤i;omega⟩),b⟩
      ·exact .inr ⟨.inr (.inr ⟨j,x,hne _ j x e p1,p2,p3,p4⟩),b⟩
   ·rename_i hge
    cases h
    rw[←q1] at*;simp only[Int.toNat_natCast] at*
    have hcs:s<m1.C.length:=by rw[hlen];exact hsl
    have hset: ∀ t,NW m1 t→NW {m1 with hs:=m1.hs.set k J2,C:=m1.C.set s 2} t:=fun t ⟨c,a,b⟩=>by
     by_cases e:t=s
     ·subst e;exact⟨2,List.getElem?_set_self hcs,by decide⟩
     ·exact⟨c,by show(m1.C.set s 2)[t]?=_;rw [List.getElem?_set_ne (by omega)];exact a,b⟩
    have hback: ∀ t,NW {m1 with hs:=m1.hs.set k J2,C:=m1.C.set s 2} t→NW m1 t:=fun t ⟨c,a,b⟩=>by
     by_cases e:t=s
     ·subst e;exact hnw1
     ·change (m1.C.set s 2)[t]?=_ at a
      rw[List.getElem?_set_ne (by omega)] at a;exact⟨c,a,b⟩
    refine⟨⟨fun t ht=>?_,fun t ht=>?_⟩,h2.trans ⟨hset,fun r t a b c=> .inr ⟨a,b,c⟩,fun t u i a b=>?_,fun t u i a b=>?_⟩,fun P hc hr t ht=>hon P hc t (hback t ht) hr⟩
    ·by_cases e:t=s
     ·subst e
      change (m1.C.set t 2)[t]?=_ at ht
      rw[List.getElem?_set_self hcs] at ht;cases ht
     ·change (m1.C.set s 2)[t]?=_ at ht
      rw[List.getElem?_set_ne (by omega)] at ht
      rcases h1.grey t ht with h|h|⟨j,x,p1,p2,p3⟩
      ·exact .inl h
      ·exact .inr (.inl h)
      ·by_cases e2:j=k
       ·subst e2;rw[hhd1] at p1;cases p1
        exfalso;omega
       ·exact .inr (.inr ⟨j,x,hne _ j x e2 p1,p2,p3⟩)
    ·refine hset t (h1.lst t ?_)
     rcases ht with h|h|⟨j,x,p1,p2,p3⟩
     ·exact .inl h
     ·exact .inr (.inl h)
     ·by_cases e:j=k
      ·subst e
       change (m1.hs.set j _)[j]?=some x at p1
       rw[List.getElem?_set_self hk1] at p1;cases p1
       cases p2
      ·change (m1.hs.set k _)[j]?=some x at p1
       rw[List.getElem?_set_ne (by omega)] at p1;exact .inr (.inr ⟨j,x,p1,p2,p3⟩)
    ·right
     refine⟨.inl ?_,b⟩
     have hts:t≠s:=by rintro rfl;exact hnw1.not a
     show(m1.C.set s 2)[t]?=_
     rw[List.getElem?_set_ne (by omega)];exact a
    ·rcases a with h|h|⟨j,x,p1,p2,p3,p4⟩
     ·exact .inr ⟨.inl h,b⟩
     ·exact .inr ⟨.inr (.inl h),b⟩
     ·by_cases e:j=k
      ·subst e;rw[hhd1] at p1;cases p1
       have hst:s=t:=by omega
       subst hst
       left
       have hrf:=jdx b hW.w
       have hf:i=hd.field:=by omega
       subst hf;exact hset u (hto u b)
      ·exact .inr ⟨.inr (.inr ⟨j,x,hne _ j x e p1,p2,p3,p4⟩),b⟩
  ·rw[e] at hn;cases hn
 grind
theorem up_mic (h:Mic g W m m'):Mic g W m (upM m'):=⟨⟨h.i.grey,h.i.lst⟩,⟨h.k.nw,h.k.rt,h.k.wt,h.k.fd⟩,h.o⟩
theorem jfF (ok:jc g) (hm:jG g long W m) (hW:JX g W) (hi:jav m) {k u:Int} (h:j1 g long W m k u=some m'):Mic g W m m':=by
 unfold j1 at h
 split at h
 ·cases hu:jak g long W m k.toNat u with
  |none=>grind
  |some m1=>
   rw[hu] at h;simp only[Option.map_some,Option.some.injEq] at h;subst h;refine up_mic ?_
   have hk:k.toNat<m.hs.length:=by omega
   grind[jak,hi,root_mic,take_mic,scan_mic,walk_mic]
 grind
theorem jjG (h:fullM m=none) {k:Nat} {x:jab} (hx:m.hs[k]?=some x):x.is=false:=by
 unfold fullM at h;rw[List.find?_eq_none] at h
 have:=h k (List.mem_range.2 (jx hx))
 grind[jbk]
theorem jms {l:List Bool}:l.count true=0↔ ∀ k:Nat,l[k]?≠some true:=by
 rw[List.count_eq_zero]
 constructor
 ·grind
 ·intro h hm
  obtain⟨k,hk⟩:=List.getElem?_of_mem hm
  grind
theorem jkG (h:JV g W m=true) (s:Nat): ¬Lst m s:=by
 unfold JV jbn at h;simp only[Bool.and_eq_true,Option.isNone_iff_eq_none,decide_eq_true_eq,List.isEmpty_iff] at h
 obtain⟨_,h1,h2,h3,h4,h5⟩:=h
 rintro(a|a|⟨k,x,a,b,c⟩)
 ·grind
 ·grind
 grind[jjG,h1]
theorem done_prot (h:JV g W m=true) {s:Nat} (hp:Prot g W m s):NW m s:=by
 have hr:W.T.length+g.slots≤m.root:=by
  grind[JV]
 induction hp with
 |col h=>omega
 |root a b c=>omega
 |wht a b c ih=>exact absurd b ih.not
 |fld a b=>exact absurd a.lst (jkG h _)
theorem help_done (ok:jc g) (hm:jG g long W m) (ha:m.act=true) (h:jae g long W m=none):JV g W m=true:=by
 have hlen:=hm.hs
 unfold jae at h
 cases hf:fullM m with
 |some k=>
  grind[J1,fullM,j1,jak,scanM]
 |none=>
  rw[hf] at h;dsimp only at h
  have hlast:(J1 m (m.hs.length-1)).is=false:=by
   obtain⟨x,hx⟩:=jA (l:=m.hs) (k:=m.hs.length-1) (by omega)
   grind[jbk,jjG]
  split at h
  ·grind
  ·rename_i h2
   split at h
   ·grind
   ·rename_i h1
    unfold j1 at h h1 h2;rw[if_pos ⟨ha,by omega,by omega⟩] at h h1 h2;simp only[Int.toNat_natCast,Option.map_eq_none_iff] at h h1 h2;unfold jak at h h1 h2;rw[if_neg (by decide),if_pos rfl] at h2;rw[if_pos rfl] at h1;rw[if_neg (by decide),if_neg (by decide),if_neg (by decide),if_pos rfl] at h
    have hq:m.G.q=[]:=by
     grind[jbI]
    have hr:W.T.length+g.slots≤m.root:=by
     grind[jbq]
    have hw:ja3 m.G=none:=by
     grind[jbc,walkG,ja3]
    have hpg:m.G.pg=none:=by
     grind[ja3]
    have hdi:nextB m.G.di 0 true=none:=by
     grind[ja3,nextB]
    have how:m.G.ow.count true=0:=jms.2 fun s hs=>by
     rcases hm.G.od s hs with hd|⟨k,hk,_⟩
     ·grind[nextB]
     grind
    grind[JV,jbn]
theorem new_in {nw:Nat} {act:Bool}:jav (J5 g nw act):=by
 refine⟨fun s hs=>?_,fun s hs=>?_⟩
 ·grind[J5]
 ·rcases hs with h|h|⟨k,x,h1,h2,h3⟩
  ·cases h
  ·grind[J5,nilG]
  ·simp only[J5,List.getElem?_replicate] at h1
   split at h1
   ·cases h1;cases h2
   grind
theorem new_only {nw:Nat} {act:Bool} {P:Nat→Prop}:jbu P (J5 g nw act):=fun s ⟨c,h1,h2⟩=>by
 grind[J5]
theorem rch_in (hW:JX g W) {s:Nat} (h:RchM g W s):s<g.slots:=by
 induction h with
 |root h1 h2=>have:=jg1 hW h1 h2;omega
 |edge h1 h2 ih=>have:=jdx h2 hW.w;omega
theorem new_prot {nw:Nat} {act:Bool} (hW:JX g W) {s:Nat} (h:RchM g W s):Prot g W (J5 g nw act) s:=by
 induction h with
 |root h1 h2=>exact .root (Nat.zero_le _) h1 h2
 |edge h1 h2 ih=>exact .wht ih (by grind[J5,rch_in,h1]) h2
theorem jcp (h1:W'.T.length=W.T.length) (h2: ∀ r s:Nat,jP g W r=some (s:Nat)→NW m s∨jP g W' r=some (s:Nat)) (h3: ∀ (t s:Nat) (i:Int),refO g W.x (t:Nat) i=some (s:Nat)→NW m s∨refO g W'.x (t:Nat) i=some (s:Nat)):JJ g W W' m m:=by
 refine⟨fun s h=>h,fun r s a b c=>?_,fun t s i a b=>?_,fun t s i a b=>?_⟩
 ·grind
 ·grind
 grind
end
open Go.RowKit
set_option maxRecDepth 10000
inductive Goes (g:PlG) (long:Nat) (W:MwP) (m:MaP):MaP→Prop
 |refl:Goes g long W m m
 |step {m1 m2:MaP} {k u:Int}:Goes g long W m m1→j1 g long W m1 k u=some m2→Goes g long W m m2
section
variable {g : PlG} {long : Nat} {W W' : MwP} {m m' m'' : MaP}
theorem Goes.trans (h:Goes g long W m m') (h':Goes g long W m' m''):Goes g long W m m'':=by
 induction h' with
 |refl=>omega
 |step _ h2 ih=>exact .step ih h2
end
set_option maxRecDepth 10000
theorem Page0_K {w0:World} {F:jb} {p:jQ} {s:Nat} {x:jg} (ok:J6 p) (hx:p.g.L[s]?=some x):
  Call Tryz.prog w0 308 [.pointer (some ⟨p.b,0,none⟩), .int .i64 (s:Nat)] (planH p++F) (fun r H'=>r= .tuple [.int .i64 (x.page:Nat), .int .i64 0].toArray∧H'=planH p++F):=by
 have hpp:=ok.g.pages.2
 have hpb:=(jet ok.g hx).1
 obtain⟨k,d,hk,hd,hs,rfl⟩:=L_at hx
 have hper:=ok.g.per hk
 have hnk:=ok.g.n hk
 have hal:=Nat.div_le_self d (p.g.per k)
 have ho:=ok.o
 have hpl:p.g.parts.length=p.g.m:=jcL
 have hkl:k<p.g.parts.length:=by omega
 have hx:p.g.parts[k]?=some (p.g.pt k):=jdj hk
 simp only[PlG.sl] at hpb⊢
 obtain⟨pt,hpt⟩: ∃ pt,pt=p.g.pt k:=⟨_,rfl⟩
 have hp1:p.g.page k=pt.page:=by rw[hpt];rfl
 have hp2:p.g.per k=pt.per:=by rw[hpt];rfl
 rw[hp1,hp2] at hpb⊢;rw[hp2] at hper hal;rw[←hpt] at hx;clear hpt
 obtain⟨a,ha⟩: ∃ a,a=d/pt.per:=⟨_,rfl⟩
 have e1:((d:Nat):Int)/((pt.per:Nat):Int)=(a:Nat):=by omega
 rw[←ha] at hpb hal⊢
 have e2:((pt.page:Nat):Int)+((a:Nat):Int)=((pt.page+a:Nat):Int):=by omega
 have hpe: ¬((pt.per:Nat):Int)=0:=by omega
 have hpn: ¬((pt.per:Nat):Int)= -1:=by omega
 refine Call.enter2 (n:=38) (by rfl) Tryz.func308 rfl rfl rfl ?_;refine zj2 ?_;simp only[jO];refine za9 ?_;refine zdB ?_;refine zbU ?_;refine zlz ?_;refine zfJ ?_;refine zbP ?_;refine KD.v0 rfl rfl (Val.fieldSl (k:=3) rfl rfl) ?_;refine zhQ ?_;refine zj ?_;refine zfJ ?_;refine zbP ?_;refine KD.v0 rfl rfl (Val.fieldSl (k:=4) rfl rfl) ?_;refine zhQ ?_;refine zgr ?_;refine zc5 ?_;refine zfL ?_;rw[e1,e2];exact zhX
theorem pin_K {w0:World} {F:jb} {p:jQ} {c j:Nat} (ok:J6 p) (hc:c<p.g.m) (hj:j<p.g.pgs c):
  Call Tryz.prog w0 160 [.pointer (some ⟨p.b,0,none⟩), .int .i64 (p.g.page c+j:Nat)] (planH p++F) (fun r H'=>r= .tuple [.agg (jck (p.g.pt c)).toArray, .int .i64 ((j*p.g.per c:Nat))].toArray∧H'=planH p++F):=by
 have hm:=ok.g.m
 have hpl:p.g.parts.length=p.g.m:=jcL
 have ho:=ok.o
 have hpc:=ok.g.page (Nat.le_of_lt hc)
 have hper:=ok.g.per hc
 have hn:=ok.g.n hc
 have hjn:=(jeU ok.g hc).1 hj
 have hpb:=ok.g.pages
 have hpp:=jbD (n:=p.g.pgs) hc
 obtain⟨s,hs⟩: ∃ s,s=p.g.page c+j:=⟨_,rfl⟩
 rw[←hs]
 have hsb:s<p.g.pages:=by show s<jz p.g.pgs p.g.m;have:jz p.g.pgs c=p.g.page c:=rfl;omega
 have hx:p.g.parts[c]?=some (p.g.pt c):=jdj hc
 obtain⟨pt,hpt⟩: ∃ pt,pt=p.g.pt c:=⟨_,rfl⟩
 have hp1:p.g.page c=pt.page:=by rw[hpt];rfl
 have hp2:p.g.per c=pt.per:=by rw[hpt];rfl
 rw[←hpt] at hx⊢;rw[hp2] at hper hjn⊢;rw[hp1] at hs hpc;unfold jck;clear hpt
 have hq: ∀ i,decide (p.g.page i≤s)=decide (((p.g.page i:Nat):Int)≤(s:Nat)):=fun i=>decide_eq_decide.2 (by omega)
 refine Call.enter2 (n:=23) (by rfl) Tryz.func160 rfl rfl rfl ?_;simp only[jO];refine zdX ?_;intro b3 b4;refine zk ?_;refine zcK ?_;refine K.drawn _ [(0,1),(1,1),(2,1),(3,1),(4,0),(5,0),(6,2),(7,0),(8,0),(9,2)] (by rfl) (by rfl) (by kernel_rfl) (by rfl) (by rfl) (by rfl) (Part.drop Part.all) ?_;refine zdA ?_;refine zgc ?_;refine zj ?_;refine zhY ?_;refine zl fun T hT=>?_;refine(CallV.part (CallV.fn (last_K (F:=(b3,cells [.int .i64 (s:Nat)] 3)::(b4,cells [.int .i64 0, .int .i64 0, .int .i64 0, .int .i64 0, .int .i64 0] 202)::F) (g:=217) (cap:=[.pointer (some ⟨b3,0,none⟩)]) (q:=fun i=>decide (p.g.page i≤s)) ok ?_ ?_)) (by first|exact ja|(simp only[jO];exact ja))).mono ?_
 ·intro i j h1 h2 h3
  have h4:p.g.page i≤p.g.page j:=jhe h1
  grind
 ·intro H' i hp hi;refine CallV.clo (cap:=[.pointer (some ⟨b3,0,none⟩)]) ?_
  have hsee:jI w0 H' ⟨b3,0,none⟩ (.int .i64 (s:Nat)):=(jI.cell (H:=planH p++((b3,cells [.int .i64 (s:Nat)] 3)::(b4,cells [.int .i64 0, .int .i64 0, .int .i64 0, .int .i64 0, .int .i64 0] 202)::F)) jF rfl).more hp
  rw[hq];unfold jck PlG.pt;dsimp only;refine Call.enter2 (n:=8) (by rfl) Tryz.func217 rfl rfl rfl ?_;refine zcN ?_;intro b2;refine zeO ?_;refine KL.v rfl (Val.loadP rfl rfl (jI.more (by assumption) ja)) ?_;refine KL.v rfl (Val.leq rfl rfl) ?_;exact zt
 ·rintro _ _ ⟨i,hi,h1,h2,rfl,rfl⟩
  have hf0:p.g.page 0=0:=rfl
  have hi1:1≤i:=by
   grind
  have hik:i=c+1:=by
   have e1:c<i:=by
    grind
   rcases Nat.lt_or_ge (c+1) i with h|h
   ·have h3:=of_decide_eq_true (h1 (c+1) h)
    have h4:p.g.page (c+1)=p.g.page c+p.g.pgs c:=rfl
    omega
   omega
  have he:(i:Int)-1=((c:Nat):Int):=by omega
  have hj':((s:Nat):Int)-((pt.page:Nat):Int)=((j:Nat):Int):=by omega
  have hmul:(((s:Nat):Int)-((pt.page:Nat):Int))*((pt.per:Nat):Int)=((j*pt.per:Nat):Int):=by grind
  rw[he];refine zg ?_;clear hT T;simp only[jO];refine zbP ?_;refine KD.v0 rfl rfl (Val.loadAP rfl rfl rfl jep) ?_;refine ziY ?_;refine zfe ?_;refine za1 ?_;refine K.drawn _ [(0,0),(1,1),(2,0),(3,0),(4,1),(5,0),(6,0),(7,1),(8,2),(9,0)] (by rfl) (by rfl) (by kernel_rfl) (by rfl) (by rfl) (by rfl) (Part.drop Part.all) ?_;refine KD.v0 rfl rfl (Val.loadA rfl rfl rfl jeo) ?_;refine zba ?_;refine zix ?_;refine KD.v1 rfl rfl (Val.sub rfl rfl (by grind[qL,qH])) ?_;refine zc0 ?_;refine KD.v1 rfl rfl (Val.mul rfl rfl (by grind[qL,qH])) ?_;refine ziY ?_;refine zbQ ?_;refine zaV ?_;rw[hmul];exact zhX
theorem In_K {w0:World} {F:jb} {p:jQ} {k:Nat} (ok:J6 p) (hk:k<p.g.pages):
  Call Tryz.prog w0 159 [.pointer (some ⟨p.b,0,none⟩), .int .i64 (k:Nat)] (planH p++F) (fun r H'=>r= .tuple [.int .i64 (p.g.fp k:Nat), .int .i64 (p.g.mp k:Nat), .int .i64 0].toArray∧H'=planH p++F):=by
 have hpb:=ok.g.pages
 have hmb:=jcB ok.g hk
 obtain⟨c,j,hc,hj,hkj⟩:=jfR (n:=p.g.pgs) hk
 have hkj':k=p.g.page c+j:=hkj
 have hin:=fun A=>pin_K (w0:=w0) (F:=A) ok hc hj
 have hper:=ok.g.per hc
 have hn:=ok.g.n hc
 have hfc:=ok.g.first (Nat.le_of_lt hc)
 have hjn:=(jeU ok.g hc).1 hj
 have h1:=jdS hc hj
 have h2:=mp_at hc hj
 rw[←hkj'] at h1 h2 hin
 have hge: ¬((k:Nat):Int)≥(p.g.pages:Nat):=by omega
 obtain⟨pt,hpt⟩: ∃ pt,pt=p.g.pt c:=⟨_,rfl⟩
 have hp1:pt.first=p.g.first c:=by rw[hpt];rfl
 have hp2:pt.many=p.g.n c:=by rw[hpt];rfl
 have hp3:pt.per=p.g.per c:=by rw[hpt];rfl
 rw[←hpt] at hin;rw[←hp1] at h1 hfc;rw[←hp2] at h2 hn hjn;rw[←hp3] at h1 h2 hper hjn hin
 obtain⟨sz,fi,ma,pa,pe⟩:=pt
 unfold jck at hin;dsimp only at hin h1 h2 hn hjn hper hfc
 obtain⟨q,hq⟩: ∃ q,q=j*pe:=⟨_,rfl⟩
 rw[←hq] at hin h1 h2 hjn
 have e1:((fi:Nat):Int)+((q:Nat):Int)=((p.g.fp k:Nat):Int):=by omega
 have e2:((ma:Nat):Int)-((q:Nat):Int)=((ma-q:Nat):Int):=by omega
 have e3:(if ((ma:Nat):Int)-((q:Nat):Int)<((pe:Nat):Int) then((ma:Nat):Int)-((q:Nat):Int) else((pe:Nat):Int))=((p.g.mp k:Nat):Int):=by omega
 clear hpt hp1 hp2 hp3 hq;refine Call.enter2 (n:=40) (by rfl) Tryz.func159 rfl rfl rfl ?_;refine zae ?_;refine zch ?_;refine zaP ?_;refine zgv ?_;simp only[jO];refine zbk ?_;refine zci ?_;refine zeA ?_;refine zmI ?_;refine zay ?_;refine zaC fun T hT=>?_;refine(CallV.part (CallV.fn (hin _)) (by first|exact ja|(simp only[jO];exact ja))).mono ?_;rintro _ _ ⟨rfl,rfl⟩;refine zd ?_;clear hT T;refine zaX ?_;intro b7;refine zk ?_;refine zcK ?_;refine ziX ?_;refine zd1 ?_;refine zj ?_;refine zc5 ?_;refine zc0 ?_;refine ziC ?_;refine zj ?_;refine zg4 ?_;refine KD.v0 rfl rfl (Val.min rfl rfl) ?_;refine zgu ?_;refine zfL ?_;rw[e1,e3];exact zhX
set_option maxRecDepth 10000
structure jdV (ring:List Int) (first many:Nat) (q:List Nat):Prop where
 n:q.length=many
 le:many≤ring.length
 lt:first<ring.length
 at_: ∀ i:Nat,i<many→ring[(first+i)%ring.length]?=(q[i]?).map fun n=>((n:Nat):Int)
theorem mod_inj {f l i j:Nat} (hi:i<l) (hj:j<l) (h:(f+i)%l=(f+j)%l):i=j:=by
 have h1:=Nat.div_add_mod (f+i) l
 have h2:=Nat.div_add_mod (f+j) l
 rw[h] at h1
 rcases Nat.lt_trichotomy ((f+i)/l) ((f+j)/l) with hh|hh|hh
 ·have:=Nat.mul_le_mul_left l (show(f+i)/l+1≤(f+j)/l from hh)
  grind
 ·grind
 ·have:=Nat.mul_le_mul_left l (show(f+j)/l+1≤(f+i)/l from hh)
  grind
theorem jdV.put {ring:List Int} {first many:Nat} {q:List Nat} (h:jdV ring first many q) (hl:many<ring.length) (s:Nat):
  jdV (ring.set ((first+many)%ring.length) (s:Nat)) first (many+1) (q++ [s]):=by
 have hlt:=Nat.mod_lt (first+many) (show 0<ring.length by omega)
 refine⟨by simp[h.n],by grind,by simpa using h.lt,fun i hi=>?_⟩;simp only[List.length_set]
 have hqn:=h.n
 have hfl:=h.lt
 by_cases hm:i=many
 ·grind
 ·rw[List.getElem?_set_ne,List.getElem?_append_left (by omega)]
  ·exact h.at_ i (by omega)
  ·intro e;exact hm (mod_inj (by omega) hl e.symm)
theorem jdV.next {ring:List Int} {first many:Nat} {s:Nat} {q:List Nat} (h:jdV ring first many (s::q)):
  ring[first]?=some ((s:Nat):Int)∧jdV ring ((first+1)%ring.length) (many-1) q:=by
 have hn:=h.n
 have hlt:=h.lt
 have hle:=h.le
 simp at hn
 constructor
 ·have:=h.at_ 0 (by omega)
  rw[Nat.add_zero,Nat.mod_eq_of_lt hlt] at this
  grind
 ·refine⟨by omega,by omega,Nat.mod_lt _ (by omega),fun i hi=>?_⟩
  have:=h.at_ (i+1) (by omega)
  rw[show((first+1)%ring.length+i)%ring.length=(first+(i+1))%ring.length by rw[Nat.mod_add_mod];grind]
  grind
structure GrR (r:GrM) (g:PlG) (G:GyP):Prop where
 ow:r.ow.bs=G.ow
 di:r.di.bs=G.di
 q:jdV r.ring r.first r.many G.q
 pg:match G.pg with
  |none=>r.at_=r.end_
  |some k=>r.at_=g.fp k+G.at_∧r.end_=g.fp k+g.mp k
 lo:r.end_≤g.slots
section
variable {w0 : World} {F : jb} {p : jQ} {r : GrM} {G : GyP}
theorem owe_K {s k:Nat} (ok:GrOk r p) (hs:s<p.g.slots) (hk:k<p.g.pages):
  Call Tryz.prog w0 309 [.agg [.pointer (some ⟨r.ow.b,0,none⟩), .pointer (some ⟨r.di.b,0,none⟩)].toArray, .int .i64 (s:Nat), .int .i64 (k:Nat)] (jH r.ow++(jH r.di++F))
   (fun v H'=>v= .tuple #[]∧H'=jH (Jx r.ow s true)++(jH (Jx r.di k true)++F)):=by
 have k1:=ok.ow
 have k2:=ok.di
 have h1:s<r.ow.bs.length:=by rw[ok.n1];omega
 have h2:k<r.di.bs.length:=by rw[ok.n2];omega
 refine Call.enter3 (n:=14) (by rfl) Tryz.func309 rfl rfl rfl ?_;refine zdV ?_;intro b3;refine zW ?_;refine zB ?_;refine zo ?_;refine ji (jdU (v:=true) k1 h1) ja ?_;refine za0 ?_;refine zF ?_;refine zo ?_;refine ji (jdU (v:=true) k2 h2) ja ?_;refine zN ?_;exact zi4
theorem pay_K {s:Nat} (ok:GrOk r p) (hs:s<p.g.slots):
  Call Tryz.prog w0 267 [.agg [.pointer (some ⟨r.ow.b,0,none⟩), .pointer (some ⟨r.di.b,0,none⟩)].toArray, .int .i64 (s:Nat)] (jH r.ow++(jH r.di++F))
   (fun v H'=>v= .bool ((r.ow.bs[s]?).getD false)∧H'=jH (Jx r.ow s false)++(jH r.di++F)):=by
 have k1:=ok.ow
 have k2:=ok.di
 have h1:s<r.ow.bs.length:=by rw[ok.n1];omega
 have hg:getB r.ow.bs (s:Nat)=(r.ow.bs[s]?).getD false:=jdC
 refine Call.enter2 (n:=15) (by rfl) Tryz.func267 rfl rfl rfl ?_;refine zgN ?_;intro b2;refine zx fun T hT=>?_;refine(CallV.part (CallV.fn (Get_K (i:=(s:Nat)) k1)) ja).mono ?_;rintro _ _ ⟨rfl,rfl⟩;rw[hg];refine zd ?_;clear hT T;refine zu ?_;refine zB ?_;refine zo ?_;refine ji (jdU (v:=false) k1 h1) ja ?_;refine zW ?_;refine ze ?_;exact zt
theorem grPut_K {s:Nat} (ok:GrOk r p) (hR:GrR r p.g G) (hs:s<p.g.slots):
  Call Tryz.prog w0 292 [.pointer (some ⟨r.b,0,none⟩), .int .i64 (s:Nat)] (JH r p++(planH p++F))
   (fun v H'=>v= .int .i64 0∧ ∃ r',GrOk r' p∧r'.b=r.b∧r'.ring.length=r.ring.length∧GrR r' p.g (jam p.g r.ring.length G s)∧H'=JH r' p++(planH p++F)):=by
 obtain⟨y,hy⟩:=jY (g:=p.g) hs
 have hpg:=jeV hy
 have hpb:=(jet ok.pl.g hy).1
 have okp:=ok.pl
 have ho:=ok.o
 have hl:=ok.l
 have hq:=hR.q.n
 have hle:=hR.q.le
 have hlt:=hR.q.lt
 by_cases hfull:r.many=r.ring.length
 ·have hput:jam p.g r.ring.length G s={G with ow:=G.ow.set s true,di:=G.di.set y.page true}:=by
   grind[jam]
  have hf:((r.many:Nat):Int)=(r.ring.length:Nat):=by omega
  refine Call.enter2 (n:=68) (by rfl) Tryz.func292 rfl rfl rfl ?_;refine zY ?_;refine zg9 ?_;simp only[Jv];refine zR ?_;refine zI ?_;refine zo ?_;refine ji (Page0_K okp hy) ja ?_;refine zdq ?_;refine zk ?_;refine zg3 ?_;refine ziV ?_;refine zap ?_;refine zet ?_;refine zP ?_;refine zdD ?_;refine zi5 ?_;refine zha ?_;refine zb0 ?_;refine KE.next (K.condT rfl (K.region ?_));refine zK ?_;refine zaZ ?_;refine zcG ?_;refine ji (owe_K ok hs hpb) ja ?_;refine zdm ?_;refine zaf ?_;refine zf ?_
  have hd:r=⟨r.b,r.ow,r.di,r.ring,r.o,r.first,r.many,r.at_,r.end_⟩:=rfl
  exact KE.fin (H':=JH ⟨r.b,Jx r.ow s true,Jx r.di y.page true,r.ring,r.o,r.first,r.many,r.at_,r.end_⟩ p++(planH p++F)) je rfl jd (by simp only[Jv];exact ja)
   ⟨rfl,⟨r.b,Jx r.ow s true,Jx r.di y.page true,r.ring,r.o,r.first,r.many,r.at_,r.end_⟩,⟨okp,jdw ok.ow _ _,jdw ok.di _ _,ho,by simpa [Jx] using ok.n1,by simpa [Jx] using ok.n2,hl⟩,rfl,rfl,by
    rw[hput];exact⟨by show(r.ow.bs.set s true)=_;rw [hR.ow],by show(r.di.bs.set y.page true)=_;rw [hR.di],hR.q,hR.pg,hR.lo⟩,by grind[Jv]⟩
 ·have hput:jam p.g r.ring.length G s={G with q:=G.q++ [s]}:=by
   grind[jam]
  have hf: ¬((r.many:Nat):Int)=(r.ring.length:Nat):=by omega
  have hml:=Nat.mod_lt (r.first+r.many) (show 0<r.ring.length by omega)
  have he:(((r.first:Nat):Int)+((r.many:Nat):Int))%((r.ring.length:Nat):Int)=(((r.first+r.many)%r.ring.length:Nat):Int):=rfl
  obtain⟨a,ha⟩: ∃ a,(r.first+r.many)%r.ring.length=a:=⟨_,rfl⟩
  have hring:=hR.q.put (by omega) s
  rw[ha] at hml he hring
  have hn0: ¬((r.ring.length:Nat):Int)=0:=by omega
  have hn1: ¬((r.ring.length:Nat):Int)= -1:=by omega
  obtain⟨z0,hz0⟩:=jA hml
  have e1:((r.many:Nat):Int)+1=((r.many+1:Nat):Int):=by omega
  refine Call.enter2 (n:=68) (by rfl) Tryz.func292 rfl rfl rfl ?_;refine zY ?_;refine zg9 ?_;simp only[Jv];refine zR ?_;refine zI ?_;refine zo ?_;refine ji (Page0_K okp hy) ja ?_;refine zdq ?_;refine zk ?_;refine zg3 ?_;refine ziV ?_;refine zap ?_;refine zet ?_;refine zP ?_;refine zdD ?_;refine zi5 ?_;refine zhb ?_;refine zb0 ?_;refine KE.next (K.condF rfl (K.seq ?_));refine K.drawn [] [(0,0),(1,0),(2,0),(3,0),(4,0),(5,0),(6,0),(7,0),(8,0),(9,0),(10,0),(11,0),(12,0),(13,0),(14,0),(15,0),(16,0),(17,0),(18,0),(19,0),(20,0),(21,2)] (by rfl) (by rfl) (by kernel_rfl) (by rfl) (by rfl) (by rfl) Part.nil ?_;refine zdD ?_;refine zap ?_;refine zc0 ?_;refine zap ?_;refine zet ?_;refine zP ?_;refine zc5 ?_;refine zdD ?_;refine zi5 ?_;refine zhG ?_;refine zj ?_;refine KD.v0 rfl rfl (Val.idxSlZ rfl rfl rfl (Sli.own jn (by omega) j6) rfl (by omega)) ?_;rw[he];refine zhH ?_;refine zfe ?_;refine zek ?_;refine zcF ?_;refine zp ?_;refine zal ?_;refine zaQ ?_;refine zca ?_;refine zO ?_;refine zdm ?_;refine zaf ?_;refine zf ?_;rw[Int.toNat_natCast]
  skip
  exact KE.fin (H':=JH ⟨r.b,r.ow,r.di,r.ring.set a (s:Nat),r.o,r.first,r.many+1,r.at_,r.end_⟩ p++(planH p++F)) je rfl jd (by simp only[Jv,List.length_set];exact ja)
   ⟨rfl,⟨r.b,r.ow,r.di,r.ring.set a (s:Nat),r.o,r.first,r.many+1,r.at_,r.end_⟩,⟨okp,ok.ow,ok.di,ho.set _ _,ok.n1,ok.n2,by grind⟩,rfl,by simp,by
    rw[hput];exact⟨hR.ow,hR.di,hring,hR.pg,hR.lo⟩,by grind[Jv]⟩
theorem grNext_K (ok:GrOk r p) (hR:GrR r p.g G):
  Call Tryz.prog w0 223 [.pointer (some ⟨r.b,0,none⟩)] (JH r p++F)
   (fun v H'=>(G.q=[]∧v= .tuple [.int .i64 0, .bool false].toArray∧H'=JH r p++F)∨ ∃ s q r',G.q=s::q∧v= .tuple [.int .i64 (s:Nat), .bool true].toArray∧GrOk r' p∧r'.b=r.b∧r'.ring.length=r.ring.length∧GrR r' p.g {G with q:=q}∧H'=JH r' p++F):=by
 have ho:=ok.o
 have hl:=ok.l
 have hn:=hR.q.n
 have hlt:=hR.q.lt
 have hle:=hR.q.le
 cases hq:G.q with
 |nil=>
  rw[hq] at hn
  simp at hn
  have hm0:((r.many:Nat):Int)=0:=by omega
  refine Call.enter1 (n:=47) (by rfl) Tryz.func223 rfl rfl rfl ?_;refine zfH ?_;refine zg9 ?_;simp only[Jv];refine zan ?_;refine zca ?_;refine zai ?_;refine zJ ?_;refine zC ?_;refine zgh ?_;exact KE.fin je rfl jd (by first|exact ja|(simp only[Jv];exact ja)) (.inl ⟨trivial,rfl,rfl⟩)
 |cons s q=>
  have hRq:=hR.q
  rw[hq] at hRq
  obtain⟨hx,hnx⟩:=hRq.next
  rw[hq] at hn
  simp at hn
  have hm0: ¬((r.many:Nat):Int)=0:=by omega
  have hml:=Nat.mod_lt (r.first+1) (show 0<r.ring.length by omega)
  obtain⟨a,ha⟩: ∃ a,(r.first+1)%r.ring.length=a:=⟨_,rfl⟩
  have he:(((r.first:Nat):Int)+1)%((r.ring.length:Nat):Int)=((a:Nat):Int):=by grind
  have e1:((r.many:Nat):Int)-1=((r.many-1:Nat):Int):=by omega
  rw[ha] at hnx hml
  have hn0: ¬((r.ring.length:Nat):Int)=0:=by omega
  refine Call.enter1 (n:=47) (by rfl) Tryz.func223 rfl rfl rfl ?_;refine zfH ?_;refine zg9 ?_;simp only[Jv];refine zan ?_;refine zca ?_;refine zai ?_;refine zbz ?_;refine zbU ?_;refine ziV ?_;refine zdD ?_;refine zap ?_;refine zc0 ?_;refine zbP ?_;refine zej ?_;refine zb0 ?_;refine za1 ?_;refine K.drawn _ [(0,0),(1,1),(2,0),(3,0),(4,0),(5,0),(6,0),(7,0),(8,0),(9,0),(10,0),(11,0),(12,0),(13,0),(14,0),(15,0),(16,0),(17,1),(18,0),(19,0),(20,2),(21,0),(22,0),(23,2)] (by rfl) (by rfl) (by kernel_rfl) (by rfl) (by rfl) (by rfl) (Part.drop Part.all) ?_;refine zj ?_;refine zH ?_;refine zap ?_;refine zc0 ?_;refine zc5 ?_;refine zdD ?_;refine zi5 ?_;refine zhG ?_;refine zap ?_;refine zet ?_;refine zP ?_;refine KD.v1 rfl rfl (Val.sub rfl rfl (by grind[qL,qH])) ?_;refine zfO ?_;refine zlA ?_;refine zgY ?_;refine zbQ ?_;refine zfO ?_;refine zet ?_;refine zby ?_;refine zaf ?_;refine zbl ?_;rw[he,e1];exact KE.fin (H':=JH ⟨r.b,r.ow,r.di,r.ring,r.o,a,r.many-1,r.at_,r.end_⟩ p++F) je rfl jd (by simp only[Jv];exact ja)
   (.inr ⟨s,q,⟨r.b,r.ow,r.di,r.ring,r.o,a,r.many-1,r.at_,r.end_⟩,rfl,rfl,⟨ok.pl,ok.ow,ok.di,ho,ok.n1,ok.n2,hl⟩,rfl,rfl,⟨hR.ow,hR.di,hnx,hR.pg,hR.lo⟩,by grind[Jv]⟩)
structure GwA where
 r:GrM
 k:Nat
 G:GyP
theorem jk1 {g:PlG} (h1:G.pg=none) (h2:G.q≠ []∨nextB G.di 0 true=none):walkG g G=none:=by
 grind[walkG,ja3]
set_option maxHeartbeats 4000000 in
theorem grWalk_K (hG:js w0) (ok:GrOk r p) (hR:GrR r p.g G) (hok:jbh p.g r.ring.length G):
  Call Tryz.prog w0 227 [.pointer (some ⟨r.b,0,none⟩)] (JH r p++(planH p++F))
   (fun v H'=>(walkG p.g G=none∧v= .tuple [.int .i64 0, .bool false, .bool false].toArray∧H'=JH r p++(planH p++F))∨ ∃ o G' r',walkG p.g G=some (o,G')∧v= .tuple [.int .i64 (nxI o), .bool o.isSome, .bool true].toArray∧GrOk r' p∧r'.b=r.b∧r'.ring.length=r.ring.length∧GrR r' p.g G'∧H'=JH r' p++(planH p++F)):=by
 have okp:=ok.pl
 have ho:=ok.o
 have hl:=ok.l
 have k1:=ok.ow
 have k2:=ok.di
 have hqn:=hR.q.n
 have hsl:=okp.g.slots
 refine Call.enter1 (n:=85) (by kernel_rfl) Tryz.func227 rfl rfl rfl ?_;refine zeY ?_;refine zgJ ?_;refine zg9 ?_;simp only[Jv];refine zaR ?_;refine K.cutT (σ:=GwA) [(0,_)] jj (fun s kp_=>kp_) (fun s=>JH s.r p++(planH p++F)) (fun s=>GrOk s.r p∧GrR s.r p.g s.G∧jbh p.g r.ring.length s.G∧s.G.pg=some s.k∧ja3 G=some (s.k,s.G)∧s.r.b=r.b∧s.r.ring.length=r.ring.length) ?_ ?_
 ·cases hp:G.pg with
  |some k=>
   have hpg:=hR.pg
   rw[hp] at hpg
   obtain⟨a1,a2⟩:=hpg
   have hlt:=(hok.pg k hp).2
   have hne: ¬((r.at_:Nat):Int)=(r.end_:Nat):=by omega
   refine K.seq ?_;refine zeu ?_;refine zap ?_;refine KD.v0 rfl rfl (Val.fieldAddr0 (k:=6) rfl rfl) ?_;refine zP ?_;refine zeI ?_;refine zhb ?_;refine zD ?_;refine zbH ?_;exact KE.meet ⟨r,k,G⟩ jj (by first|exact ja|(simp only[Jv];exact ja)) ⟨ok,hR,hok,hp,by unfold ja3;rw [hp],rfl,rfl⟩
  |none=>
   have hpg:=hR.pg
   rw[hp] at hpg;dsimp only at hpg
   have hne:((r.at_:Nat):Int)=(r.end_:Nat):=by omega
   refine K.seq ?_;refine zeu ?_;refine zap ?_;refine KD.v0 rfl rfl (Val.fieldAddr0 (k:=6) rfl rfl) ?_;refine zP ?_;refine zeI ?_;refine zha ?_;refine zD ?_;refine zcs ?_;refine zK ?_;refine zaZ ?_;refine zF ?_;refine zq fun T hT=>?_;refine(CallV.part (CallV.fn (jgu (k:=0) (v:=true) k2 hG (by omega))) ja).mono ?_;rintro _ _ ⟨rfl,rfl⟩;rw[hR.di];refine zd ?_;clear hT T
   cases hq:G.q with
   |cons s q=>
    rw[hq] at hqn
    simp at hqn
    have hm:((r.many:Nat):Int)>0:=by omega
    refine zez ?_;refine zX ?_;refine zcF ?_;refine zp ?_;refine zbs ?_;refine zds ?_;refine zac ?_;refine zch ?_;refine zas ?_;refine zbE ?_;exact KE.fin je rfl jd (by first|exact ja|(simp only[Jv];exact ja)) (.inl ⟨jk1 hp (.inl (by rw[hq];simp)),rfl,rfl⟩)
   |nil=>
    rw[hq] at hqn
    simp at hqn
    have hm: ¬((r.many:Nat):Int)>0:=by omega
    cases hn:nextB G.di 0 true with
    |none=>
     unfold nxI;dsimp only[Option.isSome,Option.getD];refine zez ?_;refine zX ?_;refine zcF ?_;refine zp ?_;refine zcq ?_;refine zA ?_;refine zU ?_;refine zC ?_;refine zac ?_;refine zch ?_;refine zas ?_;refine zbE ?_;exact KE.fin je rfl jd (by first|exact ja|(simp only[Jv];exact ja)) (.inl ⟨jk1 hp (.inr hn),rfl,rfl⟩)
    |some j=>
     obtain⟨n1,n2,n3,n4⟩:=jcV hn
     have hj:j<p.g.pages:=by rw[←hok.di];exact n1
     have hj2:j<r.di.bs.length:=by rw[ok.n2];exact hj
     obtain⟨b1,b2,b3⟩:=jcB okp.g hj
     have e1:((p.g.fp j:Nat):Int)+((p.g.mp j:Nat):Int)=((p.g.fp j+p.g.mp j:Nat):Int):=by omega
     have hop:ja3 G=some (j,{G with di:=G.di.set j false,pg:=some j,at_:=0}):=by unfold ja3;rw [hp,hq];dsimp only;rw [hn]
     have hok1:=(jg6 okp.g hok hop).1
     unfold nxI;dsimp only[Option.isSome,Option.getD];refine zez ?_;refine zX ?_;refine zcF ?_;refine zp ?_;refine zcq ?_;refine zA ?_;refine zE ?_;refine zC ?_;refine zR ?_;refine zaZ ?_;refine zF ?_;refine zo ?_;refine ji (jdU (v:=false) k2 hj2) ja ?_;refine zW ?_;refine zK ?_;refine zI ?_;refine zo ?_;refine ji (In_K okp hj) ja ?_;refine za9 ?_;refine zk ?_;refine za0 ?_;refine zm ?_;refine zm ?_;refine zbZ ?_;refine zaQ ?_;refine zbI ?_;refine zfK ?_;refine za2 ?_;refine zO ?_;refine zN ?_;rw[e1];exact KE.meet ⟨⟨r.b,r.ow,Jx r.di j false,r.ring,r.o,r.first,r.many,p.g.fp j,p.g.fp j+p.g.mp j⟩,j,{G with di:=G.di.set j false,pg:=some j,at_:=0}⟩ jj (by first|exact ja|(simp only[Jv];exact ja))
      ⟨⟨okp,k1,jdw k2 _ _,ho,ok.n1,by simpa [Jx] using ok.n2,hl⟩,⟨hR.ow,by show r.di.bs.set j false=_;rw [hR.di],by rw[hq];have:=hR.q;rwa[hq] at this,⟨rfl,rfl⟩,by show p.g.fp j+p.g.mp j≤_;omega⟩,hok1,rfl,hop,rfl,rfl⟩
 ·rintro⟨r1,k,G1⟩ ⟨ok1,hR1,hok1,hk1,hop,hb1,hl1⟩;dsimp only at ok1 hR1 hok1 hk1 hop hb1 hl1⊢
  have hpg:=hR1.pg
  rw[hk1] at hpg
  obtain⟨a1,a2⟩:=hpg
  obtain⟨c1,c2⟩:=hok1.pg k hk1
  obtain⟨b1,b2,b3⟩:=jcB okp.g c1
  have ho1:=ok1.o
  have hs:r1.at_<p.g.slots:=by omega
  have e1:((r1.at_:Nat):Int)+1=((r1.at_+1:Nat):Int):=by omega
  have hsl1:r1.at_<r1.ow.bs.length:=by rw[ok1.n1];exact hs
  obtain⟨wb,hwb⟩:=jA hsl1
  have hwG:(G1.ow[p.g.fp k+G1.at_]?).getD false=wb:=by rw[←hR1.ow,←a1,hwb];rfl
  have hw:walkG p.g G=some (walk1 p.g k G1):=by unfold walkG;rw [hop];rfl
  have hn1:GrOk ⟨r1.b,Jx r1.ow r1.at_ false,r1.di,r1.ring,r1.o,r1.first,r1.many,r1.at_+1,r1.end_⟩ p:=⟨okp,jdw ok1.ow _ _,ok1.di,ho1,by simpa [Jx] using ok1.n1,ok1.n2,ok1.l⟩
  have hn2:GrR ⟨r1.b,Jx r1.ow r1.at_ false,r1.di,r1.ring,r1.o,r1.first,r1.many,r1.at_+1,r1.end_⟩ p.g (walk1 p.g k G1).2:=by
   refine⟨by show r1.ow.bs.set r1.at_ false=_;rw [hR1.ow,a1];rfl,hR1.di,hR1.q,?_,hR1.lo⟩;unfold walk1;dsimp only
   by_cases h:G1.at_+1=p.g.mp k
   ·rw[if_pos h];dsimp only;omega
   ·rw[if_neg h,if_neg h];dsimp only;omega
  rw[←hb1];rw[hw];unfold walk1 at hn2⊢;rw[hwG] at hn2⊢;simp only[Jv];refine zy ?_;refine zcD ?_;refine zp ?_;refine zu ?_;refine zcD ?_;refine zd6 ?_;refine zbI ?_;refine zO ?_;refine zdH ?_;refine zK ?_;refine zaZ ?_;refine z3 ?_;refine zx fun T hT=>?_;rw[e1];refine(CallV.part (CallV.fn (pay_K ok1 hs)) ja).mono ?_;rintro _ _ ⟨rfl,rfl⟩;rw[hwb];dsimp only[Option.getD];refine zd ?_;clear hT T
  cases wb with
  |true=>
   refine zeX ?_;refine zbe ?_;refine zaI ?_;exact KE.fin (H':=JH ⟨r1.b,Jx r1.ow r1.at_ false,r1.di,r1.ring,r1.o,r1.first,r1.many,r1.at_+1,r1.end_⟩ p++(planH p++F)) je rfl jd (by simp only[Jv];exact ja)
    (.inr ⟨_,_,⟨r1.b,Jx r1.ow r1.at_ false,r1.di,r1.ring,r1.o,r1.first,r1.many,r1.at_+1,r1.end_⟩,rfl,by simp only[if_true,nxI,Option.isSome,Option.getD,a1];rfl,hn1,rfl,hl1,hn2,by simp only[Jv]⟩)
  |false=>
   refine zeQ ?_;refine zch ?_;refine zas ?_;exact KE.fin (H':=JH ⟨r1.b,Jx r1.ow r1.at_ false,r1.di,r1.ring,r1.o,r1.first,r1.many,r1.at_+1,r1.end_⟩ p++(planH p++F)) je rfl jd (by simp only[Jv];exact ja)
    (.inr ⟨_,_,⟨r1.b,Jx r1.ow r1.at_ false,r1.di,r1.ring,r1.o,r1.first,r1.many,r1.at_+1,r1.end_⟩,rfl,by simp only[nxI,Bool.false_eq_true,if_false,Option.isSome,Option.getD];rfl,hn1,rfl,hl1,hn2,by simp only[Jv]⟩)
theorem grOwed_K (ok:GrOk r p):
  Call Tryz.prog w0 264 [.pointer (some ⟨r.b,0,none⟩)] (JH r p++F) (fun v H'=>v= .int .i64 (r.ow.bs.count true:Nat)∧H'=JH r p++F):=by
 have k1:=ok.ow
 refine Call.enter1 (n:=11) (by rfl) Tryz.func264 rfl rfl rfl ?_;refine zY ?_;refine zg9 ?_;simp only[Jv];refine zR ?_;refine zaZ ?_;refine zB ?_;refine zn ?_;refine ji (Count_K k1) ja ?_;refine zf ?_;exact zhS
theorem grEmpty_K (hG:js w0) (ok:GrOk r p) (hR:GrR r p.g G) (hok:jbh p.g r.ring.length G):
  Call Tryz.prog w0 219 [.pointer (some ⟨r.b,0,none⟩)] (JH r p++F)
   (fun v H'=>v= .bool (jbn G)∧H'=JH r p++F):=by
 have hqn:=hR.q.n
 have ho:=ok.o
 have hpg:=hR.pg
 by_cases hm:r.many=0
 ·have hq:G.q=[]:=by grind
  have hm':((r.many:Nat):Int)=0:=by omega
  by_cases he:r.at_=r.end_
  ·have he':((r.at_:Nat):Int)=(r.end_:Nat):=by omega
   have hpn:G.pg=none:=by
    cases hp:G.pg with
    |none=>rfl
    |some k=>
     rw[hp] at hpg
     have:=(hok.pg k hp).2
     omega
   have hem:jbn G=decide (((r.ow.bs.count true:Nat):Int)=0):=by
    unfold jbn;rw[hq,hpn,hR.ow]
    grind
   rw[hem];refine zkn ?_;refine zeW ?_;refine zko ?_;refine zc1 fun T hT=>?_;refine(CallV.part (CallV.fn (jhK ok)) ja).mono ?_;rintro _ _ ⟨rfl,rfl⟩;refine zg ?_;clear hT T;simp only[Jv];refine zj ?_;refine zd2 ?_;refine zi6 ?_;refine zao ?_;refine zkp ?_;refine zbi ?_;refine zkg ?_;refine zhZ ?_;refine zao ?_;refine zd2 ?_;refine KD.y0 rfl rfl rfl rfl (Val.fieldAddr0 (k:=7) rfl rfl) ?_;refine zao ?_;refine zkp ?_;refine zhO ?_;refine zbi ?_;refine zcb fun T hT=>?_;refine(CallV.part (CallV.fn (grOwed_K ok)) (by first|exact ja|(simp only[Jv];exact ja))).mono ?_;rintro _ _ ⟨rfl,rfl⟩;refine zg ?_;clear hT T;refine KD.y0 rfl rfl rfl rfl (Val.eql rfl rfl) ?_;refine zhO ?_;refine zbV ?_;refine zaV ?_;exact zhS
  ·have he': ¬((r.at_:Nat):Int)=(r.end_:Nat):=by omega
   have hem:jbn G=false:=by
    grind[jbn]
   rw[hem];refine zkn ?_;refine zeW ?_;refine zko ?_;refine zc1 fun T hT=>?_;refine(CallV.part (CallV.fn (jhK ok)) ja).mono ?_;rintro _ _ ⟨rfl,rfl⟩;refine zg ?_;clear hT T;simp only[Jv];refine zj ?_;refine zd2 ?_;refine zi6 ?_;refine zao ?_;refine zkp ?_;refine zbi ?_;refine zkg ?_;refine zhZ ?_;refine zao ?_;refine zd2 ?_;refine KD.y0 rfl rfl rfl rfl (Val.fieldAddr0 (k:=7) rfl rfl) ?_;refine zao ?_;refine KD.y0 rfl rfl rfl rfl (Val.isF (Val.eql rfl rfl) jL) ?_;refine zhO ?_;refine zbt ?_;refine zel ?_;refine zgp ?_;refine ziU ?_;refine zbV ?_;refine zaV ?_;exact zhS
 ·have hm': ¬((r.many:Nat):Int)=0:=by omega
  have hem:jbn G=false:=by
   grind[jbn]
  rw[hem];refine zkn ?_;refine zeW ?_;refine zko ?_;refine zc1 fun T hT=>?_;refine(CallV.part (CallV.fn (jhK ok)) ja).mono ?_;rintro _ _ ⟨rfl,rfl⟩;refine zg ?_;clear hT T;simp only[Jv];refine zj ?_;refine zd2 ?_;refine zi6 ?_;refine zao ?_;refine KD.y0 rfl rfl rfl rfl (Val.isF (Val.eql rfl rfl) jL) ?_;refine zbt ?_;refine zfg ?_;refine zfg ?_;refine zel ?_;refine ziU ?_;refine zbt ?_;refine zel ?_;refine zgp ?_;refine ziU ?_;refine zbV ?_;refine zaV ?_;exact zhS
end
end Go.Proofs.YtpcgafhgfjlkmaaGreatDoor.Sw
namespace Go.Proofs.YtpcgafhgfjlkmaaGreatDoor
open Go.RowKit
section
variable {P : Program} {w0 : World} {ro : Option Nat} {n : Nat} {Q : Exit → Act → World → Prop} {ds : List Deferred} {m : jl} {H : jb}
theorem K.cutE {σ:Type} {x y:Code} (keep:jl) (hk:jc8 m keep) (M:σ→jl→jl) (Hs:σ→jb) (I:σ→Prop) (h1:K P w0 ro n x (Exit.then (jgv w0 n ds (fun s=>M s keep) Hs I) Q) ds m H) (h2: ∀ s,I s→K P w0 ro n y Q ds (M s keep) (Hs s)):K P w0 ro n x (Exit.then (Code.wpIn (fen ro) 0 P y Q) Q) ds m H:=
 .mk fun a w ha hw=>wpIn_mono (h1.out a w ha hw) fun e a w q=>by
  cases e with
  |normal=>obtain⟨s,hf,hh,hi⟩:=q;exact(h2 s hi).out a w hf hh
  |_=>exact q
end
section
variable {P : Program} {w0 : World} {m : jl} {H : jb} {ty : TypeId}
theorem Val.indexV {t e:TypeId} {x y:Operand} {cs ds:List Value} {len z off:Nat} {i:Int} {k:IntKind} (hx:evO m x=some (.agg cs.toArray)) (hy:evO m y=some (.int k i)) (ht:jc1 P t=some (len,e)) (hz:Jr P e=some z) (h1:jbO P e=true) (hj:0≤i∧i<len) (ho:i.toNat*z=off) (hd:Seg cs off z ds):Val P w0 H m ty (.index t x y) (.agg ds.toArray):=
 ⟨by grind[jB,cov],fun w d pos af g _=>by
  have hu:P.underlying t=some (.array len e):=by grind[jc1]
  have hp:=jgZ (P:=P) w (cs:=cs.toArray) (off:=off) h1 hz
  have hd:=hd.eq.1
  subst hd
  have hr:(Instr.index t (.agg cs.toArray) (.int k i)).run P w= .ok (.agg ((cs.drop off).take z).toArray) w:=by
   simp[Instr.index,asIntOf,Jw w hu,hj.1,hj.2,jaN w hz,ho,hp,List.take_drop]
  simp[execOp,evS,hx,hy,hr]⟩
end
end Go.Proofs.YtpcgafhgfjlkmaaGreatDoor
