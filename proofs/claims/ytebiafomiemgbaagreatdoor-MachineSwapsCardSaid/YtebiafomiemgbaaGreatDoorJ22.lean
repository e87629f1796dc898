/-The walker and the contracts that the law needs,part 22. -/
import Derived.Test.YtebiafomiemgbaaGreatDoorJ20
set_option linter.unusedVariables false set_option linter.unusedSimpArgs false set_option linter.unusedVariables false
set_option linter.unusedSimpArgs false
namespace Go.Proofs.YtebiafomiemgbaaGreatDoor.Sw
set_option maxHeartbeats 8000000
open Go.Proofs.YtebiafomiemgbaaGreatDoor renaming lo → qL, hi → qH
open Go.RowKit
set_option maxRecDepth 10000
inductive RchM (g:PlG) (W:MwP):Nat→Prop
 |root {r s:Nat}:r<W.T.length+g.slots→jU g W r=some (s:Nat)→RchM g W s
 |edge {s t:Nat} {i:Int}:RchM g W s→refO g W.x (s:Nat) i=some (t:Nat)→RchM g W t
def NW (m:MaP) (s:Nat):Prop:= ∃ c,m.C[s]?=some c∧c≠0
def Lst (m:MaP) (s:Nat):Prop:=s∈m.G.q∨m.G.ow[s]?=some true∨ ∃ (k:Nat) (h:jaw),m.hs[k]?=some h∧h.is=true∧h.slot=(s:Nat)
def Uns (m:MaP) (s:Nat) (i:Int):Prop:=s∈m.G.q∨m.G.ow[s]?=some true∨ ∃ (k:Nat) (h:jaw),m.hs[k]?=some h∧h.is=true∧h.slot=(s:Nat)∧h.field≤i
structure jaT (m:MaP):Prop where
 grey: ∀ s,m.C[s]?=some 1→Lst m s
 lst: ∀ s,Lst m s→NW m s
inductive Prot (g:PlG) (W:MwP) (m:MaP):Nat→Prop
 |col {s:Nat}:NW m s→Prot g W m s
 |root {r s:Nat}:m.root≤r→r<W.T.length+g.slots→jU g W r=some (s:Nat)→Prot g W m s
 |wht {t s:Nat} {i:Int}:Prot g W m t→m.C[t]?=some 0→refO g W.x (t:Nat) i=some (s:Nat)→Prot g W m s
 |fld {t s:Nat} {i:Int}:Uns m t i→refO g W.x (t:Nat) i=some (s:Nat)→Prot g W m s
structure J1 (g:PlG) (W W':MwP) (m m':MaP):Prop where
 nw: ∀ s,NW m s→NW m' s
 rt: ∀ r s:Nat,m.root≤r→r<W.T.length+g.slots→jU g W r=some (s:Nat)→NW m' s∨(m'.root≤r∧r<W'.T.length+g.slots∧jU g W' r=some (s:Nat))
 wt: ∀ (t s:Nat) (i:Int),m.C[t]?=some 0→refO g W.x (t:Nat) i=some (s:Nat)→NW m' s∨((m'.C[t]?=some 0∨Uns m' t i)∧refO g W'.x (t:Nat) i=some (s:Nat))
 fd: ∀ (t s:Nat) (i:Int),Uns m t i→refO g W.x (t:Nat) i=some (s:Nat)→NW m' s∨(Uns m' t i∧refO g W'.x (t:Nat) i=some (s:Nat))
def jca (P:Nat→Prop) (m:MaP):Prop:= ∀ s,NW m s→P s
structure Cls (g:PlG) (W:MwP) (P:Nat→Prop):Prop where
 root: ∀ {r s:Nat},r<W.T.length+g.slots→jU g W r=some (s:Nat)→P s
 edge: ∀ {s t:Nat} {i:Int},P s→refO g W.x (s:Nat) i=some (t:Nat)→P t
theorem jcr {g:PlG} {W:MwP}:Cls g W (RchM g W):=⟨.root, .edge⟩
theorem Cls.rch {g:PlG} {W:MwP} {P:Nat→Prop} (h:Cls g W P) {s:Nat} (hs:RchM g W s):P s:=by
 induction hs with
 |root a b=>exact h.root a b
 |edge a b ih=>exact h.edge ih b
section
variable {g : PlG} {long : Nat} {W W' W'' : MwP} {m m' m'' : MaP}
theorem J1.refl:J1 g W W m m:=⟨fun _ h=>h,fun r s h1 h2 h3=> .inr ⟨h1,h2,h3⟩,fun t s i h1 h2=> .inr ⟨.inl h1,h2⟩,fun t s i h1 h2=> .inr ⟨h1,h2⟩⟩
theorem J1.trans (h:J1 g W W' m m') (h':J1 g W' W'' m' m''):J1 g W W'' m m'':=by
 refine⟨fun s hs=>h'.nw s (h.nw s hs),fun r s h1 h2 h3=>?_,fun t s i h1 h2=>?_,fun t s i h1 h2=>?_⟩
 ·rcases h.rt r s h1 h2 h3 with a|⟨a,b,c⟩
  ·exact .inl (h'.nw s a)
  ·exact h'.rt r s a b c
 ·rcases h.wt t s i h1 h2 with a|⟨a|a,b⟩
  ·exact .inl (h'.nw s a)
  ·exact h'.wt t s i a b
  ·rcases h'.fd t s i a b with c|⟨c,d⟩
   ·grind
   grind
 ·rcases h.fd t s i h1 h2 with a|⟨a,b⟩
  ·exact .inl (h'.nw s a)
  ·exact h'.fd t s i a b
theorem Prot.keep (k:J1 g W W' m m') {s:Nat} (h:Prot g W m s):Prot g W' m' s:=by
 induction h with
 |col h=>exact .col (k.nw _ h)
 |root h1 h2 h3=>
  rcases k.rt _ _ h1 h2 h3 with a|⟨a,b,c⟩
  ·exact .col a
  ·exact .root a b c
 |wht h1 h2 h3 ih=>
  rcases k.wt _ _ _ h2 h3 with a|⟨a|a,b⟩
  ·exact .col a
  ·exact .wht ih a b
  ·exact .fld a b
 |fld h1 h2=>
  rcases k.fd _ _ _ h1 h2 with a|⟨a,b⟩
  ·exact .col a
  ·exact .fld a b
theorem Uns.lst {s:Nat} {i:Int} (h:Uns m s i):Lst m s:=by
 rcases h with h|h|⟨k,x,h1,h2,h3,h4⟩
 ·exact .inl h
 ·exact .inr (.inl h)
 ·exact .inr (.inr ⟨k,x,h1,h2,h3⟩)
theorem NW.not {s:Nat} (h:NW m s):m.C[s]?≠some 0:=by
 obtain⟨c,h1,h2⟩:=h
 grind
theorem nw_or (hC:m.C.length=g.slots) {s:Nat} (hs:s<g.slots):m.C[s]?=some 0∨NW m s:=by
 obtain⟨c,hc⟩:=jh (l:=m.C) (k:=s) (by omega)
 by_cases h:c=0
 ·grind
 ·exact .inr ⟨c,hc,h⟩
theorem put_lst {G:GyP} (ok:jg g) (hG:jbO g long G) {n:Nat} (hn:n<g.slots):(n∈(jaL g long G n).q∨(jaL g long G n).ow[n]?=some true)∧(∀ s,s∈G.q→s∈(jaL g long G n).q)∧(∀ s:Nat,G.ow[s]?=some true→(jaL g long G n).ow[s]?=some true)∧
  (∀ s,s∈(jaL g long G n).q→s∈G.q∨s=n)∧(∀ s:Nat,(jaL g long G n).ow[s]?=some true→G.ow[s]?=some true∨s=n):=by
 unfold jaL
 split
 ·grind
 ·have hl:n<G.ow.length:=by rw[hG.ow];omega
  grind
theorem shade_keep (ok:jg g) (hm:jL g long W m) (hi:jaT m) (s:Int):
  jaT (J9 g long m s)∧J1 g W' W' m (J9 g long m s)∧(∀ n:Nat,s=n→n<g.slots→NW (J9 g long m s) n)∧(∀ n:Nat,NW (J9 g long m s) n→NW m n∨s=n):=by
 unfold J9
 split
 ·rename_i h
  obtain⟨n,rfl⟩: ∃ n:Nat,s=n:=⟨s.toNat,by omega⟩
  simp only[Int.toNat_natCast] at h⊢
  have hn:n<m.C.length:=jv h.2
  have hns:n<g.slots:=by rw[←hm.C];omega
  obtain⟨p1,p2,p3,p4,p5⟩:=put_lst ok hm.G hns
  obtain⟨m1,hm1⟩: ∃ m1,m1={m with C:=m.C.set n 1,G:=jaL g long m.G n}:=⟨_,rfl⟩
  have eC:m1.C=m.C.set n 1:=by grind
  have eG:m1.G=jaL g long m.G n:=by grind
  have eh:m1.hs=m.hs:=by grind
  have er:m1.root=m.root:=by grind
  rw[←hm1]
  have hself:m1.C[n]?=some 1:=by grind
  have hne: ∀ t,t≠n→m1.C[t]?=m.C[t]? :=fun t ht=>by grind
  have hnw: ∀ t,NW m t→NW m1 t:=fun t ⟨c,h1,h2⟩=>by
   by_cases e:t=n
   ·grind
   ·exact⟨c,by grind,h2⟩
  have hul: ∀ t i,Uns m t i→Uns m1 t i:=fun t i hu=>by
   rcases hu with h|h|⟨k,x,h1,h2,h3,h4⟩
   ·exact zfJ
   ·exact .inr (.inl (by grind))
   ·exact .inr (.inr ⟨k,x,by grind,h2,h3,h4⟩)
  have hun: ∀ i,Uns m1 n i:=fun i=>by
   rcases p1 with h|h
   ·exact zfJ
   ·exact .inr (.inl (by grind))
  have hll: ∀ t,Lst m t→Lst m1 t:=fun t hu=>by
   rcases hu with h|h|⟨k,x,h1,h2,h3⟩
   ·exact zfJ
   ·exact .inr (.inl (by grind))
   ·exact .inr (.inr ⟨k,x,by grind,h2,h3⟩)
  refine⟨⟨fun t ht=>?_,fun t ht=>?_⟩,⟨hnw,fun r t h1 h2 h3=> .inr ⟨by omega,h2,h3⟩,fun t u i h1 h2=>?_,fun t u i h1 h2=> .inr ⟨hul t i h1,h2⟩⟩,fun k hk hks=>?_,fun t ht=>?_⟩
  ·by_cases e:t=n
   ·rw[e];exact(hun 0).lst
   ·rw[hne t e] at ht;exact hll t (hi.grey t ht)
  ·by_cases e:t=n
   ·rw[e];exact⟨1,hself,by decide⟩
   ·have:Lst m t:=by
     rcases ht with h|h|⟨k,x,h1,h2,h3⟩
     ·rw[eG] at h
      rcases p4 t h with h|h
      ·exact .inl h
      omega
     ·rw[eG] at h
      rcases p5 t h with h|h
      ·exact .inr (.inl h)
      omega
     ·exact .inr (.inr ⟨k,x,by grind,h2,h3⟩)
    exact hnw t (hi.lst t this)
  ·grind
  ·obtain rfl:n=k:=by omega
   exact⟨1,hself,by decide⟩
  ·by_cases e:t=n
   ·omega
   ·left
    obtain⟨c,h1,h2⟩:=ht
    exact⟨c,by grind,h2⟩
 ·rename_i h
  refine⟨hi,J1.refl,fun n hn hs=>?_,fun n hn=> .inl hn⟩;subst hn;simp only[Int.toNat_natCast] at h
  rcases nw_or hm.C hs with h0|h0
  ·grind
  omega
theorem jjz (ok:jg g) (hm:jL g long W m) (hi:jaT m) (o:Option Int):
  jaT (J8 g long m o)∧J1 g W' W' m (J8 g long m o)∧(∀ n:Nat,o=some ((n:Nat):Int)→n<g.slots→NW (J8 g long m o) n)∧(∀ n:Nat,NW (J8 g long m o) n→NW m n∨o=some ((n:Nat):Int)):=by
 cases o with
 |none=>exact⟨hi,J1.refl,fun n hn=>(by grind),fun n hn=> .inl hn⟩
 |some s=>
  obtain⟨h1,h2,h3,h4⟩:=shade_keep (W':=W') ok hm hi s
  exact⟨h1,h2,fun n hn=>h3 n (by grind),fun n hn=>by
   rcases h4 n hn with h|h
   ·grind
   grind⟩
theorem jeM {x:List Int} {s:Nat} {i to:Int} (h:refO g x (s:Nat) i=some to) (hx:jac x):0≤to∧to<(g.slots:Nat)∧0≤i∧i<refsN x (jA g (s:Nat)):=by
 grind[refO,refP,f1,refsN,jA,fldP,headP]
theorem jh3 (hW:jad g W) {r:Nat} {to:Int} (hr:r<W.T.length+g.slots) (h:jU g W r=some to):0≤to∧to<(g.slots:Nat):=by
 unfold jU at h
 cases hT:W.T[r]? with
 |some e=>
  rw[hT] at h;dsimp only at h
  split at h
  ·rename_i he
   cases h
   exact hW.t e (List.mem_of_getElem? hT) he
  grind
 |none=>
  grind
theorem jjx (o:Option Int) (r:Nat):J8 g long {m with root:=r} o={J8 g long m o with root:=r}:=by
 cases o with
 |none=>rfl
 |some s=>grind[J9,J8]
structure Mic (g:PlG) (W:MwP) (m m':MaP):Prop where
 i:jaT m'
 k:J1 g W W m m'
 o: ∀ P:Nat→Prop,Cls g W P→jca P m→jca P m'
theorem root_mic (ok:jg g) (hm:jL g long W m) (hW:jad g W) (hi:jaT m) (h:jb5 g long W m=some m'):Mic g W m m':=by
 unfold jb5 at h
 split at h
 ·rename_i hr
  cases h
  rw[jjx]
  obtain⟨h1,h2,h3,h4⟩:=jjz (W':=W) ok hm hi (jU g W m.root)
  obtain⟨q1,q2,q3,q4⟩:=jfN (g:=g) (long:=long) (m:=m) (jU g W m.root)
  obtain⟨m1,hm1⟩: ∃ m1,m1=J8 g long m (jU g W m.root):=⟨_,rfl⟩
  rw[←hm1] at h1 h2 h3 h4 q2⊢;refine⟨⟨h1.grey,h1.lst⟩,h2.trans ⟨fun s h=>h,fun r s a b c=>?_,fun t s i a b=> .inr ⟨.inl a,b⟩,fun t s i a b=> .inr ⟨a,b⟩⟩,fun P hc ho s hs=>?_⟩
  ·by_cases e:r=m.root
   ·subst e
    have:=jh3 hW b c
    exact .inl (h3 s c (by omega))
   grind
  ·rcases h4 s hs with a|a
   ·exact ho s a
   ·exact hc.root hr a
 grind
theorem take_mic (hm:jL g long W m) (hW:jad g W) (hi:jaT m) {k:Nat} (hk:k<m.hs.length) (h:jcz m k=some m'):Mic g W m m':=by
 unfold jcz at h
 split at h
 ·grind
 ·rename_i hn
  cases hq:m.G.q with
  |nil=>grind
  |cons s q=>
   rw[hq] at h
   cases h
   have hne: ∀ (j:Nat) (x:jaw),m.hs[j]?=some x→x.is=true→(m.hs.set k ⟨(s:Nat),0,true⟩)[j]?=some x:=fun j x h1 h2=>by
    grind[jbR,h1,h2]
   refine⟨⟨fun t ht=>?_,fun t ht=>?_⟩,⟨fun t h=>h,fun r t a b c=> .inr ⟨a,b,c⟩,fun t u i a b=> .inr ⟨.inl a,b⟩,fun t u i a b=> .inr ⟨?_,b⟩⟩,fun P hc ho t ht=>ho t ht⟩
   ·rcases hi.grey t ht with h|h|⟨j,x,h1,h2,h3⟩
    ·rw[hq] at h
     rcases List.mem_cons.1 h with h|h
     ·exact .inr (.inr ⟨k,_,List.getElem?_set_self hk,rfl,by rw[h]⟩)
     ·exact .inl h
    ·exact .inr (.inl h)
    ·exact .inr (.inr ⟨j,x,hne j x h1 h2,h2,h3⟩)
   ·have:Lst m t:=by
     rcases ht with h|h|⟨j,x,h1,h2,h3⟩
     ·exact zfJ
     ·exact .inr (.inl h)
     ·by_cases e:j=k
      ·subst e
       change (m.hs.set j ⟨(s:Nat),0,true⟩)[j]?=some x at h1
       rw[List.getElem?_set_self hk] at h1;cases h1
       left;grind
      ·change (m.hs.set k ⟨(s:Nat),0,true⟩)[j]?=some x at h1
       rw[List.getElem?_set_ne (by omega)] at h1;exact .inr (.inr ⟨j,x,h1,h2,h3⟩)
    exact hi.lst t this
   ·have hi0:=(jeM b hW.w).2.2.1
    rcases a with h|h|⟨j,x,h1,h2,h3,h4⟩
    ·rw[hq] at h
     rcases List.mem_cons.1 h with h|h
     ·exact .inr (.inr ⟨k,_,List.getElem?_set_self hk,rfl,by rw[h],hi0⟩)
     ·exact .inl h
    ·exact .inr (.inl h)
    ·exact .inr (.inr ⟨j,x,hne j x h1 h2,h2,h3,h4⟩)
theorem open_same {G G1:GyP} {j:Nat} (h:jbv G=some (j,G1)):G1.q=G.q∧G1.ow=G.ow:=by
 grind[jbv,nextB]
theorem walk_mic (ok:jg g) (hm:jL g long W m) (hW:jad g W) (hi:jaT m) {k:Nat} (hk:k<m.hs.length) (h:jbI g m k=some m'):Mic g W m m':=by
 unfold jbI at h
 split at h
 ·grind
 ·rename_i hn
  unfold walkG at h
  cases hop:jbv m.G with
  |none=>grind
  |some x=>
   obtain⟨j,G1⟩:=x
   rw[hop] at h
   obtain⟨k1,k2,k3⟩:=jh9 ok hm.G hop
   obtain⟨s1,s2⟩:=open_same hop
   obtain⟨h1,h2⟩:=k1.pg j k2
   obtain⟨b1,b2,b3⟩:=jeU ok h1
   simp only[Option.map_some] at h
   have hsl:g.fp j+G1.at_<g.slots:=by omega
   obtain⟨n,hnn⟩: ∃ n,n=g.fp j+G1.at_:=⟨_,rfl⟩
   have hol:n<m.G.ow.length:=by rw[hm.G.ow];omega
   have eq2:(walk1 g j G1).2.q=m.G.q:=by rw[←s1];rfl
   have eo2:(walk1 g j G1).2.ow=m.G.ow.set n false:=by rw[←s2,hnn];rfl
   have e1:(walk1 g j G1).1=if (m.G.ow[n]?).getD false then some n else none:=by rw[←s2,hnn];rfl
   obtain⟨r,hr⟩: ∃ r,r=walk1 g j G1:=⟨_,rfl⟩
   rw[←hr] at h eq2 eo2 e1
   obtain⟨o,G2⟩:=r
   dsimp only at eq2 eo2 e1
   have how: ∀ t:Nat,t≠n→G2.ow[t]?=m.G.ow[t]? :=fun t ht=>by grind
   have hon:G2.ow[n]?=some false:=by grind
   cases ho:(m.G.ow[n]?).getD false with
   |false=>
    rw[ho] at e1;simp only[Bool.false_eq_true,if_false] at e1;subst e1
    cases h
    have hnt: ∀ t:Nat,m.G.ow[t]?=some true→G2.ow[t]?=some true:=fun t ht=>by
     grind
    have hnf: ∀ t:Nat,G2.ow[t]?=some true→m.G.ow[t]?=some true:=fun t ht=>by
     grind
    refine⟨⟨fun t ht=>?_,fun t ht=>?_⟩,⟨fun t h=>h,fun r t a b c=> .inr ⟨a,b,c⟩,fun t u i a b=> .inr ⟨.inl a,b⟩,fun t u i a b=> .inr ⟨?_,b⟩⟩,fun P hc ho t ht=>ho t ht⟩
    ·rcases hi.grey t ht with h|h|h
     ·exact zfJ
     ·exact .inr (.inl (hnt t h))
     ·exact .inr (.inr h)
    ·refine hi.lst t ?_
     rcases ht with h|h|h
     ·exact zfJ
     ·exact .inr (.inl (hnf t h))
     ·exact .inr (.inr h)
    ·rcases a with h|h|h
     ·exact zfJ
     ·exact .inr (.inl (hnt t h))
     ·exact .inr (.inr h)
   |true=>
    rw[ho] at e1;simp only[if_true] at e1;subst e1
    cases h
    have hon2:m.G.ow[n]?=some true:=by grind
    have hne: ∀ (j:Nat) (x:jaw),m.hs[j]?=some x→x.is=true→(m.hs.set k ⟨(n:Nat),0,true⟩)[j]?=some x:=fun j x h1 h2=>by
     grind[jbR,h1,h2]
    refine⟨⟨fun t ht=>?_,fun t ht=>?_⟩,⟨fun t h=>h,fun r t a b c=> .inr ⟨a,b,c⟩,fun t u i a b=> .inr ⟨.inl a,b⟩,fun t u i a b=> .inr ⟨?_,b⟩⟩,fun P hc ho t ht=>ho t ht⟩
    ·rcases hi.grey t ht with h|h|⟨j,x,h1,h2,h3⟩
     ·exact zfJ
     ·by_cases e:t=n
      ·exact .inr (.inr ⟨k,_,List.getElem?_set_self hk,rfl,by rw[e]⟩)
      ·exact .inr (.inl (by grind))
     ·exact .inr (.inr ⟨j,x,hne j x h1 h2,h2,h3⟩)
    ·refine hi.lst t ?_
     rcases ht with h|h|⟨j,x,h1,h2,h3⟩
     ·exact zfJ
     ·by_cases e:t=n
      ·grind
      ·change G2.ow[t]?=_ at h
       rw[how t e] at h;exact .inr (.inl h)
     ·by_cases e:j=k
      ·subst e
       change (m.hs.set j ⟨(n:Nat),0,true⟩)[j]?=some x at h1
       rw[List.getElem?_set_self hk] at h1;cases h1
       have:n=t:=by grind
       rw[←this];exact .inr (.inl hon2)
      ·change (m.hs.set k ⟨(n:Nat),0,true⟩)[j]?=some x at h1
       rw[List.getElem?_set_ne (by omega)] at h1;exact .inr (.inr ⟨j,x,h1,h2,h3⟩)
    ·have hi0:=(jeM b hW.w).2.2.1
     rcases a with h|h|⟨j,x,h1,h2,h3,h4⟩
     ·exact zfJ
     ·by_cases e:t=n
      ·exact .inr (.inr ⟨k,_,List.getElem?_set_self hk,rfl,by rw[e],hi0⟩)
      ·exact .inr (.inl (by grind))
     ·exact .inr (.inr ⟨j,x,hne j x h1 h2,h2,h3,h4⟩)
theorem scan_mic (ok:jg g) (hm:jL g long W m) (hW:jad g W) (hi:jaT m) {k:Nat} (hk:k<m.hs.length) (h:scanM g long W m k=some m'):Mic g W m m':=by
 unfold scanM at h
 split at h
 ·rename_i hn
  obtain⟨hd,hhd⟩:=jh hk
  rw[jbR hhd] at h hn
  rcases hm.h k hd hhd with⟨e1,e2,e3,e4,e5⟩|e
  ·obtain⟨s,hs⟩: ∃ s:Nat,hd.slot=s:=⟨hd.slot.toNat,by omega⟩
   rw[hs] at e3 e5 h
   have hsl:s<g.slots:=by omega
   have hls:Lst m s:= .inr (.inr ⟨k,hd,hhd,hn,hs⟩)
   obtain⟨o,ho⟩: ∃ o,o=refO g W.x (s:Nat) hd.field:=⟨_,rfl⟩
   rw[←ho] at h
   obtain⟨h1,h2,h3,h4⟩:=jjz (W':=W) ok hm hi o
   obtain⟨q1,q2,q3,q4⟩:=jfN (g:=g) (long:=long) (m:=m) o
   have hlen:=(jh0 ok hm o).C
   obtain⟨m1,hm1⟩: ∃ m1,m1=J8 g long m o:=⟨_,rfl⟩
   rw[←hm1] at h h1 h2 h3 h4 q1 q2 q3 q4 hlen
   have hk1:k<m1.hs.length:=by rw[q1];exact hk
   have hhd1:m1.hs[k]?=some hd:=by rw[q1];exact hhd
   have hls1:Lst m1 s:= .inr (.inr ⟨k,hd,hhd1,hn,hs⟩)
   have hnw1:=h1.lst s hls1
   have hon: ∀ P:Nat→Prop,Cls g W P→ ∀ n:Nat,NW m1 n→jca P m→P n:=fun P hc n hnn hr=>by
    rcases h4 n hnn with a|a
    ·exact hr n a
    ·rw[ho] at a;exact hc.edge (hr s (hi.lst s hls)) a
   have hto: ∀ u:Nat,refO g W.x (s:Nat) hd.field=some (u:Nat)→NW m1 u:=fun u hu=>by
    have:=jeM hu hW.w
    exact h3 u (ho.trans hu) (by omega)
   have hne: ∀ (x:jaw) (j:Nat) (y:jaw),j≠k→m1.hs[j]?=some y→(m1.hs.set k x)[j]?=some y:=fun x j y h1 h2=>by
    rw[List.getElem?_set_ne (by omega)];exact h2
   split at h
   ·rename_i hlt
    cases h
    rw[←q1] at*;refine⟨⟨fun t ht=>?_,fun t ht=>?_⟩,h2.trans ⟨fun t h=>h,fun r t a b c=> .inr ⟨a,b,c⟩,fun t u i a b=> .inr ⟨.inl a,b⟩,fun t u i a b=>?_⟩,fun P hc hr t ht=>hon P hc t ht hr⟩
    ·rcases h1.grey t ht with h|h|⟨j,x,p1,p2,p3⟩
     ·exact .inl h
     ·exact .inr (.inl h)
     ·by_cases e:j=k
      ·subst e;rw[hhd1] at p1;cases p1;exact .inr (.inr ⟨j,_,List.getElem?_set_self hk1,rfl,hs.symm.trans p3⟩)
      ·exact .inr (.inr ⟨j,x,hne _ j x e p1,p2,p3⟩)
    ·refine h1.lst t ?_
     rcases ht with h|h|⟨j,x,p1,p2,p3⟩
     ·exact .inl h
     ·exact .inr (.inl h)
     ·by_cases e:j=k
      ·subst e
       change (m1.hs.set j _)[j]?=some x at p1
       rw[List.getElem?_set_self hk1] at p1;cases p1;exact .inr (.inr ⟨j,hd,hhd1,hn,hs.trans p3⟩)
      ·change (m1.hs.set k _)[j]?=some x at p1
       rw[List.getElem?_set_ne (by omega)] at p1;exact .inr (.inr ⟨j,x,p1,p2,p3⟩)
    ·rcases a with h|h|⟨j,x,p1,p2,p3,p4⟩
     ·exact .inr ⟨.inl h,b⟩
     ·exact .inr ⟨.inr (.inl h),b⟩
     ·by_cases e:j=k
      ·subst e;rw[hhd1] at p1;cases p1
       have hst:s=t:=by omega
       subst hst
       by_cases hf:i=hd.field
       ·left;subst hf;exact hto u b
       ·right
        exact⟨.inr (.inr ⟨j,_,List.getElem?_set_self hk1,rfl,rfl,by show hd.field+1≤i;omega⟩),b⟩
      ·exact .inr ⟨.inr (.inr ⟨j,x,hne _ j x e p1,p2,p3,p4⟩),b⟩
   ·rename_i hge
    cases h
    rw[←q1] at*;simp only[Int.toNat_natCast] at*
    have hcs:s<m1.C.length:=by rw[hlen];exact hsl
    have hset: ∀ t,NW m1 t→NW {m1 with hs:=m1.hs.set k jaj,C:=m1.C.set s 2} t:=fun t ⟨c,a,b⟩=>by
     by_cases e:t=s
     ·subst e;exact⟨2,List.getElem?_set_self hcs,by decide⟩
     ·exact⟨c,by show(m1.C.set s 2)[t]?=_;rw [List.getElem?_set_ne (by omega)];exact a,b⟩
    have hback: ∀ t,NW {m1 with hs:=m1.hs.set k jaj,C:=m1.C.set s 2} t→NW m1 t:=fun t ⟨c,a,b⟩=>by
     by_cases e:t=s
     ·subst e;exact hnw1
     ·change (m1.C.set s 2)[t]?=_ at a
      rw[List.getElem?_set_ne (by omega)] at a;exact⟨c,a,b⟩
    refine⟨⟨fun t ht=>?_,fun t ht=>?_⟩,h2.trans ⟨hset,fun r t a b c=> .inr ⟨a,b,c⟩,fun t u i a b=>?_,fun t u i a b=>?_⟩,fun P hc hr t ht=>hon P hc t (hback t ht) hr⟩
    ·by_cases e:t=s
     ·subst e
      change (m1.C.set t 2)[t]?=_ at ht
      rw[List.getElem?_set_self hcs] at ht;cases ht
     ·change (m1.C.set s 2)[t]?=_ at ht
      rw[List.getElem?_set_ne (by omega)] at ht
      rcases h1.grey t ht with h|h|⟨j,x,p1,p2,p3⟩
      ·exact .inl h
      ·exact .inr (.inl h)
      ·by_cases e2:j=k
       ·subst e2;rw[hhd1] at p1;cases p1
        exfalso;omega
       ·exact .inr (.inr ⟨j,x,hne _ j x e2 p1,p2,p3⟩)
    ·refine hset t (h1.lst t ?_)
     rcases ht with h|h|⟨j,x,p1,p2,p3⟩
     ·exact .inl h
     ·exact .inr (.inl h)
     ·by_cases e:j=k
      ·subst e
       change (m1.hs.set j _)[j]?=some x at p1
       rw[List.getElem?_set_self hk1] at p1;cases p1
       cases p2
      ·change (m1.hs.set k _)[j]?=some x at p1
       rw[List.getElem?_set_ne (by omega)] at p1;exact .inr (.inr ⟨j,x,p1,p2,p3⟩)
    ·right
     refine⟨.inl ?_,b⟩
     have hts:t≠s:=by rintro rfl;exact hnw1.not a
     show(m1.C.set s 2)[t]?=_
     rw[List.getElem?_set_ne (by omega)];exact a
    ·rcases a with h|h|⟨j,x,p1,p2,p3,p4⟩
     ·exact .inr ⟨.inl h,b⟩
     ·exact .inr ⟨.inr (.inl h),b⟩
     ·by_cases e:j=k
      ·subst e;rw[hhd1] at p1;cases p1
       have hst:s=t:=by omega
       subst hst
       left
       have hrf:=jeM b hW.w
       have hf:i=hd.field:=by omega
       subst hf;exact hset u (hto u b)
      ·exact .inr ⟨.inr (.inr ⟨j,x,hne _ j x e p1,p2,p3,p4⟩),b⟩
  ·rw[e] at hn;cases hn
 grind
theorem up_mic (h:Mic g W m m'):Mic g W m (upM m'):=⟨⟨h.i.grey,h.i.lst⟩,⟨h.k.nw,h.k.rt,h.k.wt,h.k.fd⟩,h.o⟩
theorem jgP (ok:jg g) (hm:jL g long W m) (hW:jad g W) (hi:jaT m) {k u:Int} (h:j0 g long W m k u=some m'):Mic g W m m':=by
 unfold j0 at h
 split at h
 ·rename_i hc
  cases hu:jay g long W m k.toNat u with
  |none=>grind
  |some m1=>
   rw[hu] at h;simp only[Option.map_some,Option.some.injEq] at h;subst h;refine up_mic ?_
   have hk:k.toNat<m.hs.length:=by omega
   grind[jay,hi,root_mic,take_mic,scan_mic,walk_mic]
 grind
theorem jkB (h:fullM m=none) {k:Nat} {x:jaw} (hx:m.hs[k]?=some x):x.is=false:=by
 unfold fullM at h;rw[List.find?_eq_none] at h
 have:=h k (List.mem_range.2 (jv hx))
 grind[jbR]
theorem count_zero {l:List Bool}:l.count true=0↔ ∀ k:Nat,l[k]?≠some true:=by
 rw[List.count_eq_zero]
 constructor
 ·grind
 ·intro h hm
  obtain⟨k,hk⟩:=List.getElem?_of_mem hm
  grind
theorem jlB (h:jaa g W m=true) (s:Nat): ¬Lst m s:=by
 unfold jaa jb0 at h;simp only[Bool.and_eq_true,Option.isNone_iff_eq_none,decide_eq_true_eq,List.isEmpty_iff] at h
 obtain⟨_,h1,h2,h3,h4,h5⟩:=h
 rintro(a|a|⟨k,x,a,b,c⟩)
 ·grind
 ·grind
 grind[jkB,h1]
theorem done_prot (h:jaa g W m=true) {s:Nat} (hp:Prot g W m s):NW m s:=by
 have hr:W.T.length+g.slots≤m.root:=by
  grind[jaa]
 induction hp with
 |col h=>omega
 |root a b c=>omega
 |wht a b c ih=>exact absurd b ih.not
 |fld a b=>exact absurd a.lst (jlB h _)
theorem help_done (ok:jg g) (hm:jL g long W m) (ha:m.act=true) (h:jaA g long W m=none):jaa g W m=true:=by
 have hlen:=hm.hs
 unfold jaA at h
 cases hf:fullM m with
 |some k=>
  grind[jai,fullM,j0,jay,scanM]
 |none=>
  rw[hf] at h;dsimp only at h
  have hlast:(jai m (m.hs.length-1)).is=false:=by
   obtain⟨x,hx⟩:=jh (l:=m.hs) (k:=m.hs.length-1) (by omega)
   grind[jbR,jkB]
  split at h
  ·grind
  ·rename_i h2
   split at h
   ·grind
   ·rename_i h1
    unfold j0 at h h1 h2;rw[if_pos ⟨ha,by omega,by omega⟩] at h h1 h2;simp only[Int.toNat_natCast,Option.map_eq_none_iff] at h h1 h2;unfold jay at h h1 h2;rw[if_neg (by decide),if_pos rfl] at h2;rw[if_pos rfl] at h1;rw[if_neg (by decide),if_neg (by decide),if_neg (by decide),if_pos rfl] at h
    have hq:m.G.q=[]:=by
     grind[jcz]
    have hr:W.T.length+g.slots≤m.root:=by
     grind[jb5]
    have hw:jbv m.G=none:=by
     grind[jbI,walkG,jbv]
    have hpg:m.G.pg=none:=by
     grind[jbv]
    have hdi:nextB m.G.di 0 true=none:=by
     grind[jbv,nextB]
    have how:m.G.ow.count true=0:=count_zero.2 fun s hs=>by
     rcases hm.G.od s hs with hd|⟨k,hk,_⟩
     ·grind[nextB]
     grind
    grind[jaa,jb0]
theorem new_in {nw:Nat} {act:Bool}:jaT (jam g nw act):=by
 refine⟨fun s hs=>?_,fun s hs=>?_⟩
 ·grind[jam]
 ·rcases hs with h|h|⟨k,x,h1,h2,h3⟩
  ·cases h
  ·grind[jam,nilG]
  ·simp only[jam,List.getElem?_replicate] at h1
   split at h1
   ·cases h1;cases h2
   grind
theorem new_only {nw:Nat} {act:Bool} {P:Nat→Prop}:jca P (jam g nw act):=fun s ⟨c,h1,h2⟩=>by
 grind[jam]
theorem rch_in (hW:jad g W) {s:Nat} (h:RchM g W s):s<g.slots:=by
 induction h with
 |root h1 h2=>have:=jh3 hW h1 h2;omega
 |edge h1 h2 ih=>have:=jeM h2 hW.w;omega
theorem new_prot {nw:Nat} {act:Bool} (hW:jad g W) {s:Nat} (h:RchM g W s):Prot g W (jam g nw act) s:=by
 induction h with
 |root h1 h2=>exact .root (Nat.zero_le _) h1 h2
 |edge h1 h2 ih=>exact .wht ih (by grind[jam,rch_in,h1]) h2
theorem jdq (h1:W'.T.length=W.T.length) (h2: ∀ r s:Nat,jU g W r=some (s:Nat)→NW m s∨jU g W' r=some (s:Nat)) (h3: ∀ (t s:Nat) (i:Int),refO g W.x (t:Nat) i=some (s:Nat)→NW m s∨refO g W'.x (t:Nat) i=some (s:Nat)):J1 g W W' m m:=by
 refine⟨fun s h=>h,fun r s a b c=>?_,fun t s i a b=>?_,fun t s i a b=>?_⟩
 ·grind
 ·grind
 grind
end
open Go.RowKit
set_option maxRecDepth 10000
inductive Goes (g:PlG) (long:Nat) (W:MwP) (m:MaP):MaP→Prop
 |refl:Goes g long W m m
 |step {m1 m2:MaP} {k u:Int}:Goes g long W m m1→j0 g long W m1 k u=some m2→Goes g long W m m2
section
variable {g : PlG} {long : Nat} {W W' : MwP} {m m' m'' : MaP}
theorem Goes.trans (h:Goes g long W m m') (h':Goes g long W m' m''):Goes g long W m m'':=by
 induction h' with
 |refl=>omega
 |step _ h2 ih=>exact .step ih h2
end
set_option maxRecDepth 10000
def jav (l:List Int) (s:Nat):List Int:=if (l[s]?).getD 0<255 then l.set s ((l[s]?).getD 0+1) else l
def jax (l:List Int) (s:Nat):List Int:=if 0<(l[s]?).getD 0 then l.set s ((l[s]?).getD 0-1) else l
theorem jlg {l:List Int} {s:Nat}:(jav l s).length=l.length:=by grind[jav]
theorem jjG {l:List Int} {s:Nat}:(jax l s).length=l.length:=by grind[jax]
theorem pinP_in {l:List Int} {s:Nat} (h: ∀ v∈l,0≤v∧v≤255): ∀ v∈jav l s,0≤v∧v≤255:=by
 unfold jav
 split
 ·rename_i hc
  intro v hv
  rcases List.mem_or_eq_of_mem_set hv with h1|rfl
  ·grind
  ·cases hx:l[s]? with
   |none=>simp
   |some w=>have:=h w (List.mem_of_getElem? hx);grind
 omega
theorem unpinP_in {l:List Int} {s:Nat} (h: ∀ v∈l,0≤v∧v≤255): ∀ v∈jax l s,0≤v∧v≤255:=by
 unfold jax
 split
 ·rename_i hc
  intro v hv
  rcases List.mem_or_eq_of_mem_set hv with h1|rfl
  ·grind
  ·cases hx:l[s]? with
   |none=>grind
   |some w=>have:=h w (List.mem_of_getElem? hx);grind
 omega
theorem jiB {l:List Int} {s k:Nat} (h:0<(l[k]?).getD 0):0<((jav l s)[k]?).getD 0:=by
 grind[jav]
theorem unpinP_ne {l:List Int} {s k:Nat} (e:k≠s):(jax l s)[k]?=l[k]? :=by
 grind[jax]
def JM (T:List jl):Option Nat:=T.findIdx? fun e=>decide (e.st=0)
def genA (T:List jl) (i:Nat):Int:=((T[i]?).map (·.gen)).getD 0
def jH (T:List jl) (s:Int):List jl:=match JM T with
 |some i=>T.set i ⟨1,s,genA T i⟩
 |none=>T
def jbd (T:List jl):Int × Int × Int:=match JM T with
 |some i=>((i:Nat),genA T i,0)
 |none=>(0,0,131)
def namedT (T:List jl) (i g:Int):Option jl:=if 0≤i then(match T[i.toNat]? with
 |some e=>if e.st=1∧e.gen=g then some e else none
 |none=>none) else none
def slotT (T:List jl) (i:Int):Option Int:=if 0≤i then(match T[i.toNat]? with
 |some e=>if e.st=1 then some e.slot else none
 |none=>none) else none
theorem ja6 {T:List jl} {i:Nat} {e:jl} (h:T[i]?=some e) (e':jl) (s:Int):j6 s (T.set i e')+(if e.st=s then 1 else 0)=j6 s T+(if e'.st=s then 1 else 0):=by
 grind[j6]
theorem jem (s:Int) (T:List jl):j6 s T≤T.length:=List.countP_le_length
theorem jhi {T:List jl} {i:Nat} {e:jl} (h:T[i]?=some e):1≤j6 e.st T:=by
 grind[j6]
theorem jbg {T:List jl} {i:Nat} (h:JM T=some i):(∃ e,T[i]?=some e∧e.st=0)∧ ∀ (j:Nat) (e:jl),j<i→T[j]?=some e→e.st≠0:=by
 unfold JM at h;rw[List.findIdx?_eq_some_iff_getElem] at h
 grind
theorem freeT_none {T:List jl} (h:JM T=none): ∀ (j:Nat) (e:jl),T[j]?=some e→e.st≠0:=by
 grind[JM]
theorem freeT_is {T:List jl} {i:Nat} {e:jl} (h1:T[i]?=some e) (h2:e.st=0) (h3: ∀ (j:Nat) (e:jl),j<i→T[j]?=some e→e.st≠0):JM T=some i:=by
 cases hf:JM T with
 |none=>grind[h2,freeT_none,h1]
 |some j=>
  grind[jbg,h2,h1,h3]
theorem freeT_no {T:List jl} (h3: ∀ (j:Nat) (e:jl),T[j]?=some e→e.st≠0):JM T=none:=by
 cases hf:JM T with
 |none=>rfl
 |some j=>
  grind[jbg,h3]
theorem jct {T:List jl} {i:Nat} {e:jl} (h:T[i]?=some e):genA T i=e.gen:=by grind[genA]
theorem jcG {T:List jl} {s:Int}:(jH T s).length=T.length:=by grind[jH]
def Jk (T:List jl) (i:Int):List jl:=if 0≤i then(match T[i.toNat]? with
 |some e=>if e.st=1 then T.set i.toNat {e with st:=2} else T
 |none=>T) else T
theorem jfd {T:List jl} {i:Int}:(Jk T i).length=T.length:=by
 grind[Jk]
structure jdT where
 w:Nat
 s:Int
 i:Int
 t:Int
 r:Int
 u:Nat
def hdM (y:jq) (r:Int):HdP:=⟨((y.cls:Nat):Int),min (max r 0) (((y.size:Nat):Int)-1),0⟩
def inS (g:PlG) (s:Int):Prop:=0≤s∧s<((g.slots:Nat):Int)
instance {g:PlG} {s:Int}:Decidable (inS g s):=by unfold inS;exact inferInstance
def Jl (g:PlG) (long:Nat) (m:MaP) (s:Int):MaP:=if inS g s then shdM g long m s else m
def oldS (g:PlG) (W:MwP) (a:jdT):Int × Int:=refP W.x g.slots (jA g a.s) a.i
def J5 (g:PlG) (W:MwP) (a:jdT):MwP:=
 if a.w%10<2 then(if inS g a.s then{W with x:=(makeP W.x (jA g a.s) (hdM (jA g a.s) a.r)).2} else W)
 else if a.w%10<4 then(if inS g a.s∧(oldS g W a).2=0 then{W with x:=(Jy W.x g.slots (jA g a.s) a.i a.t).2} else W)
 else if a.w%10=4 then(if inS g a.s then{W with T:=jH W.T a.s} else W)
 else if a.w%10=5 then{W with T:=Jk W.T a.i}
 else if a.w%10=6 then(if inS g a.s then{W with N:=jav W.N a.s.toNat} else W)
 else if a.w%10=7 then(if inS g a.s then{W with N:=jax W.N a.s.toNat} else W)
 else W
def ja2 (g:PlG) (long:Nat) (W:MwP) (m:MaP) (a:jdT):MaP:=
 if a.w%10<2 then m
 else if a.w%10<4 then(if inS g a.s∧(oldS g W a).2=0 then Jl g long (Jl g long m (oldS g W a).1) a.t else m)
 else if a.w%10=5 then(match slotT W.T a.i with
  |some s=>Jl g long m s
  |none=>m)
 else if a.w%10<8 then Jl g long m a.s
 else if a.w%10=8 then(j0 g long W m a.i (a.u:Nat)).getD m
 else(jaA g long W m).getD m
def jbA (g:PlG) (x:List Int):Prop:= ∀ (s:Nat) (y:jq),g.L[s]?=some y→ ∀ i,fldP x y true i=0→wAt x (fAt y i)≤((g.slots:Nat):Int)
section
variable {g : PlG} {long : Nat} {W W' : MwP} {m m' : MaP} {a : jdT} {x x' : List Int}
theorem jaH {a b:Nat} {v:Int} (h:a≠b):wAt (x.set a v) b=wAt x b:=by grind[wAt]
theorem jgN {a:Nat} {v:Int} (h:a<x.length):wAt (x.set a v) a=v:=by grind[wAt]
theorem jbC {p:jq} {a:Nat} (hl:p.addr+p.size≤x.length):wAt (J6 x p) a=if p.addr≤a∧a<p.addr+p.size then 0 else wAt x a:=by
 unfold wAt J6 cleared
 by_cases h1:a<p.addr
 ·grind
 grind
theorem jfI {p:jq} (h:wAt x' p.addr=wAt x p.addr):headP x' p=headP x p:=by grind[headP]
theorem jdZ {p:jq} {ref:Bool} {i:Int} (h:wAt x' p.addr=wAt x p.addr):fldP x' p ref i=fldP x p ref i:=by grind[fldP,jfI]
theorem jhM {p:jq} (h:wAt x' p.addr=wAt x p.addr):refsN x' p=refsN x p:=by grind[refsN,jfI]
theorem jfr (h:inS g a.s): ∃ (s:Nat) (y:jq),a.s=(s:Nat)∧g.L[s]?=some y∧jA g a.s=y:=by
 unfold inS at h
 obtain⟨y,hy⟩:=j9 (g:=g) (i:=a.s.toNat) (by omega)
 grind[jW]
theorem jib (ok:jg g) (hx:x.length=g.words) {s:Nat} {y:jq} (hy:g.L[s]?=some y) (h:HdP) {t:Nat} (ht:t<g.slots) (hp:0<refsN x (jA g (t:Nat))):
  refsN (makeP x y h).2 (jA g (t:Nat))=refsN x (jA g (t:Nat)):=by
 obtain⟨z,hz⟩:=j9 ht
 rw[jW hz] at hp⊢
 have f1:=ok.fits hy
 have f2:=ok.fits hz
 unfold makeP
 split
 ·split
  ·rfl
  ·rename_i hn
   by_cases e:s=t
   ·grind[refsN,headP]
   ·have:=ok.apart hy hz e
    grind[jhM,jaH,jbC]
 ·rfl
theorem jk5 (ok:jg g) {s:Nat} {y:jq} (hy:g.L[s]?=some y) {i v:Int} {t:Nat} (ht:t<g.slots):refsN (Jy x g.slots y i v).2 (jA g (t:Nat))=refsN x (jA g (t:Nat)):=by
 obtain⟨z,hz⟩:=j9 ht
 rw[jW hz]
 have f1:=ok.fits hy
 have f2:=ok.fits hz
 unfold Jy
 split
 ·rfl
 ·split
  ·rename_i e
   have:=jaq e
   refine jhM ?_
   by_cases e2:s=t
   ·grind[jaH]
   ·have:=ok.apart hy hz e2
    grind[jaH]
  ·rfl
theorem jL.world (hm:jL g long W m) (hT:W'.T.length=W.T.length) (hr: ∀ t:Nat,t<g.slots→0<refsN W.x (jA g (t:Nat))→refsN W'.x (jA g (t:Nat))=refsN W.x (jA g (t:Nat))):jL g long W' m:=by
 refine⟨hm.C,hm.c,hm.G,hm.hs,fun k h hk=>?_,by rw[hT];exact hm.root⟩
 rcases hm.h k h hk with⟨e1,e2,e3,e4,e5⟩|e
 ·left
  refine⟨e1,e2,e3,e4,?_⟩
  rcases e5 with e5|e5
  ·omega
  ·right
   obtain⟨n,hn⟩: ∃ n:Nat,h.slot=n:=⟨h.slot.toNat,by omega⟩
   grind
 grind
theorem jg7 (ok:jg g) (hm:jL g long W m) (s:Int):jL g long W (Jl g long m s):=by
 grind[Jl,shdM,jk4]
theorem jhZ (ok:jg g) (hm:jL g long W m) (s:Int):jV g W (Jl g long m s)≤jV g W m:=by
 grind[Jl,shdM,jjK]
theorem jgb (s:Int):(Jl g long m s).hs=m.hs∧(Jl g long m s).root=m.root∧(Jl g long m s).act=m.act∧(Jl g long m s).steps=m.steps:=by
 grind[Jl,shdM,jiu]
theorem jk3 (hm:jL g long W m) (ha:m.act=true) (s:Int):Jl g long m s=J9 g long m s:=by
 unfold Jl shdM;simp only[ha,if_true]
 split
 ·rfl
 ·rename_i h
  unfold J9;rw[if_neg];rintro⟨h1,h2⟩
  have:=jv h2
  rw[hm.C] at this;exact h ⟨h1,by omega⟩
theorem jj6 (ha:m.act=false) (s:Int):Jl g long m s=m:=by
 grind[Jl,shdM]
theorem mint_at {T:List jl} {s:Int} {j:Nat} {e:jl} (h:(jH T s)[j]?=some e):T[j]?=some e∨(e.st=1∧e.slot=s):=by
 grind[jH,hi,g1]
theorem drop_at {T:List jl} {i:Int} {j:Nat} {e:jl} (h:(Jk T i)[j]?=some e):T[j]?=some e∨e.st=2:=by
 grind[Jk]
theorem jiU:(J5 g W a).T.length=W.T.length:=by
 grind[J5,jcG,jfd]
theorem actW_ok (ok:jg g) (hW:jad g W):jad g (J5 g W a):=by
 have hsl:=ok.slots
 have hww:=ok.words
 unfold J5
 split
 ·split
  ·rename_i h
   obtain⟨s,y,_,hy,e⟩:=jfr h
   have:=ok.fits hy
   rw[e];exact⟨by show(makeP W.x y _).2.length=_;rw [jiG (by rw[hW.x];omega)];exact hW.x,jjd hW.w,hW.N,hW.n,hW.t⟩
  ·exact hW
 ·split
  ·split
   ·exact⟨by show(Jy W.x _ _ _ _).2.length=_;rw [jjN];exact hW.x,jj9 hW.w (by omega),hW.N,hW.n,hW.t⟩
   ·exact hW
  ·split
   ·split
    ·rename_i h
     refine⟨hW.x,hW.w,hW.N,hW.n,fun e he h1=>?_⟩
     obtain⟨j,hj⟩:=List.getElem?_of_mem he
     rcases mint_at hj with h2|⟨_,h2⟩
     ·exact hW.t e (List.mem_of_getElem? h2) h1
     ·rw[h2];exact h
    ·exact hW
   ·split
    ·refine⟨hW.x,hW.w,hW.N,hW.n,fun e he h1=>?_⟩
     obtain⟨j,hj⟩:=List.getElem?_of_mem he
     rcases drop_at hj with h2|h2
     ·exact hW.t e (List.mem_of_getElem? h2) h1
     ·omega
    ·split
     ·split
      ·exact⟨hW.x,hW.w,by show(jav W.N _).length=_;rw [jlg];exact hW.N,pinP_in hW.n,hW.t⟩
      ·exact hW
     ·split
      ·split
       ·exact⟨hW.x,hW.w,by show(jax W.N _).length=_;rw [jjG];exact hW.N,unpinP_in hW.n,hW.t⟩
       ·exact hW
      ·exact hW
theorem jjc (ok:jg g) (hx:x.length=g.words) (h:jbA g x) {s:Nat} {y:jq} (hy:g.L[s]?=some y) (hd:HdP):jbA g (makeP x y hd).2:=by
 have f1:=ok.fits hy
 unfold makeP
 split
 ·split
  ·omega
  ·intro t z hz j hf
   have f2:=ok.fits hz
   have h1:=jaq hf
   dsimp only at hf⊢
   by_cases e:s=t
   ·grind[jaH,jbC]
   ·have:=ok.apart hy hz e
    rw[jdZ (x:=x) (by grind[jaH,jbC])] at hf;rw[jaH (by omega),jbC (by omega),if_neg (by omega)];exact h t z hz j hf
 omega
theorem set_rf (ok:jg g) (hx:x.length=g.words) (h:jbA g x) {s:Nat} {y:jq} (hy:g.L[s]?=some y) {i v:Int}:jbA g (Jy x g.slots y i v).2:=by
 have f1:=ok.fits hy
 unfold Jy
 split
 ·omega
 ·split
  ·rename_i hv e
   have hin:=jaq e
   intro t z hz j hf
   have f2:=ok.fits hz
   have h1:=jaq hf
   dsimp only at hf⊢
   have hz0:fAt y i≠z.addr:=by
    by_cases e3:s=t
    ·grind
    ·have:=ok.apart hy hz e3;omega
   rw[jdZ (x:=x) (jaH hz0)] at hf
   by_cases e2:fAt y i=fAt z j
   ·grind[jgN]
   ·rw[jaH e2];exact h t z hz j hf
  omega
theorem actW_rf (ok:jg g) (hW:jad g W) (hR:jbA g W.x):jbA g (J5 g W a).x:=by
 unfold J5
 split
 ·split
  ·rename_i h
   obtain⟨s,y,_,hy,e⟩:=jfr h
   rw[e];exact jjc ok hW.x hR hy _
  omega
 ·split
  ·split
   ·rename_i h
    obtain⟨s,y,_,hy,e⟩:=jfr h.1
    rw[e];exact set_rf ok hW.x hR hy
   omega
  grind
theorem jkN (ok:jg g) (hW:jad g W) {t:Nat} (ht:t<g.slots) (hp:0<refsN W.x (jA g (t:Nat))):refsN (J5 g W a).x (jA g (t:Nat))=refsN W.x (jA g (t:Nat)):=by
 unfold J5
 split
 ·split
  ·rename_i h
   obtain⟨s,y,_,hy,e⟩:=jfr h
   rw[e];exact jib ok hW.x hy _ ht hp
  ·rfl
 grind[jfr,jk5]
theorem actK_all (ok:jg g) (hm:jL g long W m):jL g long W (ja2 g long W m a)∧jV g W (ja2 g long W m a)≤jV g W m∧(ja2 g long W m a).act=m.act∧(ja2 g long W m a).hs.length=m.hs.length:=by
 have hs1: ∀ (m:MaP) (s:Int),jL g long W m→jL g long W (Jl g long m s)∧jV g W (Jl g long m s)≤jV g W m∧(Jl g long m s).act=m.act∧(Jl g long m s).hs.length=m.hs.length:=fun m s hm=>
  ⟨jg7 ok hm s,jhZ ok hm s,(jgb s).2.2.1,by grind[jgb]⟩
 have hid:jL g long W m∧jV g W m≤jV g W m∧m.act=m.act∧m.hs.length=m.hs.length:=⟨hm,Nat.le_refl _,rfl,rfl⟩
 have hst: ∀ {k u:Int},jL g long W ((j0 g long W m k u).getD m)∧jV g W ((j0 g long W m k u).getD m)≤jV g W m∧((j0 g long W m k u).getD m).act=m.act∧((j0 g long W m k u).getD m).hs.length=m.hs.length:=fun{k u}=>by
  cases h:j0 g long W m k u with
  |none=>grind
  |some m'=>
   grind[h1,h2,h3,jfp]
 unfold ja2
 split
 ·omega
 ·split
  ·grind
  grind[jaA]
theorem actK_ok (ok:jg g) (hW:jad g W) (hm:jL g long W m):jL g long (J5 g W a) (ja2 g long W m a):=
 (actK_all ok hm).1.world jiU fun t ht hp=>jkN ok hW ht hp
theorem jhQ (h:W'.T.length=W.T.length):jV g W' m=jV g W m:=by grind[jV]
theorem step_idle (ha:m.act=false) {k u:Int}:j0 g long W m k u=none:=by
 grind[j0]
theorem help_idle (ha:m.act=false):jaA g long W m=none:=by
 grind[jaA,jeA,step_idle]
end
open Go.RowKit
set_option maxRecDepth 10000
section
variable {g : PlG} {long : Nat} {W W' : MwP} {m m' : MaP} {a : jdT} {x x' : List Int}
theorem jfO {t:Nat} {i s:Int} (h:refO g x (t:Nat) i=some s):t<g.slots∧fldP x (jA g (t:Nat)) true i=0:=by
 unfold refO at h
 split at h
 ·rename_i hc
  have hf:fldP x (jA g (t:Nat)) true i=0:=by
   grind[refP]
  refine⟨?_,hf⟩
  rcases Nat.lt_or_ge t g.slots with h1|h1
  ·omega
  ·exfalso
   have e:jA g (t:Nat)=⟨0,0,0,0⟩:=by
    grind[jA,jdU]
   rw[e] at hf
   have:=jaq hf
   grind
 grind
theorem jhN {t:Nat} {i:Int} (h1:wAt x' (jA g (t:Nat)).addr=wAt x (jA g (t:Nat)).addr) (h2:wAt x' (fAt (jA g (t:Nat)) i)=wAt x (fAt (jA g (t:Nat)) i)):refO g x' (t:Nat) i=refO g x (t:Nat) i:=by
 grind[refP,jA,refO,jdZ,h1,h2]
theorem set_refO (ok:jg g) {s0:Nat} {y:jq} (hy:g.L[s0]?=some y) {i0 v:Int} {t:Nat} {i s:Int} (h:refO g x (t:Nat) i=some s):
  (t=s0∧i=i0)∨refO g (Jy x g.slots y i0 v).2 (t:Nat) i=some s:=by
 obtain⟨ht,hf⟩:=jfO h
 obtain⟨z,hz⟩:=j9 ht
 have hin:=jaq hf
 have e:=jW hz
 have f1:=ok.fits hy
 have f2:=ok.fits hz
 by_cases hti:t=s0∧i=i0
 ·omega
 ·right
  rw[←h];unfold Jy
  split
  ·rfl
  ·split
   ·rename_i hv hf0
    have hin0:=jaq hf0
    rw[e] at hin
    have ha:fAt y i0≠z.addr∧fAt y i0≠fAt z i:=by
     by_cases et:s0=t
     ·grind[fAt]
     ·have:=ok.apart hy hz et
      omega
    grind[jhN,jaH]
   ·rfl
theorem jdV (ok:jg g) (hm:jL g long W m) (hi:jaT m) (ha:m.act=true) (s:Int):
  jaT (Jl g long m s)∧J1 g W' W' m (Jl g long m s)∧(∀ n:Nat,s=n→n<g.slots→NW (Jl g long m s) n):=by
 grind[jk3,h1,h2,h3,shade_keep]
theorem root_T {W W':MwP} (hl:W'.T.length=W.T.length) (hN:W'.N=W.N) {r s:Nat} (h:jU g W r=some (s:Nat)) (hT:r<W.T.length→W'.T[r]?=W.T[r]?):jU g W' r=some (s:Nat):=by
 grind[jU]
theorem jlO (ok:jg g) (hm:jL g long W m) (hW:jad g W) (hi:jaT m) (ha:m.act=true) (h2: ¬a.w%10<2):jaT (ja2 g long W m a)∧J1 g W (J5 g W a) m (ja2 g long W m a):=by
 have hsame: ∀ {m':MaP},Mic g W m m'→jaT m'∧J1 g W W m m':=fun h=>⟨h.i,h.k⟩
 unfold ja2 J5;simp only[if_neg h2]
 by_cases h4:a.w%10<4
 ·simp only[if_pos h4]
  by_cases hc:inS g a.s∧(oldS g W a).2=0
  ·simp only[if_pos hc]
   obtain⟨s0,y,hs0,hy,hsl⟩:=jfr hc.1
   obtain⟨i1,k1,n1⟩:=jdV (W':=W) ok hm hi ha (oldS g W a).1
   have hm1:=jg7 ok hm (oldS g W a).1
   have ha1:(Jl g long m (oldS g W a).1).act=true:=(jgb _).2.2.1.trans ha
   obtain⟨i2,k2,n2⟩:=jdV (W':=W) ok hm1 i1 ha1 a.t
   refine⟨i2,(k1.trans k2).trans (jdq rfl (fun r s h=> .inr h) fun t s i h=>?_)⟩;dsimp only;rw[hsl]
   rcases set_refO (i0:=a.i) (v:=a.t) ok hy h with⟨rfl,rfl⟩|h'
   ·left
    have hin:=jeM h hW.w
    refine k2.nw s (n1 s ?_ (by omega))
    grind[refO,oldS]
   grind
  grind[J1.refl]
 ·simp only[if_neg h4]
  by_cases e4:a.w%10=4
  ·have e5: ¬a.w%10=5:=by omega
   have e8:a.w%10<8:=by omega
   simp only[if_pos e4,if_neg e5,if_pos e8]
   by_cases hc:inS g a.s
   ·simp only[if_pos hc]
    obtain⟨i1,k1,n1⟩:=jdV (W':={W with T:=jH W.T a.s}) ok hm hi ha a.s
    refine⟨i1,(jdq (W':={W with T:=jH W.T a.s}) jcG (fun r s h=> .inr ?_) fun t s i h=> .inr h).trans k1⟩
    grind[jH,g1,g2,jU,root_T,jcG,jbg]
   grind[Jl,hi,J1.refl]
  ·simp only[if_neg e4]
   by_cases e5:a.w%10=5
   ·simp only[if_pos e5]
    have hno:slotT W.T a.i=none→Jk W.T a.i=W.T→jaT (match slotT W.T a.i with|some s=>Jl g long m s|none=>m)∧J1 g W {W with T:=Jk W.T a.i} m (match slotT W.T a.i with|some s=>Jl g long m s|none=>m):=fun h1 h2=>by
     rw[h1,h2];exact⟨hi,J1.refl⟩
    by_cases h0:0≤a.i
    ·cases hT:W.T[a.i.toNat]? with
     |none=>grind[slotT,Jk]
     |some e=>
      by_cases h1:e.st=1
      ·have e1:slotT W.T a.i=some e.slot:=by grind[slotT]
       have e2:Jk W.T a.i=W.T.set a.i.toNat {e with st:=2}:=by grind[Jk]
       rw[e1,e2];dsimp only
       obtain⟨i1,k1,n1⟩:=jdV (W':=W) ok hm hi ha e.slot
       refine⟨i1,k1.trans (jdq (W':={W with T:=W.T.set a.i.toNat {e with st:=2}}) (by simp) (fun r s h=>?_) fun t s i h=> .inr h)⟩
       by_cases hr:r=a.i.toNat
       ·left
        subst hr;unfold jU at h;rw[hT] at h;dsimp only at h;rw[if_pos h1] at h
        have h':=Option.some.inj h
        have hin:=hW.t e (List.mem_of_getElem? hT) h1
        grind
       grind[root_T]
      grind[slotT,Jk]
    grind[slotT,Jk]
   ·simp only[if_neg e5]
    have hpl: ∀ {N':List Int},N'.length=W.N.length→(∀ k:Nat,0<(W.N[k]?).getD 0→NW (Jl g long m a.s) k∨0<(N'[k]?).getD 0)→ ∀ r s:Nat,jU g W r=some (s:Nat)→NW (Jl g long m a.s) s∨jU g {W with N:=N'} r=some (s:Nat):=fun{N'} hl hk r s h=>by
     grind[jU]
    by_cases e6:a.w%10=6
    ·have e8:a.w%10<8:=by omega
     simp only[if_pos e6,if_pos e8]
     by_cases hc:inS g a.s
     ·simp only[if_pos hc]
      obtain⟨i1,k1,n1⟩:=jdV (W':=W) ok hm hi ha a.s
      exact⟨i1,k1.trans (jdq rfl (hpl jlg fun k hk=> .inr (jiB hk)) fun t s i h=> .inr h)⟩
     grind[Jl,hi,J1.refl]
    ·simp only[if_neg e6]
     by_cases e7:a.w%10=7
     ·have e8:a.w%10<8:=by omega
      simp only[if_pos e7,if_pos e8]
      by_cases hc:inS g a.s
      ·simp only[if_pos hc]
       obtain⟨i1,k1,n1⟩:=jdV (W':=W) ok hm hi ha a.s
       refine⟨i1,k1.trans (jdq rfl (hpl jjG fun k hk=>?_) fun t s i h=> .inr h)⟩
       grind[inS,unpinP_ne]
      grind[Jl,hi,J1.refl]
     ·have e8: ¬a.w%10<8:=by omega
      simp only[if_neg e7,if_neg e8]
      by_cases e9:a.w%10=8
      ·simp only[if_pos e9]
       cases h:j0 g long W m a.i (a.u:Nat) with
       |none=>grind[J1.refl]
       |some m'=>grind[jgP]
      ·simp only[if_neg e9]
       cases h:jaA g long W m with
       |none=>grind[J1.refl]
       |some m'=>
        grind[jeA,jgP]
end
structure MsP where
 W:MwP
 m:MaP
 k:MaP
def actS2 (g:PlG) (long:Nat) (S:MsP) (a:jdT):MsP:=⟨J5 g S.W a,ja2 g long S.W S.m a,ja2 g long S.W S.k a⟩
structure MsOk (g:PlG) (long:Nat) (S:MsP):Prop where
 W:jad g S.W
 rf:jbA g S.W.x
 m:jL g long S.W S.m
 k:jL g long S.W S.k
theorem MsOk.act {g:PlG} {long:Nat} {S:MsP} (ok:jg g) (h:MsOk g long S) (a:jdT):MsOk g long (actS2 g long S a):=
 ⟨actW_ok ok h.W,actW_rf ok h.W h.rf,actK_ok ok h.W h.m,actK_ok ok h.W h.k⟩
open Go.RowKit
set_option maxRecDepth 10000
structure CyP where
 W:MwP
 m:MaP
 A:List Bool
 sa:Bool
 at_:Nat
 D:List Bool
 ph:Nat
 st:Nat
def Js (g:PlG) (s:CyP):CyP:=
 if s.ph=1∧jaa g s.W s.m=true then{s with sa:=true,ph:=if s.at_=g.slots then 3 else 2}
 else if s.ph=2∧s.at_=g.slots then{s with ph:=3} else s
def madeC (g:PlG) (s:CyP):CyP:=Js g {s with st:=s.st+1}
def sweepC (g:PlG) (s:CyP):Option CyP:=
 if s.sa=true∧s.at_<g.slots then
  some (if s.A[s.at_]?=some true∧s.m.C[s.at_]?=some 0 then{s with W:={s.W with x:=J6 s.W.x (jA g (s.at_:Nat))},D:=s.D.set s.at_ true,at_:=s.at_+1} else{s with at_:=s.at_+1})
 else none
def stepC (g:PlG) (long nw:Nat) (s:CyP) (hd u:Int):Option CyP:=
 if s.ph=1 then(j0 g long s.W s.m hd u).map fun m'=>madeC g {s with m:=m'}
 else if s.ph=2∧u=5∧0≤hd∧hd≤((nw:Nat):Int) then(sweepC g s).map (madeC g)
 else none
def j8 (g:PlG) (long:Nat) (s:CyP):Option CyP:=
 if s.ph=1 then(jaA g long s.W s.m).map fun m'=>madeC g {s with m:=m'}
 else if s.ph=2 then(sweepC g s).map (madeC g) else none
def beginC (g:PlG) (s:CyP):CyP:={s with m:=jgi g s.m,ph:=1,st:=0}
def jah (gens:Int) (e:jl):jl:=if e.st=2 then(if e.gen≥gens then⟨3,0,e.gen⟩ else⟨0,0,e.gen+1⟩) else e
def j5 (gens:Int) (T:List jl):List jl:=T.map (jah gens)
def recyN (gens:Int) (T:List jl):Nat:=T.countP fun e=>decide (e.st=2∧ ¬e.gen≥gens)
def publishC (g:PlG) (gens:Int) (s:CyP):CyP:=
 {s with A:=(jbp s.A s.D).2,sa:=false,at_:=0,D:=List.replicate g.slots false,W:={s.W with T:=j5 gens s.W.T},m:={s.m with act:=false},ph:=0}
def shdC (g:PlG) (long:Nat) (s:CyP) (sl:Int):CyP:=if s.ph=1 then{s with m:=Jl g long s.m sl} else s
def JP (m:MaP) (s:Nat):MaP:=if m.act=true then{m with C:=m.C.set s 2} else m
structure ja0 where
 w:Nat
 n:Int
 i:Int
 t:Int
def makesC (g:PlG) (s:CyP) (a:ja0):CyP:=
  if (takeP g s.A a.n).2.1=0∧(JM s.W.T).isSome=true then
    {s with A:=(takeP g s.A a.n).2.2,m:=JP s.m (takeP g s.A a.n).1.toNat,
             W:={s.W with T:=jH s.W.T (takeP g s.A a.n).1,x:=(makeP s.W.x (jA g (takeP g s.A a.n).1) (hdM (jA g (takeP g s.A a.n).1) a.i)).2}}
  else s
def Jd (g:PlG) (long:Nat) (s:CyP) (t:Int):CyP:=if t≥0 then shdC g long s t else s
def toC (T:List jl) (t:Int):Int:=if t<0 then-1 else(slotT T t).getD (-1)
def jcD (g:PlG) (s:CyP) (sl i to:Int):CyP:={s with W:={s.W with x:=(Jy s.W.x g.slots (jA g sl) i to).2}}
def jbj (g:PlG) (long:Nat) (s:CyP) (a:ja0):CyP:=
 match slotT s.W.T a.n with
 |none=>s
 |some sl=>
  if a.t≥0∧(slotT s.W.T a.t).isNone=true then s
  else if (refP s.W.x g.slots (jA g sl) a.i).2≠0 then s
  else
   jcD g (Jd g long (Jd g long s (refP s.W.x g.slots (jA g sl) a.i).1) (toC s.W.T a.t)) sl a.i (toC s.W.T a.t)
def doesC (g:PlG) (long:Nat) (s:CyP) (a:ja0):CyP:=
 if a.w%6<2 then makesC g s a
 else if a.w%6=2 then jbj g long s a
 else match slotT s.W.T a.n with
  |none=>s
  |some sl=>
   if a.w%6=3 then(let s1:=shdC g long s sl;{s1 with W:={s1.W with T:=Jk s1.W.T a.n}})
   else if a.w%6=4 then{s with W:={s.W with N:=jav s.W.N sl.toNat}}
   else(let s1:=shdC g long s sl;{s1 with W:={s1.W with N:=jax s1.W.N sl.toNat}})
structure CyPre (g:PlG) (long:Nat) (s:CyP):Prop where
 w:jad g s.W
 rf:jbA g s.W.x
 m:jL g long s.W s.m
 i:jaT s.m
 A:s.A.length=g.slots
 D:s.D.length=g.slots
 p0:s.ph=0→s.m.act=false∧s.sa=false∧s.at_=0∧s.D=List.replicate g.slots false
 p1:s.ph=1→s.m.act=true∧s.sa=false∧s.at_=0∧s.D=List.replicate g.slots false
 p2:s.ph=2→s.m.act=true∧s.sa=true∧s.at_≤g.slots
 p3:s.ph=3→s.m.act=true∧s.sa=true∧s.at_=g.slots
 ph:s.ph≤3
 dn:2≤s.ph→ ∀ t,¬Lst s.m t
structure jw (g:PlG) (long:Nat) (s:CyP):Prop extends CyPre g long s where
 lt:s.ph=2→s.at_<g.slots
 go:s.ph=1→jaa g s.W s.m=false
def Jo (g:PlG) (s:CyP):Nat:=if s.ph=1 then jV g s.W s.m+g.slots+1 else if s.ph=2 then g.slots-s.at_ else 0
section
variable {g : PlG} {long : Nat} {s s' : CyP}
theorem goes_mes (hs:1≤g.slots):Jo g (Js g s)≤Jo g s:=by
 grind[Js,Jo]
theorem jfj (ok:jg g) (h:jw g long s) (hh:j8 g long s=some s'):Jo g s'<Jo g s:=by
 have hsl:=ok.slots
 unfold j8 at hh
 split at hh
 ·rename_i h1
  cases hm:jaA g long s.W s.m with
  |none=>grind
  |some m'=>
   rw[hm] at hh
   cases hh
   obtain⟨k,u,hk⟩:=jeA hm
   obtain⟨_,h2,_,_,_⟩:=jfp ok h.m hk
   refine zoj ?_
   grind[Jo]
 ·split at hh
  ·rename_i h1 h2
   unfold sweepC at hh
   split at hh
   ·rename_i h3
    cases hh
    refine zoj ?_
    grind[Jo]
   grind
  grind
theorem jkz (ok:jg g) (h:jw g long s) (h0:s.ph≠0) (hh:j8 g long s=none):s.ph=3:=by
 have h3:=h.ph
 unfold j8 at hh
 split at hh
 ·rename_i h1
  cases hm:jaA g long s.W s.m with
  |none=>have:=help_done ok h.m (h.p1 h1).1 hm;rw [h.go h1] at this;grind
  |some m'=>grind
 ·split at hh
  ·rename_i h1 h2
   obtain⟨_,a,_⟩:=h.p2 h2
   have b:=h.lt h2
   grind[sweepC]
  omega
end
open Go.RowKit
set_option maxRecDepth 10000
section
variable {g : PlG} {long nw : Nat} {s s' : CyP} {W W' : MwP} {m : MaP}
theorem put_empty {G:GyP} {t:Nat} (h:t<G.ow.length):jb0 (jaL g long G t)=false:=by
 unfold jb0 jaL
 split
 ·simp
 grind
theorem shd_done (hm:jL g long W m) (h:jaa g W m=false) (t:Int):jaa g W (Jl g long m t)=false:=by
 unfold Jl shdM J9
 split
 ·split
  ·split
   ·rename_i hc
    have hl:=jv hc.2
    rw[hm.C,←hm.G.ow] at hl
    grind[jaa,put_empty]
   omega
  omega
 omega
theorem jhT (h:W'.T.length=W.T.length):jaa g W' m=jaa g W m:=by grind[jaa]
theorem jw.world (ok:jg g) (h:jw g long s) {a:jdT}:jw g long {s with W:=J5 g s.W a}:=
 ⟨⟨actW_ok ok h.w,actW_rf ok h.w h.rf,h.m.world jiU fun t ht hq=>jkN ok h.w ht hq,h.i,h.A,h.D,h.p0,h.p1,h.p2,h.p3,h.ph,h.dn⟩,h.lt,fun e=>(jhT jiU).trans (h.go e)⟩
theorem jw.shd (ok:jg g) (h:jw g long s) (t:Int):jw g long (shdC g long s t):=by
 unfold shdC
 split
 ·rename_i h1
  obtain⟨a,b,c,d⟩:=h.p1 h1
  have z:=jdV (W':=s.W) ok h.m h.i a t
  exact⟨⟨h.w,h.rf,jg7 ok h.m t,z.1,h.A,h.D,fun e=>(by grind),fun _=>⟨(jgb t).2.2.1.trans a,b,c,d⟩,fun e=>(by grind),fun e=>(by grind),h.ph,fun e=>absurd (show 2≤s.ph from e) (by omega)⟩,fun e=>(by grind),fun _=>shd_done h.m (h.go h1) t⟩
 omega
theorem black_ok (hm:jL g long W m) (t:Nat):jL g long W (JP m t):=by
 unfold JP
 split
 ·refine⟨by show(m.C.set _ _).length=_;rw [List.length_set];exact hm.C,fun v hv=>?_,hm.G,hm.hs,hm.h,hm.root⟩
  rcases List.mem_or_eq_of_mem_set hv with e|e
  ·exact hm.c v e
  omega
 omega
theorem black_in (hi:jaT m) (t:Nat):jaT (JP m t):=by
 unfold JP
 split
 ·refine⟨fun q hq=>?_,fun q hq=>?_⟩
  ·by_cases e:t=q
   ·grind
   ·have hq':(m.C.set t 2)[q]?=some 1:=hq
    rw[List.getElem?_set_ne e] at hq';exact hi.grey q hq'
  ·obtain⟨c,h1,h2⟩:=hi.lst q hq
   by_cases e:t=q
   ·subst e;exact⟨2,List.getElem?_set_self (jv h1),by decide⟩
   ·exact⟨c,(List.getElem?_set_ne e).trans h1,h2⟩
 omega
theorem jfJ (m:MaP) (t:Nat):(JP m t).G=m.G∧(JP m t).hs=m.hs∧(JP m t).root=m.root∧(JP m t).act=m.act∧(JP m t).steps=m.steps:=by
 grind[JP]
theorem black_done (t:Nat):jaa g W (JP m t)=jaa g W m:=by
 grind[jaa,fullM,jai,jfJ]
theorem jw.black (h:jw g long s) (t:Nat):jw g long {s with m:=JP s.m t}:=by
 obtain⟨a,b,c,d,_⟩:=jfJ s.m t
 refine⟨⟨h.w,h.rf,black_ok h.m t,black_in h.i t,h.A,h.D,fun e=>?_,fun e=>?_,fun e=>?_,fun e=>?_,h.ph,fun e q hq=>h.dn e q ?_⟩,h.lt,fun e=>(black_done t).trans (h.go e)⟩
 ·exact⟨d.trans (h.p0 e).1,(h.p0 e).2⟩
 ·exact⟨d.trans (h.p1 e).1,(h.p1 e).2⟩
 ·exact⟨d.trans (h.p2 e).1,(h.p2 e).2⟩
 ·exact⟨d.trans (h.p3 e).1,(h.p3 e).2⟩
 grind[Lst,JP]
theorem jw.take (h:jw g long s) {A':List Bool} (hA:A'.length=s.A.length):jw g long {s with A:=A'}:=
 ⟨⟨h.w,h.rf,h.m,h.i,hA.trans h.A,h.D,h.p0,h.p1,h.p2,h.p3,h.ph,h.dn⟩,h.lt,h.go⟩
end
open Go.RowKit
set_option maxRecDepth 10000
section
variable {g : PlG} {long nw : Nat} {s s' : CyP}
theorem jge:(Js g s).st=s.st:=by
 grind[Js]
theorem jhg:s.ph≤(Js g s).ph:=by
 grind[Js]
theorem jdX:(Js g s).W=s.W∧(Js g s).m=s.m∧(Js g s).A=s.A∧(Js g s).at_=s.at_∧(Js g s).D=s.D:=by
 grind[Js]
theorem jip (hs:sweepC g s=some s'):s'.st=s.st∧s'.ph=s.ph∧s'.at_=s.at_+1:=by
 grind[sweepC]
theorem jhd (hs:j8 g long s=some s'):s'.st=s.st+1∧s.ph≤s'.ph:=by
 unfold j8 at hs
 split at hs
 ·rename_i h1
  cases hm:jaA g long s.W s.m with
  |none=>grind
  |some m'=>rw [hm] at hs;cases hs;exact⟨jge,jhg (s:={s with m:=m',st:=s.st+1})⟩
 ·split at hs
  ·cases hm:sweepC g s with
   |none=>grind
   |some q=>
    rw[hm] at hs;cases hs
    obtain⟨a,b,_⟩:=jip hm
    refine⟨jge.trans (by grind),?_⟩
    have:=jhg (g:=g) (s:={q with st:=q.st+1})
    exact Nat.le_trans (Nat.le_of_eq b.symm) this
  grind
theorem ji4 {k u:Int} (hs:stepC g long nw s k u=some s'):s'.st=s.st+1∧s.ph≤s'.ph:=by
 unfold stepC at hs
 split at hs
 ·cases hm:j0 g long s.W s.m k u with
  |none=>grind
  |some m'=>rw [hm] at hs;cases hs;exact⟨jge,jhg (s:={s with m:=m',st:=s.st+1})⟩
 ·split at hs
  ·cases hm:sweepC g s with
   |none=>grind
   |some q=>
    rw[hm] at hs;cases hs
    obtain⟨a,b,_⟩:=jip hm
    refine⟨jge.trans (by grind),?_⟩
    have:=jhg (g:=g) (s:={q with st:=q.st+1})
    exact Nat.le_trans (Nat.le_of_eq b.symm) this
  grind
theorem jk0 (ok:jg g) (h:jw g long s) {k u:Int} (hh:stepC g long nw s k u=some s'):Jo g s'<Jo g s:=by
 have hsl:=ok.slots
 unfold stepC at hh
 split at hh
 ·rename_i h1
  cases hm:j0 g long s.W s.m k u with
  |none=>grind
  |some m'=>
   rw[hm] at hh
   cases hh
   obtain⟨_,h2,_,_,_⟩:=jfp ok h.m hm
   refine zoj ?_
   grind[Jo]
 ·split at hh
  ·rename_i h1 h2
   cases hm:sweepC g s with
   |none=>grind
   |some q=>
    rw[hm] at hh
    cases hh
    obtain⟨a,b,c⟩:=jip hm
    have hlt:=h.lt h2.1
    refine zoj ?_
    grind[Jo]
  grind
theorem jlv (ok:jg g) (h:jw g long s) (hs:j8 g long s=some s'):s'.st+Jo g s'≤s.st+Jo g s:=by
 have h1:=(jhd hs).1
 have h2:=jfj ok h hs
 omega
theorem jkZ (ok:jg g) (h:jw g long s) {k u:Int} (hs:stepC g long nw s k u=some s'):s'.st+Jo g s'≤s.st+Jo g s:=by
 have h1:=(ji4 hs).1
 have h2:=jk0 ok h hs
 omega
theorem jkK (ok:jg g):(beginC g s).st+Jo g (beginC g s)≤18*g.words+s.W.T.length+g.slots+1:=by
 have:=jhK (W:=s.W) ok (s.m.hs.length-1)
 show 0+(if (1:Nat)=1 then jV g s.W (jgi g s.m)+g.slots+1 else _)≤_
 grind[jgi]
end
end Go.Proofs.YtebiafomiemgbaaGreatDoor.Sw
namespace Go.Proofs.YtebiafomiemgbaaGreatDoor
open Go.RowKit
section
variable {P : Program} {w0 : World} {m : jk} {H : jb} {ty : TypeId}
theorem Val.indexV {t e:TypeId} {x y:Operand} {cs ds:List Value} {len z off:Nat} {i:Int} {k:IntKind} (hx:evO m x=some (.agg cs.toArray)) (hy:evO m y=some (.int k i)) (ht:jef P t=some (len,e)) (hz:JG P e=some z) (h1:aggB P e=true) (hj:0≤i∧i<len) (ho:i.toNat*z=off) (hd:Seg cs off z ds):Val P w0 H m ty (.index t x y) (.agg ds.toArray):=
 ⟨by grind[jm,cov],fun w d pos af g _=>by
  have hu:P.underlying t=some (.array len e):=by grind[jef]
  have hp:=jh1 (P:=P) w (cs:=cs.toArray) (off:=off) h1 hz
  have hd:=hd.eq.1
  subst hd
  have hr:(Instr.index t (.agg cs.toArray) (.int k i)).run P w= .ok (.agg ((cs.drop off).take z).toArray) w:=by
   simp[Instr.index,asIntOf,jQ w hu,hj.1,hj.2,jbh w hz,ho,hp,List.take_drop]
  simp[execOp,evS,hx,hy,hr]⟩
end
section
variable {P : Program} {w0 : World} {ro : Option Nat} {n : Nat} {Q : Exit → Act → World → Prop} {ds : List Deferred} {m : jk} {H R : jb} {ops : Array Oper} {ord : Ord}
variable {ty : TypeId} {pos : String} {af : Array Edge}
theorem KD.callcX {i d:Nat} {f:Operand} {as0:List Operand} {ts:Array TypeId} {fv:Value} {vs:List Value} (hi:ops[i]?=some ⟨some d, .call {callee:= .value f,args:=as0.toArray,argTypes:=ts},ty,pos,af,none⟩) (hd:Nat.blt d n=true) (hf:evO m f=some fv) (ha:EvL m as0 vs)
  (h: ∀ T:Ji,(∀ v H',Part H' H'→KD P w0 ro n ops R ord Q ds ((d,v)::m) H'→T v H')→CallV P w0 fv vs H T):KD P w0 ro n ops R ((i,4)::ord) Q ds m H:=
 KD.eX hi hd (Eff.call hf ha (h (fun v H'=>KD P w0 ro n ops R ord Q ds ((d,v)::m) H') fun _ _ _ k=>k)) fun _ _ k=>k
end
section
variable {P : Program} {w0 : World} {m : jk} {H : jb} {ty : TypeId}
theorem Val.indexV1 {t e:TypeId} {x y:Operand} {cs:List Value} {v:Value} {len:Nat} {i:Int} {k:IntKind} (hx:evO m x=some (.agg cs.toArray)) (hy:evO m y=some (.int k i)) (ht:jef P t=some (len,e)) (hz:JG P e=some 1) (h1:oneB P e=true) (hj:0≤i∧i<len) (hv:cs[i.toNat]?=some v):Val P w0 H m ty (.index t x y) v:=
 ⟨by grind[jm,cov],fun w d pos af g _=>by
  have hu:P.underlying t=some (.array len e):=by grind[jef]
  have hp:=jgC (P:=P) w (cs:=cs.toArray) (off:=i.toNat) h1 (by simpa using hv)
  have hr:(Instr.index t (.agg cs.toArray) (.int k i)).run P w= .ok v w:=by
   simp[Instr.index,asIntOf,jQ w hu,hj.1,hj.2,jbh w hz,hp]
  simp[execOp,evS,hx,hy,hr]⟩
end
end Go.Proofs.YtebiafomiemgbaaGreatDoor
namespace Go.Proofs.YtebiafomiemgbaaGreatDoor.Sw
open Go.Proofs.YtebiafomiemgbaaGreatDoor renaming lo → qL, hi → qH
open Go.RowKit Go.ChangeShapes Go.WideShapes Go.ChangeAt Go.Deep Go.Joins
set_option maxRecDepth 100000
theorem jjq {H:Type} {P:Program} {e:TypeId} {n:Nat} {d:DataW H}: ∀ {l:List (DataW H)},d∈l→n∈d.weights P e→n∈DataW.weightsAll P e l
 |a::l,h,hn=>by
  simp only[DataW.weightsAll,List.mem_append]
  rcases List.mem_cons.1 h with rfl|h
  ·grind
  ·exact .inr (jjq h hn)
theorem jj5 {P:Program} {α:Type} {E:Enc α} {H:Type} {enc:TypeId × Value→H} {W:World} {t e:TypeId} (ht:P.underlying t=some (.slice e)) (hk:P.cellsOf e=E.sz) (hk0:0<E.sz) {fuel:Nat} {cs:List Value} {x:DataW H × List MemPlace}
  (hf:DataW.trod enc P W 0 (fun _=>true) true fuel t cs=some x) (hz: ∀ n∈x.1.weights P t,n≤reachBytes) (Ok:α→Prop)
  (hR: ∀ fuel cs x,DataW.trod enc P W 0 (fun _=>true) true fuel e cs=some x→(∀ n∈x.1.weights P e,n≤reachBytes)→cs.length=E.sz→ ∃ y,cs=E.enc y∧Ok y):
  ∃ a n c ys,cs=[.slice a n c]∧SlW W E (.slice a n c) ys∧(∀ y∈ys,Ok y)∧ys.length*P.bytesOf e≤reachBytes:=by
 rcases open_slice ht hf with⟨hcs,_⟩|⟨a',len',cap',m,n,D,Pl,hcs,_,hl,hm,hmm,hxd,hx⟩
 ·exact⟨none,0,0,[],hcs,SlW.nil W E,(fun y hy=>by grind),by simp⟩
 ·simp only[if_true] at hmm;subst hmm;subst hxd;simp only[DataW.weights,ht] at hz
  have key: ∀ i,i<len'→ ∃ y,Ok y∧ ∀ j,j<E.sz→W.cell? (a'.add (i*E.sz+j))=(E.enc y)[j]? :=by
   intro i hi
   obtain⟨cs',h1,h2⟩:=hx i (by omega)
   rw[hk] at h1
   obtain⟨_,hlen,hat⟩:=World.cells?_some h1
   obtain⟨y,rfl,hy⟩:=hR _ _ _ h2 (fun n hn=>hz n (by
    refine List.mem_cons_of_mem _ (List.mem_append_left _ (jjq (d:=D i) ?_ hn))
    exact List.mem_map_of_mem (List.mem_range.2 hi))) hlen
   exact⟨y,hy,fun j hj=>by rw[←add_add];exact hat j hj⟩
  obtain⟨ys,hys,hall⟩:=jgv len' (fun i y=>Ok y∧ ∀ j,j<E.sz→W.cell? (a'.add (i*E.sz+j))=(E.enc y)[j]?) key
  subst hys
  have hspot:0<ys.length→ ∃ b off,a'=⟨b,off,none⟩:=by
   intro hpos
   obtain⟨b,off,spot⟩:=a'
   obtain⟨y0,_,hc0⟩:=key 0 hpos
   have h1:=hc0 0 hk0
   rw[List.getElem?_eq_getElem (by rw[E.len];exact hk0)] at h1
   have hsp:spot=none:=by simpa [Addr.add] using World.cell?_spot h1
   subst hsp;exact⟨b,off,rfl⟩
  refine⟨some a',ys.length,_,ys,hcs,⟨⟨some a',_,rfl,hl,hm,fun hne=>?_⟩,?_⟩,?_,?_⟩
  ·obtain⟨b,off,rfl⟩:=hspot (List.length_pos_iff.2 hne)
   exact⟨b,off,rfl⟩
  ·intro i y hy j u hu
   have hi:=(List.getElem?_eq_some_iff.1 hy).1
   obtain⟨b,off,rfl⟩:=hspot (by omega)
   have hj:j<E.sz:=by have:=(List.getElem?_eq_some_iff.1 hu).1;rwa[E.len] at this
   have:=(hall i y hy).2 j hj
   rw[jbu,hu] at this
   simpa [adr] using this
  ·intro y hy
   obtain⟨i,hi⟩:=List.getElem?_of_mem hy
   exact(hall i y hi).1
  ·have:=hz _ (List.mem_cons_self ..)
   simp only[List.length_map,List.length_range] at this;refine Nat.le_trans (Nat.mul_le_mul_right _ ?_) this
   omega
section
variable {H : Type} {enc : TypeId × Value → H} {W : World}
theorem tn_in {fuel:Nat} {cs:List Value} {x:DataW H × List MemPlace} (hx:DataW.trod enc Tryz.prog W 0 (fun _=>true) true fuel 55 cs=some x) (hlen:cs.length=4): ∃ y:Tn,cs=tnE.enc y∧True:=by
 obtain⟨c0,c1,c2,c3,rfl⟩: ∃ c0 c1 c2 c3,cs=[c0,c1,c2,c3]:=by
  match cs,hlen with
  | [c0,c1,c2,c3],_=>grind
 obtain⟨xs,n,_,rfl,hl,hxl,hf⟩:=DataW.trod_struct Tryz.underlying55 hx
 have ki:(Tryz.prog).cellsOf 3=1:=by rfl
 match xs,hxl with
 | [y0,y1,y2,y3],_=>
  have h0:=hf 0 _ rfl
  have h1:=hf 1 _ rfl
  have h2:=hf 2 _ rfl
  have h3:=hf 3 _ rfl
  obtain⟨a0,e0,-,w0⟩:=DataW.trod_int Tryz.underlying3 (by simpa [ki] using h0)
  obtain⟨a1,e1,-,w1⟩:=DataW.trod_int Tryz.underlying3 (by simpa [ki] using h1)
  obtain⟨a2,e2,-,w2⟩:=DataW.trod_int Tryz.underlying3 (by simpa [ki] using h2)
  obtain⟨a3,e3,-,w3⟩:=DataW.trod_int Tryz.underlying3 (by simpa [ki] using h3)
  simp at e0 e1 e2 e3
  subst e0 e1 e2 e3;exact⟨⟨a0,a1,a2,a3⟩,rfl,trivial⟩
theorem jcO {base:Nat} {v:Value} {d:DataW H} {p:List MemPlace} (ho:Value.okWide Tryz.prog W .any base 25 v) (h:DataW.Trod enc Tryz.prog W 0 (fun _=>true) true 25 v d p) (hz: ∀ n∈d.weights Tryz.prog 25,n≤reachBytes):
  ∃ (c:Cfg) (vc vt:Value),v=jr c vc vt∧SlW W iE vc c.cl∧Jc W [] c vc vt∧vc.oneCell'=true:=by
 obtain⟨cs,rfl,hs⟩:=okWide_struct Tryz.underlying25 ho
 have k6:(Tryz.prog).cellsOf 25=6:=by rfl
 rw[k6] at hs
 obtain⟨fuel,hf⟩:=h
 obtain⟨c0,c1,c2,c3,c4,c5,hcs⟩: ∃ c0 c1 c2 c3 c4 c5,cs=[c0,c1,c2,c3,c4,c5].toArray:=by
  obtain⟨l⟩:=cs
  match l,hs with
  | [c0,c1,c2,c3,c4,c5],_=>grind
 subst hcs
 obtain⟨xs,n,_,hx,hl,hxl,hfl⟩:=DataW.trod_struct Tryz.underlying25 hf
 obtain⟨rfl,rfl⟩:=Prod.mk.inj hx
 have ks:(Tryz.prog).cellsOf 22=1:=by rfl
 have kt:(Tryz.prog).cellsOf 23=1:=by rfl
 have ki:(Tryz.prog).cellsOf 3=1:=by rfl
 have b1:(Tryz.prog).bytesOf 3=8:=by rfl
 have b2:(Tryz.prog).bytesOf 55=32:=by rfl
 match xs,hxl with
 | [y0,y1,y2,y3,y4,y5],_=>
  have h0:=hfl 0 _ rfl
  have h1:=hfl 1 _ rfl
  have h2:=hfl 2 _ rfl
  have h3:=hfl 3 _ rfl
  have h4:=hfl 4 _ rfl
  have h5:=hfl 5 _ rfl
  simp only[DataW.weights,Tryz.underlying25] at hz
  obtain⟨a0,n0,m0,ys,e0,hS,_,hb⟩:=jj5 (P:=Tryz.prog) (E:=iE) (x:=y0) Tryz.underlying22 (by kernel_rfl) (by decide) (by simpa [ks,Value.cells] using h0) (fun n hn=>hz n (DataW.weights_mem_each (j:=0) (t:=22) (d:=y0.1) rfl rfl n hn)) i64ok (fun fuel cs x hx _ hl=>int_in hx)
  obtain⟨a1,e1,-,w1⟩:=DataW.trod_int Tryz.underlying3 (by simpa [ki,Value.cells] using h1)
  obtain⟨a2,n2,m2,ts,e2,hT,_,hb2⟩:=jj5 (P:=Tryz.prog) (E:=tnE) (x:=y2) Tryz.underlying23 (by kernel_rfl) (by decide) (by simpa [kt,Value.cells] using h2) (fun n hn=>hz n (DataW.weights_mem_each (j:=2) (t:=23) (d:=y2.1) rfl rfl n hn)) (fun _=>True) (fun fuel cs x hx _ hl=>tn_in hx hl)
  obtain⟨a3,e3,-,w3⟩:=DataW.trod_int Tryz.underlying3 (by simpa [ki,Value.cells] using h3)
  obtain⟨a4,e4,-,w4⟩:=DataW.trod_int Tryz.underlying3 (by simpa [ki,Value.cells] using h4)
  obtain⟨a5,e5,-,w5⟩:=DataW.trod_int Tryz.underlying3 (by simpa [ki,Value.cells] using h5)
  simp[ki] at e0 e1 e2 e3 e4 e5
  subst e0 e1 e2 e3 e4 e5;rw[b1] at hb;rw[b2] at hb2;unfold reachBytes at hb hb2;exact⟨⟨ys,a1,ts,a3,a4,a5⟩,_,_,rfl,hS,⟨Sli.old hS,Sli.old hT,rfl,rfl,by show ys.length≤_;omega,by show ts.length≤_;omega⟩,rfl⟩
end
set_option maxRecDepth 100000
section
variable {H : Type} {enc : TypeId × Value → H} {W : World}
end
open Go.RowKit
set_option maxRecDepth 10000
section
variable {w0 : World} {A B H : jb} {r n : Nat} {v : Value} {l : List UInt8} {c : UInt8}
end
set_option maxRecDepth 10000
section
variable {w0 : World} {H : jb} {v : Value} {ls : List (List UInt8)} {t : Nat}
end
section
variable {w0 : World} {H : jb} {n k : Nat}
end
set_option maxRecDepth 10000
section
variable {w0 : World} {F : jb} {c : Cfg} {vc vt v u : Value} {l lm : List (List UInt8)}
end
open Go.RowKit
set_option maxRecDepth 10000
section
variable {w0 : World} {F : jb} {c : Cfg} {vc vt v u : Value} {l lm : List (List UInt8)}
end
set_option maxRecDepth 10000
section
variable {w0 : World} {F : jb} {c : Cfg} {vc vt v u : Value} {l lm : List (List UInt8)}
end
end Go.Proofs.YtebiafomiemgbaaGreatDoor.Sw
