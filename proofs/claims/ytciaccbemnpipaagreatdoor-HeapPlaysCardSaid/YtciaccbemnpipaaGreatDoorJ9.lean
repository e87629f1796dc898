/-The walker and contracts, part 9.-/
import Derived.OrdersIn
import Derived.Test.YtciaccbemnpipaaGreatDoorJ7
set_option linter.all false
namespace Go.Proofs.YtciaccbemnpipaaGreatDoor
open Go.RowKit
section
variable {P : Program} {ro : Option Nat} {ops : Array Oper} {Q : Exit -> Act -> World -> Prop} {S : World -> Prop}
def GivesS (P:Program) (ops:Array Oper) (S:World->Prop) (o:Oper) (v:Value) (a:Act):Prop:=
 (Region.wanted o (yielded ops a.tmps)=true/\ ∀ w,S w->(execOp a.eval o).run P w= .ok (.value v) w)\/(Region.wanted o (yielded ops a.tmps)=false/\v=undef)
def jc4 (ops:Array Oper):Bool:=ops.toList.all fun o=>match o.op with| .defer _=>false| .select _ _=>false|_=>true
theorem jcC (h:jc4 ops=true) {i:Nat} {o:Oper} (hi:ops[i]?=some o):(∀ c,o.op≠ .defer c)/\ ∀ cs b,o.op≠ .select cs b:=by
 have hm:o∈ops.toList:=by
  obtain⟨h1,h2⟩:=Array.getElem?_eq_some_iff.1 hi
  rw[<-h2];simp
 have:=List.all_eq_true.1 h o hm
 constructor
 ·intro c e;rw [e] at this;cases this
 ·intro c b e;rw [e] at this;cases this
theorem GivesS.same {o:Oper} {v:Value} {a a':Act} (h:GivesS P ops S o v a) (he:execOp a'.eval o=execOp a.eval o) (hw:Region.wanted o (yielded ops a'.tmps)=Region.wanted o (yielded ops a.tmps)):GivesS P ops S o v a':=by
 unfold GivesS at*
 rw[he,hw];exact h
theorem GivesS.op {i:Nat} {o:Oper} {v:Value} {a:Act} (hpl:jc4 ops=true) (hi:ops[i]?=some o) (hy:GivesS P ops S o v a) {K:Act->World->Prop} {w:World} (hS:S w) (h:K (a.put o.dst v) w):wpOpIn (fen ro) 0 P ops Q i K a w:=by
 unfold wpOpIn
 simp only[hi]
 rcases hy with⟨hw,hv⟩|⟨hw,rfl⟩
 ·simp only[hw,if_true,Oper.wpIn]
  refine⟨fun _ _=>trivial,?_⟩
  rw[Oper.semAt_eq _ _ _ (jcC hpl hi).1,hv w hS]
  exact h
 ·simp only[hw,Bool.false_eq_true,if_false];exact⟨fun _ _=>trivial,h⟩
theorem op_putS {j i:Nat} {oi oj:Oper} {v:Value} (hpl:jc4 ops=true) (hi:ops[i]?=some oi) (hj:ops[j]?=some oj) (hap:oi.apart ops oj=true)
  (hQ: ∀ c a w,Q (.panic c) (a.put oi.dst v) w->Q (.panic c) a w) {K:Act->World->Prop} {a:Act} {w:World}
  (hy:GivesS P ops S oi v a) (h:wpOpIn (fen ro) 0 P ops Q j K (a.put oi.dst v) w):
  wpOpIn (fen ro) 0 P ops Q j (fun a' w'=>GivesS P ops S oi v a'/\K (a'.put oi.dst v) w') a w:=by
 obtain⟨h1,h2,h3⟩:=Oper.apart_spec hap
 have hsi:=(jcC hpl hi).2
 have hsj:=(jcC hpl hj).2
 have keep': ∀ a,GivesS P ops S oi v a-> ∀ u,GivesS P ops S oi v (a.put oj.dst u):=fun a hy u=>hy.same (execOp_put oi hsi a oj.dst u h3) (wanted_put oi a oj.dst u h3)
 have keep:=keep' a hy
 have hdj:=(jcC hpl hj).1
 unfold wpOpIn at*
 simp only[hj] at h|-
 rw[wanted_put oj a oi.dst v h1] at h
 split
 ·rename_i hw
  simp only[hw,if_true] at h
  unfold Oper.wpIn at*
  refine⟨fun _ _=>trivial,?_⟩
  have h:=h.2
  rw[Oper.semAt_eq _ _ _ hdj,execOp_put oj hsj a oi.dst v h1] at h
  rw[Oper.semAt_eq _ _ _ hdj]
  generalize hr:(execOp a.eval oj).run P w=r at*
  cases r with
  |ok x w'=>
   cases x<;>simp only[Oper.uponIn] at h|-
   case value u=>exact⟨keep u,by rw[<-Act.put_comm a v u h2];exact h⟩
   case skip=>exact⟨keep _,by rw[<-Act.put_comm a v undef h2];exact h⟩
   case defer d=>
    refine⟨keep' {a with defers:=d::a.defers} (hy.same rfl rfl) undef,?_⟩
    rw[<-Act.put_comm _ v undef h2,<-Act.put_defers]
    exact h
   case enter f args=>
    refine⟨h.1,CallsIn.mono h.2 fun e w'' he=>?_⟩
    cases e with
    |returned u=>exact⟨keep u,by rw[<-Act.put_comm a v u h2];exact he⟩
    |panicked c=>exact hQ _ _ _ he
    |outgrown=>exact he
   case row row args=>exact⟨h.1,RowsIn.mono h.2 fun u w'' he=>⟨keep u,by rw[<-Act.put_comm a v u h2];exact he⟩⟩
   case round l f tmps assign body=>
    refine⟨h.1,RoundIn.mono h.2 fun e w'' he=>?_⟩
    cases e with
    |returned u=>exact⟨keep u,by rw[<-Act.put_comm a v u h2];exact he⟩
    |panicked c=>exact hQ _ _ _ he
    |outgrown=>exact he
  |halt x w'=>
   cases x<;>simp only[Oper.uponIn] at h|-
   case panic u=>exact hQ _ _ _ h
 ·rename_i hw
  simp only[hw] at h
  exact⟨fun _ _=>trivial,keep _,by rw[<-Act.put_comm a v undef h2];exact h.2⟩
def jca (ops:Array Oper) (r:Nat):Nat->Nat->Bool
 |0,_=>false
 |f+1,j=>match ops[j]? with
  |some o=>o.after.toList.any fun e=>Region.binds .any e&&(Nat.beq e.on r||jca ops r f e.on)
  |none=>false
def Shut (ops:Array Oper) (listed:Array Bool):Prop:= ∀ j o,ops[j]?=some o->listed.getD j false=true-> ∀ e∈o.after,Region.binds .any e=true->listed.getD e.on false=true
theorem jgf {listed:Array Bool} (hs:Shut ops listed) {r:Nat}: ∀ (f j:Nat) (o:Oper),ops[j]?=some o->jca ops r f j=true->(∀ e∈o.after,Region.binds .any e=true->listed.getD e.on false=true)->listed.getD r false=true
 |0,_,_,_,h,_=>by cases h
 |f+1,j,o,hj,h,hall=>by
  simp only[jca,hj,List.any_eq_true,Bool.and_eq_true,Bool.or_eq_true] at h
  obtain⟨e,he,hb,h⟩:=h
  have he':e∈o.after:=by simpa using he
  have hd:=hall e he' hb
  rcases h with h|h
  ·rw[Nat.eq_of_beq_eq_true h] at hd;exact hd
  ·cases ho:ops[e.on]? with
   |none=>exfalso;cases f<;>simp[jca,ho] at h
   |some o'=>exact jgf hs f e.on o' ho h (hs e.on o' ho hd)
theorem jfH {listed:Array Bool} {i:Nat} (hi:i<listed.size) (k:Nat):(listed.setIfInBounds i true).getD k false=(decide (i=k)||listed.getD k false):=by
 simp only[Array.getD_eq_getD_getElem?,Array.getElem?_setIfInBounds]
 by_cases h:i=k
 ·subst h;simp[hi]
 ·simp[h]
theorem Shut.set {listed:Array Bool} (hs:Shut ops listed) {i:Nat} (hi:i∈Region.ready .any ops listed) (hsz:listed.size=ops.size):Shut ops (listed.setIfInBounds i true):=by
 obtain⟨h1,oi,hoi,hall⟩:=mem_ready.1 hi
 have hlt:i<listed.size:=by rw[hsz];exact(Array.getElem?_eq_some_iff.1 hoi).1
 have up: ∀ k,listed.getD k false=true->(listed.setIfInBounds i true).getD k false=true:=fun k hk=>by rw[jfH hlt,hk];simp
 intro j o hj hd e he hb
 rw[jfH hlt] at hd
 by_cases hij:i=j
 ·subst hij
  rw[hoi] at hj
  cases hj
  have:=hall e he hb
  exact up _ this
 ·simp only[hij,decide_false,Bool.false_or] at hd
  exact up _ (hs j o hj hd e he hb)
def anyG (P:Program) (ro:Option Nat) (ops:Array Oper) (acts:List Nat) (fr:Nat->Prop) (Q:Exit->Act->World->Prop) (L:World->Prop):Nat->(World->Prop)->Array Bool->Act->World->Prop
 |0,_,listed,a,w=>Region.ready .any ops listed=[]/\Q .normal a w
 |fuel+1,S,listed,a,w=>
  (Region.ready .any ops listed=[]->Q .normal a w)/\
  ∀ i∈Region.ready .any ops listed,wpOpIn (fen ro) 0 P ops Q i (fun a' w'=> ∃ S',(fr i\/((∀ u,S u->L u)-> ∀ u,S' u->L u))/\S' w'/\(i∈acts\/ ∀ u,S' u->S u)/\anyG P ro ops acts fr Q L fuel S' (listed.setIfInBounds i true) a' w') a w
theorem jj4 {acts:List Nat} {fr:Nat->Prop} {L:World->Prop}: ∀ (fuel:Nat) (S:World->Prop) (listed:Array Bool) (a:Act) (w:World),anyG P ro ops acts fr Q L fuel S listed a w->wpAnyIn (fen ro) 0 P .any ops Q fuel listed a w
 |0,_,_,_,_,h=>h
 |fuel+1,_,_,_,_,h=>⟨h.1,fun i hi=>wpOpIn_mono (fun a' w' ⟨_,_,_,_,h'⟩=>jj4 fuel _ _ a' w' h') (h.2 i hi)⟩
theorem jl7 {acts:List Nat} {fr:Nat->Prop} {L:World->Prop} {i:Nat} {oi:Oper} {v:Value} (hpl:jc4 ops=true) (hi:ops[i]?=some oi) (hia:i∉acts) (hQ: ∀ c a w,Q (.panic c) (a.put oi.dst v) w->Q (.panic c) a w) (fl:Bool) (hfr:fl=true-> ∀ j,fr j->jca ops i ops.size j=true):
  ∀ (fuel:Nat) (S:World->Prop) (listed:Array Bool) (a:Act) (w:World),listed.size=ops.size->Shut ops listed->
   (∀ j oj,ops[j]?=some oj->j≠i->listed.getD j true=false->(∀ e∈oj.after,Region.binds .any e=true->e.on≠i)->oi.apart ops oj=true)->
   i∈Region.ready .any ops listed->(fl=false-> ∀ k∈acts,listed.getD k false=false->jca ops i ops.size k=true)->
   GivesS P ops (bif fl then L else S) oi v a->S w->(fl=true-> ∀ u,S u->L u)->
   anyG P ro ops acts fr Q L fuel S (listed.setIfInBounds i true) (a.put oi.dst v) w->anyG P ro ops acts fr Q L (fuel+1) S listed a w:=by
 intro fuel
 induction fuel with
 |zero=>
  intro S listed a w hsz hsh _ hr hpre hy hS hL H
  refine⟨fun h=>(by rw[h] at hr;cases hr),fun j hj=>?_⟩
  by_cases hji:j=i
  ·subst hji;exact hy.op hpl hi (by cases fl;exact hS;exact hL rfl _ hS) ⟨S, .inr id,hS, .inr fun _ h=>h,H⟩
  ·have:=ready_mono hj hji
   rw[H.1] at this
   cases this
 |succ fuel ih=>
  intro S listed a w hsz hsh hfree hr hpre hy hS hL H
  refine⟨fun h=>(by rw[h] at hr;cases hr),fun j hj=>?_⟩
  by_cases hji:j=i
  ·subst hji;exact hy.op hpl hi (by cases fl;exact hS;exact hL rfl _ hS) ⟨S, .inr id,hS, .inr fun _ h=>h,H⟩
  ·have h1:=H.2 j (ready_mono hj hji)
   obtain⟨hjun,oj,hoj,hall⟩:=mem_ready.1 hj
   have hilt:i<listed.size:=by rw[hsz];exact(Array.getElem?_eq_some_iff.1 hi).1
   have hiun:listed.getD i false=false:=by
    have h0:=(mem_ready.1 hr).1
    simp[hilt] at h0|-
    exact h0
   have hnot: ∀ e∈oj.after,Region.binds .any e=true->e.on≠i:=fun e he hb heq=>by
    have h1:=hall e he hb
    rw[heq,hiun] at h1
    cases h1
   have h2:=op_putS hpl hi hoj (hfree j oj hoj hji hjun hnot) hQ hy h1
   have hfree': ∀ k ok,ops[k]?=some ok->k≠i->(listed.setIfInBounds j true).getD k true=false->
     (∀ e∈ok.after,Region.binds .any e=true->e.on≠i)->oi.apart ops ok=true:=fun k ok hk hki hun hno=>by
    refine hfree k ok hk hki ?_ hno
    by_cases hjk:j=k
    ·subst hjk;exact hjun
    ·rw[getD_set_ne true hjk] at hun;exact hun
   have hjlt:j<listed.size:=by rw[hsz];exact(Array.getElem?_eq_some_iff.1 hoj).1
   have hpre':fl=false-> ∀ k∈acts,(listed.setIfInBounds j true).getD k false=false->jca ops i ops.size k=true:=by
    intro hf k hk hun
    rw[jfH hjlt] at hun
    simp only[Bool.or_eq_false_iff] at hun
    exact hpre hf k hk hun.2
   have noact:fl=false->j∉acts:=by
    intro hf hja
    have hju:listed.getD j false=false:=by
     simp[hjlt] at hjun|-
     exact hjun
    have:=jgf hsh ops.size j oj hoj (hpre hf j hja hju) hall
    rw[hiun] at this
    cases this
   refine wpOpIn_mono (fun a' w' h3=>?_) h2
   obtain⟨hg,S',hL',hS',hact,hrest⟩:=h3
   have nofr:fl=true-> ¬fr j:=by
    intro hf hfj
    have:=jgf hsh ops.size j oj hoj (hfr hf j hfj) hall
    rw[hiun] at this
    cases this
   have hL2:fl=true-> ∀ u,S' u->L u:=by
    intro hf
    rcases hL' with h|h
    ·exact absurd h (nofr hf)
    ·exact h (hL hf)
   refine⟨S',hL',hS',hact,ih S' (listed.setIfInBounds j true) a' w' (by simpa using hsz) (hsh.set hj hsz) hfree' (ready_mono hr (Ne.symm hji)) hpre' ?_ hS' hL2 ?_⟩
   ·cases fl with
    |true=>exact hg
    |false=>
     rcases hact with hact|hact
     ·exact absurd hact (noact rfl)
     ·rcases hg with⟨h1,h2⟩|h
      ·exact .inl ⟨h1,fun u hu=>h2 u (hact u hu)⟩
      ·exact .inr h
   ·rw[Array.setIfInBounds_comm _ _ hji]
    exact hrest
end
def lst (n:Nat) (ord:List Nat):Array Bool:=((List.range n).map fun i=>!(ord.any fun j=>Nat.beq j i)).toArray
theorem jfl (n:Nat) (ord:List Nat) (k:Nat):(lst n ord)[k]?=if k<n then some (!(ord.any fun j=>Nat.beq j k)) else none:=by
 simp only[lst,List.getElem?_toArray,List.getElem?_map]
 split<;>simp_all
theorem jdI {n i:Nat} {ord:List Nat} (hi:i<n) (hn:(ord.any fun j=>Nat.beq j i)=false):(lst n (i::ord)).setIfInBounds i true=lst n ord:=by
 apply Array.ext_getElem?
 intro k
 rw[Array.getElem?_setIfInBounds]
 have hs:(lst n (i::ord)).size=n:=by simp[lst]
 by_cases hk:i=k
 ·subst hk
  rw[if_pos rfl,hs,if_pos hi,jfl,if_pos hi,hn];rfl
 ·rw[if_neg hk,jfl,jfl]
  have:Nat.beq i k=false:=jdN hk
  simp[this]
abbrev Ord:=List (Nat × Nat)
def isA (k:Nat):Bool:=Nat.ble 2 k&&!(Nat.beq k 5)
def jI (ord:Ord):List Nat:=ord.map Prod.fst
def jac:Ord->List Nat
 | []=> []
 |(i,k)::rest=>bif isA k then i::jac rest else jac rest
def hasR (ord:Ord):Bool:=ord.any fun p=>Nat.beq p.2 1
def frB (ops:Array Oper) (ord:Ord):Bool:=ord.all fun p=>!(Nat.beq p.2 4)||ord.all fun q=>!(Nat.beq q.2 1)||jca ops q.1 ops.size p.1
def okB (ops:Array Oper):Ord->Bool
 | []=>(Region.ready .any ops (lst ops.size [])).isEmpty
 |(i,k)::rest=>Nat.beq k 3||(
  decide (i<ops.size)&&!((jI rest).any fun j=>Nat.beq j i)&&
  (bif Nat.ble 2 k then decide (Region.ready .any ops (lst ops.size (i::jI rest))=[i])
   else Region.free .any ops (lst ops.size (i::jI rest)) i&&(Region.ready .any ops (lst ops.size (i::jI rest))).contains i&&(Nat.beq k 1||(jac rest).all fun j=>jca ops i ops.size j))&&(!(Nat.beq k 4)||!(hasR rest))&&okB ops rest)
def NoP (Q:Exit->Act->World->Prop):Exit->Act->World->Prop
 | .panic _,_,_=>False
 |e,a,w=>Q e a w
structure KD (P:Program) (w0:World) (ro:Option Nat) (n:Nat) (ops:Array Oper) (R:jb) (ord:Ord) (Q:Exit->Act->World->Prop) (ds:List Deferred) (m:jo) (H:jb):Prop where
 out: ∀ acts (fr:Nat->Prop),(∀ j,j∈acts->j∈jac ord\/(j<ops.size/\(jI ord).any (fun k=>Nat.beq k j)=false))->(∀ j,j∈jac ord->j∈acts)->
  (∀ j,(j,4)∈ord->fr j)->(∀ j,fr j-> ∀ r,(r,1)∈ord->jca ops r ops.size j=true)->
  jc4 ops=true->okB ops ord=true->Shut ops (lst ops.size (jI ord))->(hasR ord=true-> ∀ u,HF w0 H u->HF w0 R u)->
  ∀ a w,FitK n ds m a->HF w0 H w->anyG P ro ops acts fr (NoP Q) (HF w0 R) ord.length (HF w0 H) (lst ops.size (jI ord)) a w
section
variable {P : Program} {w0 : World} {ro : Option Nat} {n : Nat} {Q : Exit -> Act -> World -> Prop} {ds : List Deferred} {m : jo} {H R : jb} {ops : Array Oper} {ord : Ord}
variable {op : Op} {ty : TypeId} {pos : String} {af : Array Edge}
theorem jkS {c:Code} {a:Act} {w:World} (h:c.wpIn (fen ro) 0 P (NoP Q) a w):c.wpIn (fen ro) 0 P Q a w:=
 wpIn_mono h fun e a w q=>by cases e<;>first|exact q|exact q.elim
theorem K.drawn (R:jb) (ord:Ord) {id:Nat} {l:List Oper} (hm:P.follows .mixedOrders=true) (hpl:jc4 l.toArray=true) (hok:okB l.toArray ord=true) (hn:ord.length=l.length)
  (h0:lst l.toArray.size (jI ord)=Array.replicate l.toArray.size false) (hfr:frB l.toArray ord=true) (hp:Part H R) (h:KD P w0 ro n l.toArray R ord Q ds m H):K P w0 ro n (.region id l.toArray true) Q ds m H:=by
 refine .mk fun a w ha hw=>jkS (wpIn_region_any hm ?_)
 have hsh:Shut l.toArray (lst l.toArray.size (jI ord)):=by
  rw[h0]
  intro j o hj hd
  simp only[Array.getD_eq_getD_getElem?,Array.getElem?_replicate] at hd
  split at hd<;>cases hd
 have:=jj4 _ _ _ _ _ (h.out (jac ord) (fun j=>(j,4)∈ord) (fun j hj=> .inl hj) (fun j hj=>hj) (fun j hj=>hj) (fun j hj r hr=>by
  have h1:=List.all_eq_true.1 hfr _ hj
  simp only[Nat.beq_refl,Bool.not_true,Bool.false_or] at h1
  have h2:=List.all_eq_true.1 h1 _ hr
  simpa using h2) hpl hok hsh (fun _ u hu=>hu.part hp) a w.drew ha hw.drew)
 rw[h0,hn] at this
 exact this
theorem KD.nil (h:KE w0 n .normal Q ds m H):KD P w0 ro n ops R [] Q ds m H:=
 .mk fun acts fr _ _ _ _ _ hok _ _ a w ha hw=>⟨by simpa [okB,jI] using hok,h.out a w ha hw⟩
theorem KD.sub (m':jo) (hs:jbg m m') (h:KD P w0 ro n ops R ord Q ds m' H):KD P w0 ro n ops R ord Q ds m H:= .mk fun ac fr h0 h1 h6 h7 h2 h3 h4 h5 a w ha hw=>h.out ac fr h0 h1 h6 h7 h2 h3 h4 h5 a w (ha.sub hs) hw
theorem jdX {i k N:Nat} {acts:List Nat} (h0: ∀ j,j∈acts->j∈jac ((i,k)::ord)\/(j<N/\(jI ((i,k)::ord)).any (fun x=>Nat.beq x j)=false)) (h1: ∀ j,j∈jac ((i,k)::ord)->j∈acts) (hiN:i<N) (hni:(jI ord).any (fun j=>Nat.beq j i)=false):
  (∀ j,j∈acts->j∈jac ord\/(j<N/\(jI ord).any (fun x=>Nat.beq x j)=false))/\(∀ j,j∈jac ord->j∈acts):=by
 constructor
 ·intro j hj
  rcases h0 j hj with h|h
  ·unfold jac at h
   cases hk:isA k with
   |true=>
    rw[hk] at h
    rcases List.mem_cons.1 h with rfl|h
    ·exact .inr ⟨hiN,hni⟩
    ·exact .inl h
   |false=>rw [hk] at h;exact .inl h
  ·simp only[jI,List.map_cons,List.any_cons,Bool.or_eq_false_iff] at h
   exact .inr ⟨h.1,h.2.2⟩
 ·intro j hj
  refine h1 j ?_
  unfold jac
  cases isA k with
  |true=>exact .tail _ hj
  |false=>exact hj
theorem jd3 {i:Nat} {rest:List Nat} (hsh:Shut ops (lst ops.size (i::rest))) (hr:i∈Region.ready .any ops (lst ops.size (i::rest))) (hi:i<ops.size) (hn:(rest.any fun j=>Nat.beq j i)=false):Shut ops (lst ops.size rest):=by
 have:=hsh.set hr (by simp[lst])
 rwa[jdI hi hn] at this
theorem KD.reads {i k:Nat} {o:Oper} {v:Value} {m':jo} (hi:ops[i]?=some o) (hk:Nat.ble 2 k=false) (hy: ∀ a,FitK n ds m a->GivesS P ops (bif Nat.beq k 1 then HF w0 R else HF w0 H) o v a) (hf: ∀ a,FitK n ds m a->FitK n ds m' (a.put o.dst v))
  (h:KD P w0 ro n ops R ord Q ds m' H):KD P w0 ro n ops R ((i,k)::ord) Q ds m H:=by
 refine .mk fun acts fr ha0 ha1 hf4 hf1 hpl hok hsh hHR a w ha hw=>?_
 have hk01:k=0\/k=1:=by
  rcases Nat.lt_or_ge k 2 with h|h
  ·omega
  ·rw[Nat.ble_eq_true_of_le h] at hk;cases hk
 have hkA:isA k=false:=by rcases hk01 with rfl|rfl<;>rfl
 have hk3:Nat.beq k 3=false:=by rcases hk01 with rfl|rfl<;>rfl
 have hk4:Nat.beq k 4=false:=by rcases hk01 with rfl|rfl<;>rfl
 simp only[okB,hk,hk3,hk4,Bool.not_false,Bool.true_or,Bool.and_true,Bool.false_or,cond_false,Bool.and_eq_true,decide_eq_true_eq,Bool.not_eq_true'] at hok
 obtain⟨⟨⟨h1,h2⟩,⟨h3,h4⟩,h6⟩,h5⟩:=hok
 have hrd:i∈Region.ready .any ops (lst ops.size (i::jI ord)):=by simpa using h4
 obtain⟨hb0,hb1⟩:=jdX ha0 ha1 h1 h2
 have hia:i∉acts:=by
  intro hm
  rcases ha0 i hm with h|h
  ·unfold jac at h
   rw[hkA] at h
   have: ∀ (o:Ord) (j:Nat),j∈jac o->(jI o).any (fun x=>Nat.beq x j)=true:=by
    intro o
    induction o with
    |nil=>intro j hj;cases hj
    |cons p o ih=>
     intro j hj
     obtain⟨q,r⟩:=p
     simp only[jI,List.map_cons,List.any_cons,Bool.or_eq_true]
     unfold jac at hj
     cases hr:isA r with
     |true=>
      rw[hr] at hj
      rcases List.mem_cons.1 hj with rfl|hj
      ·exact .inl (Nat.beq_refl _)
      ·exact .inr (ih j hj)
     |false=>rw [hr] at hj;exact .inr (ih j hj)
   have:=this _ _ h
   rw[h2] at this;cases this
  ·simp[jI] at h
 have hR1:Nat.beq k 1=true->hasR ((i,k)::ord)=true:=fun h=>by simp[hasR,h]
 have hR2:hasR ord=true->hasR ((i,k)::ord)=true:=fun h=>by
  unfold hasR at h|-
  rw[List.any_cons,h,Bool.or_true]
 refine jl7 hpl hi hia (fun c a w hq=>hq) (Nat.beq k 1) (fun hk1 j hj=>hf1 j hj i (by rw[Nat.eq_of_beq_eq_true hk1];exact .head _)) ord.length _ _ a w (by simp[lst]) hsh (Region.free_spec hi h3) hrd ?_ (hy a ha) hw (fun hk1=>hHR (hR1 hk1)) ?_
 ·intro hk1 j hj hun
  rw[hk1,Bool.false_or] at h6
  rcases ha0 j hj with h|h
  ·unfold jac at h
   rw[hkA] at h
   exact List.all_eq_true.1 h6 j h
  ·exfalso
   simp only[Array.getD_eq_getD_getElem?,jfl,h.1,if_true,Option.getD_some] at hun
   rw[h.2] at hun
   cases hun
 ·show anyG _ _ _ _ _ _ _ _ _ ((lst ops.size (i::jI ord)).setIfInBounds i true) _ _
  rw[jdI h1 h2]
  exact h.out acts fr hb0 hb1 (fun j hj=>hf4 j (.tail _ hj)) (fun j hj r hr=>hf1 j hj r (.tail _ hr)) hpl h5 (jd3 hsh hrd h1 h2) (fun hh=>hHR (hR2 hh)) _ w (hf a ha) hw
theorem KD.acts {i:Nat} {o:Oper} (hi:ops[i]?=some o)
  (h: ∀ a w,FitK n ds m a->HF w0 H w->Region.wanted o (yielded ops a.tmps)=true/\upI P (fun v w'=> ∃ m' H',FitK n ds m' (a.put o.dst v)/\HF w0 H' w'/\Part H' R/\KD P w0 ro n ops R ord Q ds m' H') ((execOp a.eval o).run P w)):
  KD P w0 ro n ops R ((i,2)::ord) Q ds m H:=by
 refine .mk fun acts fr ha0 ha1 hf4 hf1 hpl hok hsh hHR a w ha hw=>?_
 simp only[okB,show Nat.ble 2 2=true from rfl,show Nat.beq 2 3=false from rfl,show Nat.beq 2 4=false from rfl,Bool.not_false,Bool.true_or,Bool.and_true,Bool.false_or,cond_true,Bool.and_eq_true,decide_eq_true_eq,Bool.not_eq_true'] at hok
 obtain⟨⟨⟨h1,h2⟩,h3⟩,h5⟩:=hok
 have hrd:i∈Region.ready .any ops (lst ops.size (i::jI ord)):=by rw[h3];simp
 obtain⟨hb0,hb1⟩:=jdX ha0 ha1 h1 h2
 refine⟨fun h0=>(by rw[show jI ((i,2)::ord)=i::jI ord from rfl,h3] at h0;cases h0),fun j hj=>?_⟩
 rw[show jI ((i,2)::ord)=i::jI ord from rfl,h3] at hj
 have:j=i:=by simpa using hj
 subst this
 obtain⟨hwa,hup⟩:=h a w ha hw
 unfold wpOpIn
 simp only[hi,hwa,if_true]
 unfold Oper.wpIn
 refine⟨fun _ _=>trivial,?_⟩
 rw[Oper.semAt_eq _ _ _ (jcC hpl hi).1]
 refine jds (hup.mono ?_)
 rintro v w' ⟨m',H',hf',hh',hp',hk⟩
 refine⟨HF w0 H', .inr fun _ u hu=>hu.part hp',hh', .inl (ha1 j (by show j∈j::jac ord;exact .head _)),?_⟩
 rw[show jI ((j,2)::ord)=j::jI ord from rfl,jdI h1 h2]
 exact hk.out acts fr hb0 hb1 (fun x hx=>hf4 x (.tail _ hx)) (fun x hx r hr=>hf1 x hx r (.tail _ hr)) hpl h5 (jd3 hsh hrd h1 h2) (fun _ u hu=>hu.part hp') _ w' hf' hh'
theorem KD.actsX {i:Nat} {o:Oper} (hi:ops[i]?=some o)
  (h: ∀ a w,FitK n ds m a->HF w0 H w->Region.wanted o (yielded ops a.tmps)=true/\upI P (fun v w'=> ∃ m' H',FitK n ds m' (a.put o.dst v)/\HF w0 H' w'/\KD P w0 ro n ops R ord Q ds m' H') ((execOp a.eval o).run P w)):
  KD P w0 ro n ops R ((i,4)::ord) Q ds m H:=by
 refine .mk fun acts fr ha0 ha1 hf4 hf1 hpl hok hsh hHR a w ha hw=>?_
 simp only[okB,show Nat.ble 2 4=true from rfl,show Nat.beq 4 3=false from rfl,show Nat.beq 4 4=true from rfl,Bool.not_true,Bool.false_or,cond_true,Bool.and_eq_true,decide_eq_true_eq,Bool.not_eq_true'] at hok
 obtain⟨⟨⟨⟨h1,h2⟩,h3⟩,h7⟩,h5⟩:=hok
 have hrd:i∈Region.ready .any ops (lst ops.size (i::jI ord)):=by rw[h3];simp
 obtain⟨hb0,hb1⟩:=jdX ha0 ha1 h1 h2
 refine⟨fun h0=>(by rw[show jI ((i,4)::ord)=i::jI ord from rfl,h3] at h0;cases h0),fun j hj=>?_⟩
 rw[show jI ((i,4)::ord)=i::jI ord from rfl,h3] at hj
 have:j=i:=by simpa using hj
 subst this
 obtain⟨hwa,hup⟩:=h a w ha hw
 unfold wpOpIn
 simp only[hi,hwa,if_true]
 unfold Oper.wpIn
 refine⟨fun _ _=>trivial,?_⟩
 rw[Oper.semAt_eq _ _ _ (jcC hpl hi).1]
 refine jds (hup.mono ?_)
 rintro v w' ⟨m',H',hf',hh',hk⟩
 refine⟨HF w0 H', .inl (hf4 j (.head _)),hh', .inl (ha1 j (by show j∈j::jac ord;exact .head _)),?_⟩
 rw[show jI ((j,4)::ord)=j::jI ord from rfl,jdI h1 h2]
 exact hk.out acts fr hb0 hb1 (fun x hx=>hf4 x (.tail _ hx)) (fun x hx r hr=>hf1 x hx r (.tail _ hr)) hpl h5 (jd3 hsh hrd h1 h2) (fun hh=>by rw[h7] at hh;cases hh) _ w' hf' hh'
theorem KD.makes {i:Nat} {o:Oper} (hi:ops[i]?=some o)
  (h: ∀ a w,FitK n ds m a->HF w0 H w->Region.wanted o (yielded ops a.tmps)=true/\upI P (fun v w'=> ∃ m' H',FitK n ds m' (a.put o.dst v)/\HF w0 H' w'/\Part H' H/\KD P w0 ro n ops R ord Q ds m' H') ((execOp a.eval o).run P w)):
  KD P w0 ro n ops R ((i,5)::ord) Q ds m H:=by
 refine .mk fun acts fr ha0 ha1 hf4 hf1 hpl hok hsh hHR a w ha hw=>?_
 simp only[okB,show Nat.ble 2 5=true from rfl,show Nat.beq 5 3=false from rfl,show Nat.beq 5 4=false from rfl,Bool.not_false,Bool.true_or,Bool.and_true,Bool.false_or,cond_true,Bool.and_eq_true,decide_eq_true_eq,Bool.not_eq_true'] at hok
 obtain⟨⟨⟨h1,h2⟩,h3⟩,h5⟩:=hok
 have hrd:i∈Region.ready .any ops (lst ops.size (i::jI ord)):=by rw[h3];simp
 obtain⟨hb0,hb1⟩:=jdX ha0 ha1 h1 h2
 refine⟨fun h0=>(by rw[show jI ((i,5)::ord)=i::jI ord from rfl,h3] at h0;cases h0),fun j hj=>?_⟩
 rw[show jI ((i,5)::ord)=i::jI ord from rfl,h3] at hj
 have:j=i:=by simpa using hj
 subst this
 obtain⟨hwa,hup⟩:=h a w ha hw
 unfold wpOpIn
 simp only[hi,hwa,if_true]
 unfold Oper.wpIn
 refine⟨fun _ _=>trivial,?_⟩
 rw[Oper.semAt_eq _ _ _ (jcC hpl hi).1]
 refine jds (hup.mono ?_)
 rintro v w' ⟨m',H',hf',hh',hp',hk⟩
 refine⟨HF w0 H', .inr fun hl u hu=>hl u (hu.part hp'),hh', .inr fun u hu=>hu.part hp',?_⟩
 rw[show jI ((j,5)::ord)=j::jI ord from rfl,jdI h1 h2]
 exact hk.out acts fr hb0 hb1 (fun x hx=>hf4 x (.tail _ hx)) (fun x hx r hr=>hf1 x hx r (.tail _ hr)) hpl h5 (jd3 hsh hrd h1 h2) (fun hh u hu=>hHR (by
  unfold hasR at hh|-
  rw[List.any_cons,hh,Bool.or_true]) u (hu.part hp')) _ w' hf' hh'
theorem KD.skips {i:Nat} {o:Oper} {m':jo} (hi:ops[i]?=some o) (hy: ∀ a,FitK n ds m a->Region.wanted o (yielded ops a.tmps)=false) (hf: ∀ a,FitK n ds m a->FitK n ds m' (a.put o.dst undef))
  (h:KD P w0 ro n ops R ord Q ds m' H):KD P w0 ro n ops R ((i,2)::ord) Q ds m H:=by
 refine .mk fun acts fr ha0 ha1 hf4 hf1 hpl hok hsh hHR a w ha hw=>?_
 simp only[okB,show Nat.ble 2 2=true from rfl,show Nat.beq 2 3=false from rfl,show Nat.beq 2 4=false from rfl,Bool.not_false,Bool.true_or,Bool.and_true,Bool.false_or,cond_true,Bool.and_eq_true,decide_eq_true_eq,Bool.not_eq_true'] at hok
 obtain⟨⟨⟨h1,h2⟩,h3⟩,h5⟩:=hok
 have hrd:i∈Region.ready .any ops (lst ops.size (i::jI ord)):=by rw[h3];simp
 obtain⟨hb0,hb1⟩:=jdX ha0 ha1 h1 h2
 refine⟨fun h0=>(by rw[show jI ((i,2)::ord)=i::jI ord from rfl,h3] at h0;cases h0),fun j hj=>?_⟩
 rw[show jI ((i,2)::ord)=i::jI ord from rfl,h3] at hj
 have:j=i:=by simpa using hj
 subst this
 unfold wpOpIn
 simp only[hi,hy a ha,Bool.false_eq_true,if_false]
 refine⟨fun _ _=>trivial,HF w0 H, .inr id,hw, .inr fun _ h=>h,?_⟩
 rw[show jI ((j,2)::ord)=j::jI ord from rfl,jdI h1 h2]
 exact h.out acts fr hb0 hb1 (fun x hx=>hf4 x (.tail _ hx)) (fun x hx r hr=>hf1 x hx r (.tail _ hr)) hpl h5 (jd3 hsh hrd h1 h2) (fun hh=>hHR (by
  unfold hasR at hh|-
  rw[List.any_cons,hh,Bool.or_true])) _ w (hf a ha) hw
def jR (P:Program) (w0:World) (ro:Option Nat) (n:Nat) (ops:Array Oper) (R:jb) (ord:Ord) (Q:Exit->Act->World->Prop) (ds:List Deferred) (m:jo) (H:jb) (o:Oper):Prop:=
 ∀ a w,FitK n ds m a->HF w0 H w->Region.wanted o (yielded ops a.tmps)=true/\upI P (fun v w'=> ∃ m' H',FitK n ds m' (a.put o.dst v)/\HF w0 H' w'/\Part H' R/\KD P w0 ro n ops R ord Q ds m' H') ((execOp a.eval o).run P w)
def jdk (ops:Array Oper) (ord0:Ord) (x:Nat) (o1:Ord):Bool:=
 okB ops o1&&decide (lst ops.size (jI o1)=(lst ops.size (jI ord0)).setIfInBounds x true)&&Nat.beq (o1.length+1) ord0.length&&(jac ord0).contains x&&
 (jac o1).all (fun y=>(jac ord0).contains y)&&(jac ord0).all (fun y=>(jac o1).contains y||(Nat.blt y ops.size&&!(jI o1).any (fun k=>Nat.beq k y)))&&(jI o1).all (fun y=>(jI ord0).any (fun k=>Nat.beq k y))&&o1.all (fun p=>(!(Nat.beq p.2 1)&&!(Nat.beq p.2 4))||ord0.contains p)
theorem KD.forks {i:Nat} (rs:List Nat) (hr:Region.ready .any ops (lst ops.size (jI ((i,3)::ord)))=rs) (hne:rs≠ [])
  (h: ∀ x,x∈rs-> ∃ o ord',ops[x]?=some o/\jdk ops ((i,3)::ord) x ord'=true/\jR P w0 ro n ops R ord' Q ds m H o):
  KD P w0 ro n ops R ((i,3)::ord) Q ds m H:=by
 refine .mk fun acts fr ha0 ha1 hf4 hf1 hpl hok hsh hHR a w ha hw=>?_
 refine⟨fun h0=>absurd (hr.symm.trans h0) hne,fun x hx=>?_⟩
 rw[hr] at hx
 obtain⟨o,ord',hi,hf,hact⟩:=h x hx
 have hrd:x∈Region.ready .any ops (lst ops.size (jI ((i,3)::ord))):=by rw[hr];exact hx
 simp only[jdk,Bool.and_eq_true,decide_eq_true_eq,List.all_eq_true,Bool.or_eq_true,Bool.not_eq_true',List.contains_iff_mem] at hf
 obtain⟨⟨⟨⟨⟨⟨⟨h1,h2⟩,h3⟩,h4⟩,h5⟩,h6⟩,h7⟩,h8⟩:=hf
 obtain⟨hwa,hup⟩:=hact a w ha hw
 unfold wpOpIn
 simp only[hi,hwa,if_true]
 unfold Oper.wpIn
 refine⟨fun _ _=>trivial,?_⟩
 rw[Oper.semAt_eq _ _ _ (jcC hpl hi).1]
 refine jds (hup.mono ?_)
 rintro v w' ⟨m',H',hf',hh',hp',hk⟩
 refine⟨HF w0 H', .inr fun _ u hu=>hu.part hp',hh', .inl (ha1 x h4),?_⟩
 rw[<-h2]
 have hlen:ord'.length=ord.length:=by
  have:=Nat.eq_of_beq_eq_true h3
  simp only[List.length_cons] at this
  omega
 have hsh':Shut ops (lst ops.size (jI ord')):=by rw[h2];exact hsh.set hrd (by simp[lst])
 have sub1: ∀ j,(j,4)∈ord'->(j,4)∈(i,3)::ord:=fun j hj=>by
  rcases h8 _ hj with h|h
  ·simp at h
  ·exact h
 have sub2: ∀ j,(j,1)∈ord'->(j,1)∈(i,3)::ord:=fun j hj=>by
  rcases h8 _ hj with h|h
  ·simp at h
  ·exact h
 have:=hk.out acts fr ?_ ?_ (fun j hj=>hf4 j (sub1 j hj)) (fun j hj r hr=>hf1 j hj r (sub2 r hr)) hpl h1 hsh' (fun _ u hu=>hu.part hp') _ w' hf' hh'
 ·rw[hlen] at this
  exact this
 ·intro j hj
  rcases ha0 j hj with hj|hj
  ·rcases h6 j hj with hj|hj
   ·exact .inl hj
   ·exact .inr ⟨Nat.le_of_ble_eq_true hj.1,hj.2⟩
  ·refine .inr ⟨hj.1,?_⟩
   cases hc:(jI ord').any (fun x=>Nat.beq x j) with
   |false=>rfl
   |true=>
    exfalso
    obtain⟨y,hy,he⟩:=List.any_eq_true.1 hc
    have:y=j:=Nat.eq_of_beq_eq_true he
    subst this
    have:=h7 y hy
    rw[hj.2] at this
    cases this
 ·exact fun j hj=>ha1 j (h5 j hj)
theorem KD.fork2 {i x y:Nat} {ox oy:Oper} {o1 o2:Ord} (hr:Region.ready .any ops (lst ops.size (jI ((i,3)::ord)))=[x,y]) (hx:ops[x]?=some ox) (hy:ops[y]?=some oy)
  (f1:jdk ops ((i,3)::ord) x o1=true) (f2:jdk ops ((i,3)::ord) y o2=true) (h1:jR P w0 ro n ops R o1 Q ds m H ox) (h2:jR P w0 ro n ops R o2 Q ds m H oy):KD P w0 ro n ops R ((i,3)::ord) Q ds m H:=
 KD.forks [x,y] hr (by simp) fun z hz=>by
  rcases List.mem_cons.1 hz with rfl|hz
  ·exact⟨ox,o1,hx,f1,h1⟩
  ·have:z=y:=by simpa using hz
   subst this;exact⟨oy,o2,hy,f2,h2⟩
