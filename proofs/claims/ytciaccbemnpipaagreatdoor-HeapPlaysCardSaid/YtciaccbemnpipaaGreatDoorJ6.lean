/-The walker and contracts, part 6.-/
import Derived.RangeFuncLeaves
import Derived.Test.YtciaccbemnpipaaGreatDoorJ3
import Derived.Test.YtciaccbemnpipaaGreatDoorJ5
set_option linter.all false
namespace Go.Proofs.YtciaccbemnpipaaGreatDoor
open Go.RowKit
abbrev jb:=List (Nat × Obj)
structure HF (w0:World) (H:jb) (w:World):Prop where
 old:jN [] w0 w
 get: ∀ p,p∈H->w.heap[p.1]?=some p.2
 new: ∀ p,p∈H->w0.heap.size<=p.1
 nd:(H.map Prod.fst).Nodup
abbrev cells (l:List Value) (e:TypeId):Obj:= .cells l.toArray e (0,0)
inductive jx (c:Nat × Obj):jb->jb->Prop
 |head {F:jb}:jx c (c::F) F
 |tail {x:Nat × Obj} {H F:jb}:jx c H F->jx c (x::H) (x::F)
 |app {A H F:jb}:jx c H F->jx c (A++H) (A++F)
inductive jE (A:jb):jb->jb->Prop
 |head {F:jb}:jE A (A++F) F
 |tail {x:Nat × Obj} {H F:jb}:jE A H F->jE A (x::H) (x::F)
 |app {B H F:jb}:jE A H F->jE A (B++H) (B++F)
theorem jx.perm {c:Nat × Obj} {H F:jb} (h:jx c H F):H.Perm (c::F):=by
 induction h with
 |head=>exact .refl _
 |tail _ ih=>exact(ih.cons _).trans (.swap _ _ _)
 | @app A H F _ ih=>exact(ih.append_left A).trans List.perm_middle
theorem jE.perm {A H F:jb} (h:jE A H F):H.Perm (A++F):=by
 induction h with
 |head=>exact .refl _
 | @tail x H F _ ih=>exact(ih.cons x).trans List.perm_middle.symm
 | @app B H F _ ih=>
  refine(ih.append_left B).trans ?_
  rw[<-List.append_assoc,<-List.append_assoc]
  exact List.perm_append_comm.append_right F
inductive Part:jb->jb->Prop
 |all {H:jb}:Part H H
 |nil {H:jb}:Part H []
 |drop {x:Nat × Obj} {H H':jb}:Part H H'->Part (x::H) H'
 |dropA {A H H':jb}:Part H H'->Part (A++H) H'
 |take {c:Nat × Obj} {H F H':jb}:jx c H F->Part F H'->Part H (c::H')
 |takeA {A H F H':jb}:jE A H F->Part F H'->Part H (A++H')
section
variable {w0 w : World} {H F : jb}
theorem HF.perm {H':jb} (h:HF w0 H w) (hp:H.Perm H'):HF w0 H' w:=
 ⟨h.old,fun p hm=>h.get p (hp.mem_iff.2 hm),fun p hm=>h.new p (hp.mem_iff.2 hm),(hp.map Prod.fst).nodup_iff.1 h.nd⟩
theorem HF.tl {x:Nat × Obj} (h:HF w0 (x::H) w):HF w0 H w:=
 ⟨h.old,fun p hm=>h.get p (.tail _ hm),fun p hm=>h.new p (.tail _ hm),by have:=h.nd;simp only[List.map_cons,List.nodup_cons] at this;exact this.2⟩
theorem HF.take {c:Nat × Obj} (h:HF w0 H w) (ht:jx c H F):HF w0 (c::F) w:=h.perm ht.perm
theorem HF.takeL {A:jb} (h:HF w0 H w) (ht:jE A H F):HF w0 (A++F) w:=h.perm ht.perm
theorem Part.sub {H H':jb} (h:Part H H'): ∃ S:jb,H.Perm S/\H'.Sublist S:=by
 induction h with
 | @all H=>exact⟨H, .refl _, .refl _⟩
 | @nil H=>exact⟨H, .refl _,List.nil_sublist _⟩
 | @drop x H H' _ ih=>obtain⟨S,h1,h2⟩:=ih;exact⟨x::S,h1.cons x,h2.cons x⟩
 | @dropA A H H' _ ih=>obtain⟨S,h1,h2⟩:=ih;exact⟨A++S,h1.append_left A,h2.trans (List.sublist_append_right _ _)⟩
 | @take c H F H' ht _ ih=>obtain⟨S,h1,h2⟩:=ih;exact⟨c::S,ht.perm.trans (h1.cons c),h2.cons_cons c⟩
 | @takeA A H F H' ht _ ih=>obtain⟨S,h1,h2⟩:=ih;exact⟨A++S,ht.perm.trans (h1.append_left A),(List.append_sublist_append_left A).2 h2⟩
theorem HF.part {H':jb} (h:HF w0 H w) (hp:Part H H'):HF w0 H' w:=by
 obtain⟨S,h1,h2⟩:=hp.sub
 have hS:=h.perm h1
 exact⟨h.old,fun p hm=>hS.get p (h2.subset hm),fun p hm=>hS.new p (h2.subset hm),hS.nd.sublist (h2.map _)⟩
theorem HF.lt (h:HF w0 H w) {p:Nat × Obj} (hm:p∈H):p.1<w.heap.size:=(Array.getElem?_eq_some_iff.1 (h.get p hm)).1
theorem HF.alloc (h:HF w0 H w) (o:Obj):HF w0 ((w.heap.size,o)::H) (w.alloc o):=by
 refine⟨h.old.alloc o,?_,?_,?_⟩
 ·intro p hm
  rcases List.mem_cons.1 hm with rfl|hm
  ·exact World.alloc_heap_new w o
  ·exact(Below.heap_alloc _ _ _ (h.lt hm)).trans (h.get p hm)
 ·intro p hm
  rcases List.mem_cons.1 hm with rfl|hm
  ·exact h.old.size
  ·exact h.new p hm
 ·simp only[List.map_cons,List.nodup_cons]
  refine⟨?_,h.nd⟩
  intro hm
  obtain⟨q,hq,he⟩:=List.mem_map.1 hm
  have:=h.lt hq
  omega
theorem HF.drew (h:HF w0 H w):HF w0 H w.drew:=⟨h.old.drew,h.get,h.new,h.nd⟩
theorem HF.set {b:Nat} {o o':Obj} {w':World} (h:HF w0 ((b,o)::F) w) (ho:jN [b] w w') (hb:w'.heap[b]?=some o'):HF w0 ((b,o')::F) w':=by
 have hn:=h.nd
 simp only[List.map_cons,List.nodup_cons] at hn
 have hbn:w0.heap.size<=b:=h.new _ (.head _)
 refine⟨?_,?_,?_,?_⟩
 ·exact(h.old.to (S:=[b])).trans ho|>.strip (fun k hk=>by simp at hk;subst hk;exact .inr hbn)
 ·intro p hm
  rcases List.mem_cons.1 hm with rfl|hm
  ·exact hb
  ·have hne:p.1∉ [b]:=by
    intro he
    simp at he
    exact hn.1 (he▸List.mem_map_of_mem hm)
   exact(ho.block p.1 (h.lt (.tail _ hm)) hne).trans (h.get p (.tail _ hm))
 ·intro p hm
  rcases List.mem_cons.1 hm with rfl|hm
  ·exact hbn
  ·exact h.new p (.tail _ hm)
 ·simp only[List.map_cons,List.nodup_cons];exact hn
theorem HF.only {A A':jb} {S:List Nat} {w':World} (h:HF w0 (A++F) w) (ho:jN S w w') (hS: ∀ k,k∈S->k∈A.map Prod.fst)
  (hg: ∀ p,p∈A'->w'.heap[p.1]?=some p.2) (hn:(A'.map Prod.fst).Nodup) (hA: ∀ p,p∈A'->p.1∈A.map Prod.fst\/w.heap.size<=p.1):HF w0 (A'++F) w':=by
 have hnd:=h.nd
 rw[List.map_append,List.nodup_append] at hnd
 obtain⟨n1,n2,n3⟩:=hnd
 have newA: ∀ k,k∈A.map Prod.fst->w0.heap.size<=k:=by
  intro k hk
  obtain⟨q,hq,rfl⟩:=List.mem_map.1 hk
  exact h.new q (List.mem_append_left _ hq)
 refine⟨?_,?_,?_,?_⟩
 ·exact(h.old.to (S:=S)).trans ho|>.strip (fun k hk=> .inr (newA k (hS k hk)))
 ·intro p hm
  rcases List.mem_append.1 hm with hm|hm
  ·exact hg p hm
  ·have hne:p.1∉S:=fun he=>n3 p.1 (hS _ he) p.1 (List.mem_map_of_mem hm) rfl
   exact(ho.block p.1 (h.lt (List.mem_append_right _ hm)) hne).trans (h.get p (List.mem_append_right _ hm))
 ·intro p hm
  rcases List.mem_append.1 hm with hm|hm
  ·rcases hA p hm with hk|hk
   ·exact newA _ hk
   ·exact Nat.le_trans h.old.size hk
  ·exact h.new p (List.mem_append_right _ hm)
 ·rw[List.map_append,List.nodup_append]
  refine⟨hn,n2,?_⟩
  intro x hx y hy hxy
  subst hxy
  obtain⟨q,hq,rfl⟩:=List.mem_map.1 hx
  rcases hA q hq with hk|hk
  ·exact n3 _ hk _ hy rfl
  ·obtain⟨r,hr,he⟩:=List.mem_map.1 hy
   have:=h.lt (List.mem_append_right A hr)
   omega
theorem jkV (w:World) (b o:Nat) (v:Value):jN [b] w (w.setCell ⟨b,o,none⟩ v):=(jN.refl [b] w).setCell (p:=⟨b,o,none⟩) (by simp) v
theorem jlc (w:World) (b:Nat) (o:Obj):jN [b] w (w.putObj b o):=(jN.refl [b] w).putObj (by simp) o
theorem HF.setCell {b:Nat} {arr:Array Value} {e:TypeId} (h:HF w0 ((b, .cells arr e (0,0))::F) w) (o:Nat) (v:Value):
  HF w0 ((b, .cells (arr.setIfInBounds o v) e (0,0))::F) (w.setCell ⟨b,o,none⟩ v):=
 h.set (jkV w b o v) ((show Blk w b arr e from h.get _ (.head _)).set o v)
theorem HF.putObj {b:Nat} {o:Obj} (h:HF w0 ((b,o)::F) w) (o':Obj):HF w0 ((b,o')::F) (w.putObj b o'):=
 h.set (jlc w b o') (World.putObj_heap_same (h.lt (.head _)))
end
def j7 (w0:World) (H:jb) (p:Addr) (v:Value):Prop:= ∀ w,HF w0 H w->w.cell? p=some v
theorem j7.own {w0:World} {H F:jb} {b o:Nat} {arr:Array Value} {e:TypeId} {fr:Nat × Nat} {v:Value} (ht:jx (b, .cells arr e fr) H F) (hv:arr[o]?=some v):j7 w0 H ⟨b,o,none⟩ v:=by
 intro w h
 have:=(h.take ht).get _ (.head _)
 simp only[World.cell?,this]
 simpa using hv
theorem j7.old {w0:World} {H:jb} {p:Addr} {v:Value} (h0:w0.cell? p=some v):j7 w0 H p v:=by
 intro w h
 have hlt:p.block<w0.heap.size:=by
  rcases Nat.lt_or_ge p.block w0.heap.size with hl|hl
  ·exact hl
  ·unfold World.cell? at h0;rw [Array.getElem?_eq_none hl] at h0;cases h0
 have hb:=h.old.block p.block hlt (by simp)
 unfold World.cell? at h0|-
 rw[hb];exact h0
theorem j7.more {w0:World} {H H':jb} {p:Addr} {v:Value} (h:j7 w0 H' p v) (hp:Part H H'):j7 w0 H p v:=fun w hw=>h w (hw.part hp)
def FitK (n:Nat) (ds:List Deferred) (m:jo) (a:Act):Prop:=
 a.defers=ds/\a.tmps.size=n/\ ∀ t v,look m t=some v->a.tmps[t]?=some v
section
variable {n : Nat} {ds : List Deferred} {m : jo} {a : Act}
theorem FitK.eval (h:FitK n ds m a) {x:Operand} {v:Value} (hx:evO m x=some v):a.eval x=v:=by
 cases x with
 |tmp t=>
  have:=h.2.2 t v hx
  simp[Act.eval,Array.getD_eq_getD_getElem?,this]
 |const u=>simpa [evO,Act.eval] using hx
 |global g=>simpa [evO,Act.eval] using hx
 |func f=>simpa [evO,Act.eval] using hx
theorem FitK.evalS (h:FitK n ds m a) {x:Operand} (hx:cov m x=true):a.eval x=evS m x:=by
 unfold cov at hx
 obtain⟨v,hv⟩:=Option.isSome_iff_exists.1 hx
 rw[h.eval hv]
 simp[Proofs.YtciaccbemnpipaaGreatDoor.evS,hv]
theorem FitK.put (h:FitK n ds m a) {d:Nat} (hd:Nat.blt d n=true) (v:Value):FitK n ds ((d,v)::m) (a.put (some d) v):=by
 have hd':d<n:=Nat.le_of_ble_eq_true hd
 refine⟨h.1,by simp[Act.put,h.2.1],?_⟩
 intro t u ht
 simp only[look] at ht
 by_cases e:d=t
 ·subst e
  simp only[Nat.beq_refl,cond_true,Option.some.injEq] at ht
  subst ht
  simp only[Act.put]
  rw[Array.getElem?_setIfInBounds_self_of_lt (by rw[h.2.1];exact hd')]
 ·have:Nat.beq d t=false:=jdN e
  rw[this] at ht
  simp only[cond_false] at ht
  simp only[Act.put]
  rw[Array.getElem?_setIfInBounds_ne e]
  exact h.2.2 t u ht
theorem FitK.sub (h:FitK n ds m a) {m':jo} (hs:jbg m m'):FitK n ds m' a:=⟨h.1,h.2.1,fun t v ht=>h.2.2 t v (jf3 hs ht)⟩
theorem FitK.exec (h:FitK n ds m a) {o:Oper} (hc:jB m o.op=true):execOp a.eval o=execOp (evS m) o:=
 execOp_congr o (jev hc).1 fun x hx=>h.evalS ((jev hc).2 x hx)
theorem FitK.yielded (ha:FitK n ds m a) {ops:Array Oper} {g e:Nat} {t:Bool} (he:(ops[g]?).bind (·.dst)=some e) (hv:look m e=some (.bool t)):yielded ops a.tmps g=some t:=by
 unfold Go.yielded
 rw[he]
 simp[ha.2.2 e _ hv]
theorem FitK.yieldedU (ha:FitK n ds m a) {ops:Array Oper} {g e:Nat} (he:(ops[g]?).bind (·.dst)=some e) (hv:look m e=some undef):Go.yielded ops a.tmps g=none:=by
 unfold Go.yielded
 rw[he]
 simp[ha.2.2 e _ hv,undef]
end
inductive EvL (m:jo):List Operand->List Value->Prop
 |nil:EvL m [] []
 |cons {x:Operand} {v:Value} {xs:List Operand} {vs:List Value}:evO m x=some v->EvL m xs vs->EvL m (x::xs) (v::vs)
theorem EvL.map {m:jo} {xs:List Operand} {vs:List Value} (h:EvL m xs vs):xs.map (evS m)=vs:=by
 induction h with
 |nil=>rfl
 |cons hx _ ih=>simp[evS,hx] at ih|-;exact ih
theorem EvL.cov {m:jo} {xs:List Operand} {vs:List Value} (h:EvL m xs vs):xs.all (cov m)=true:=by
 induction h with
 |nil=>rfl
 |cons hx _ ih=>simp only[List.all_cons,ih,Bool.and_true];simp[Proofs.YtciaccbemnpipaaGreatDoor.cov,hx]
def fen (ro:Option Nat):Fence:={Fence.wide with round:=ro}
theorem jgq {ro:Option Nat} {k:Nat} {P:Program} {f:FuncId} {args:Array Value} {w:World} {R:Ending->World->Prop}:CallsIn (fen ro) k P f args w R↔Calls P f args w R:=
 (show CallsIn (fen ro) k P f args w R↔CallsIn Fence.wide k P f args w R from Iff.rfl).trans callsIn_wide
def jay (P:Program) (f:FuncId):Bool:=
 match P.funcs[f]? with
 | some fn => fn.body.isSome && fn.name != "runtime.NumGoroutine"
 |none=>false
theorem jfX {P:Program} {f:FuncId} (h:jay P f=true) (args:Array Value) (w:World):(callFunc f args).run P w= .ok (.enter f args) w:=by
 unfold jay at h
 cases hf:P.funcs[f]? with
 |none=>rw [hf] at h;cases h
 |some fn=>
  rw[hf] at h
  simp only[Bool.and_eq_true,bne_iff_ne,ne_eq] at h
  have h2:fn.body≠none:=by intro hb;simp[hb] at h
  simp[callFunc,program,Sem.run,Bind.bind,Sem.bind,hf,h.2,h2,Pure.pure]
def upI (P:Program) (K:Value->World->Prop):Result Next->Prop
 | .ok (.value v) w'=>K v w'
 | .ok .skip w'=>K undef w'
 | .ok (.enter f args) w'=>Calls P f args w' fun
   | .returned v,w''=>K v w''
   |_,_=>False
 | .ok (.row row args) w'=>RowsIn (fen none) 0 P row args w' K
 | .ok (.round l f tmps assign body) w'=>RoundIn (fen none) 0 P l f tmps assign body w' fun
   | .returned v,w''=>K v w''
   |_,_=>False
 |_=>False
theorem jds {P:Program} {ro:Option Nat} {o:Oper} {a:Act} {next:Act->World->Prop} {Q:Exit->Act->World->Prop} {r:Result Next}
  (h:upI P (fun v w'=>next (a.put o.dst v) w') r):o.uponIn (fen ro) 0 P a next Q r:=by
 cases r with
 |ok x w'=>
  cases x<;>simp only[upI,Oper.uponIn] at h|- <;>first|exact h|exact h.elim|skip
  ·exact⟨fun hh=>by simp[fen,Fence.wide] at hh,jgq.2 (Calls.mono h (fun e w'' he=>by cases e<;>first|exact he|exact he.elim))⟩
  ·exact⟨fun hh=>by simp[fen,Fence.wide] at hh,RoundIn.mono (show RoundIn (fen ro) 0 P _ _ _ _ _ _ _ from h) (fun e w'' he=>by cases e<;>first|exact he|exact he.elim)⟩
  ·exact⟨fun hh=>by simp[fen,Fence.wide] at hh,h⟩
 |halt x w'=>simp only[upI] at h
theorem upI.mono {P:Program} {K K':Value->World->Prop} {r:Result Next} (h:upI P K r) (hk: ∀ v w,K v w->K' v w):upI P K' r:=by
 cases r with
 |ok x w'=>
  cases x<;>simp only[upI] at h|- <;>first|exact hk _ _ h|exact h.elim|skip
  ·exact Calls.mono h (fun e w'' he=>by cases e<;>first|exact hk _ _ he|exact he.elim)
  ·exact RoundIn.mono h (fun e w'' he=>by cases e<;>first|exact hk _ _ he|exact he.elim)
  ·exact RowsIn.mono h (fun v w'' he=>hk _ _ he)
 |halt x w'=>simp only[upI] at h
abbrev Jc:=Value->jb->Prop
def jaa (w0:World) (R:Jc) (e:Ending) (w':World):Prop:= ∃ v H',e= .returned v/\HF w0 H' w'/\R v H'
structure Call (P:Program) (w0:World) (f:FuncId) (args:List Value) (H:jb) (R:Jc):Prop where
 ent:jay P f=true
 out: ∀ w,HF w0 H w->Calls P f args.toArray w (jaa w0 R)
def CallV (P:Program) (w0:World) (fv:Value) (args:List Value) (H:jb) (R:Jc):Prop:=
 ∀ w,HF w0 H w->upI P (fun v w'=> ∃ H',HF w0 H' w'/\R v H') ((do let d<-Deferred.ofValue fv args.toArray;invoke d.target d.args:Sem Next).run P w)
section
variable {P : Program} {w0 : World} {f : FuncId} {args : List Value} {H : jb} {R R' : Jc}
theorem Call.mono (h:Call P w0 f args H R) (hr: ∀ v H',R v H'->R' v H'):Call P w0 f args H R':=
 ⟨h.ent,fun w hw=>(h.out w hw).mono fun e w' ⟨v,H',he,hh,hR⟩=>⟨v,H',he,hh,hr _ _ hR⟩⟩
theorem Call.part {H':jb} (h:Call P w0 f args H' R) (hp:Part H H'):Call P w0 f args H R:=⟨h.ent,fun w hw=>h.out w (hw.part hp)⟩
theorem CallV.mono {fv:Value} (h:CallV P w0 fv args H R) (hr: ∀ v H',R v H'->R' v H'):CallV P w0 fv args H R':=
 fun w hw=>(h w hw).mono fun v w' ⟨H',hh,hR⟩=>⟨H',hh,hr _ _ hR⟩
theorem CallV.part {fv:Value} {H':jb} (h:CallV P w0 fv args H' R) (hp:Part H H'):CallV P w0 fv args H R:=fun w hw=>h w (hw.part hp)
theorem CallV.ofCall {first cap:List Value} (h:Call P w0 f (first++args++cap) H R):CallV P w0 (.func (.func f) first.toArray cap.toArray) args H R:=by
 intro w hw
 have e:((do let d<-Deferred.ofValue (.func (.func f) first.toArray cap.toArray) args.toArray;invoke d.target d.args:Sem Next).run P w)= .ok (.enter f (first++args++cap).toArray) w:=by
  have:=jfX h.ent (first++args++cap).toArray w
  simp only[Deferred.ofValue,invoke,Bind.bind,Sem.bind,Pure.pure,List.append_toArray]
  exact this
 rw[e]
 exact(h.out w hw).mono fun e w' ⟨v,H',he,hh,hR⟩=>by subst he;exact⟨H',hh,hR⟩
theorem CallV.fn (h:Call P w0 f args H R):CallV P w0 (.func (.func f) #[] #[]) args H R:=CallV.ofCall (first:=[]) (cap:=[]) (by simpa using h)
theorem CallV.clo {cap:List Value} (h:Call P w0 f (args++cap) H R):CallV P w0 (.func (.func f) #[] cap.toArray) args H R:=CallV.ofCall (first:=[]) (by simpa using h)
theorem CallV.bound {first:List Value} (h:Call P w0 f (first++args) H R):CallV P w0 (.func (.func f) first.toArray #[]) args H R:=CallV.ofCall (cap:=[]) (by simpa using h)
end
section
variable (P : Program) (w0 : World) (ro : Option Nat) (n : Nat)
structure K (c:Code) (Q:Exit->Act->World->Prop) (ds:List Deferred) (m:jo) (H:jb):Prop where
 out: ∀ a w,FitK n ds m a->HF w0 H w->c.wpIn (fen ro) 0 P Q a w
structure KE (e:Exit) (Q:Exit->Act->World->Prop) (ds:List Deferred) (m:jo) (H:jb):Prop where
 out: ∀ a w,FitK n ds m a->HF w0 H w->Q e a w
structure KL (ops:Array Oper) (l:List Oper) (Q:Exit->Act->World->Prop) (ds:List Deferred) (m:jo) (H:jb):Prop where
 out: ∀ a w,FitK n ds m a->HF w0 H w->wpListIn (fen ro) 0 P ops Q l a w
end
section
variable {P : Program} {w0 : World} {ro : Option Nat} {n : Nat} {Q : Exit -> Act -> World -> Prop} {ds : List Deferred} {m : jo} {H : jb}
theorem K.seq {x y:Code} (h:K P w0 ro n x (Exit.then (y.wpIn (fen ro) 0 P Q) Q) ds m H):K P w0 ro n (.seq x y) Q ds m H:=⟨fun a w ha hw=>wpIn_seq (h.out a w ha hw)⟩
theorem K.skip (h:KE w0 n .normal Q ds m H):K P w0 ro n .skip Q ds m H:=⟨fun a w ha hw=>wpIn_skip (h.out a w ha hw)⟩
theorem K.block {id:Nat} {c:Code} (h:K P w0 ro n c (Exit.inBlock id Q) ds m H):K P w0 ro n (.block id c) Q ds m H:=⟨fun a w ha hw=>wpIn_block (h.out a w ha hw)⟩
theorem K.exit {id:Nat} (h:KE w0 n (.exit id) Q ds m H):K P w0 ro n (.exit id) Q ds m H:=⟨fun a w ha hw=>wpIn_exit (h.out a w ha hw)⟩
theorem K.ret (h:KE w0 n .ret Q ds m H):K P w0 ro n .ret Q ds m H:=⟨fun a w ha hw=>wpIn_ret (h.out a w ha hw)⟩
theorem K.cond {c:Operand} {x y:Code} {t:Bool} (hc:evO m c=some (.bool t)) (ht:t=true->K P w0 ro n x Q ds m H) (hf:t=false->K P w0 ro n y Q ds m H):K P w0 ro n (.cond c x y) Q ds m H:=
 .mk fun a w ha hw=>wpIn_cond_split (ha.eval hc) (fun e=>(ht e).out a w ha hw) (fun e=>(hf e).out a w ha hw)
theorem K.ite {c:Operand} {x y:Code} {p:Prop} [Decidable p] (hc:evO m c=some (.bool (decide p))) (ht:p->K P w0 ro n x Q ds m H) (hf: ¬p->K P w0 ro n y Q ds m H):K P w0 ro n (.cond c x y) Q ds m H:=
 K.cond hc (fun h=>ht (of_decide_eq_true h)) (fun h=>hf (of_decide_eq_false h))
theorem K.condT {c:Operand} {x y:Code} (hc:evO m c=some (.bool true)) (h:K P w0 ro n x Q ds m H):K P w0 ro n (.cond c x y) Q ds m H:=K.cond hc (fun _=>h) (fun e=>by cases e)
theorem K.condF {c:Operand} {x y:Code} (hc:evO m c=some (.bool false)) (h:K P w0 ro n y Q ds m H):K P w0 ro n (.cond c x y) Q ds m H:=K.cond hc (fun e=>by cases e) (fun _=>h)
theorem K.condN {c:Operand} {x y:Code} {p:Prop} [Decidable p] (hc:evO m c=some (.bool (decide p))) (hp: ¬p) (h:K P w0 ro n y Q ds m H):K P w0 ro n (.cond c x y) Q ds m H:=K.ite hc (fun e=>absurd e hp) (fun _=>h)
theorem K.region {id:Nat} {l:List Oper} (h:KL P w0 ro n l.toArray l Q ds m H):K P w0 ro n (.region id l.toArray false) Q ds m H:=⟨fun a w ha hw=>wpIn_region_lit (h.out a w ha hw)⟩
theorem K.sub (m':jo) {c:Code} (hs:jbg m m') (h:K P w0 ro n c Q ds m' H):K P w0 ro n c Q ds m H:= .mk fun a w ha hw=>h.out a w (ha.sub hs) hw
theorem K.part (H':jb) {c:Code} (hp:Part H H') (h:K P w0 ro n c Q ds m H'):K P w0 ro n c Q ds m H:= .mk fun a w ha hw=>h.out a w ha (hw.part hp)
theorem KL.sub (m':jo) {ops:Array Oper} {l:List Oper} (hs:jbg m m') (h:KL P w0 ro n ops l Q ds m' H):KL P w0 ro n ops l Q ds m H:= .mk fun a w ha hw=>h.out a w (ha.sub hs) hw
theorem KL.part (H':jb) {ops:Array Oper} {l:List Oper} (hp:Part H H') (h:KL P w0 ro n ops l Q ds m H'):KL P w0 ro n ops l Q ds m H:= .mk fun a w ha hw=>h.out a w ha (hw.part hp)
theorem KE.sub (m':jo) {e:Exit} (hs:jbg m m') (h:KE w0 n e Q ds m' H):KE w0 n e Q ds m H:= .mk fun a w ha hw=>h.out a w (ha.sub hs) hw
theorem KE.part (H':jb) {e:Exit} (hp:Part H H') (h:KE w0 n e Q ds m H'):KE w0 n e Q ds m H:= .mk fun a w ha hw=>h.out a w ha (hw.part hp)
theorem K.mono {Q':Exit->Act->World->Prop} {c:Code} (h:K P w0 ro n c Q' ds m H) (hq: ∀ e a w,Q' e a w->Q e a w):K P w0 ro n c Q ds m H:= .mk fun a w ha hw=>wpIn_mono (h.out a w ha hw) hq
theorem KE.next {y:Code} (h:K P w0 ro n y Q ds m H):KE w0 n .normal (Exit.then (y.wpIn (fen ro) 0 P Q) Q) ds m H:=⟨fun a w ha hw=>h.out a w ha hw⟩
theorem KE.passX {id:Nat} {X:Act->World->Prop} (h:KE w0 n (.exit id) Q ds m H):KE w0 n (.exit id) (Exit.then X Q) ds m H:=⟨fun a w ha hw=>h.out a w ha hw⟩
theorem KE.passR {X:Act->World->Prop} (h:KE w0 n .ret Q ds m H):KE w0 n .ret (Exit.then X Q) ds m H:=⟨fun a w ha hw=>h.out a w ha hw⟩
theorem KE.blkN {id:Nat} (h:KE w0 n .normal Q ds m H):KE w0 n .normal (Exit.inBlock id Q) ds m H:=⟨fun a w ha hw=>h.out a w ha hw⟩
theorem KE.blkR {id:Nat} (h:KE w0 n .ret Q ds m H):KE w0 n .ret (Exit.inBlock id Q) ds m H:=⟨fun a w ha hw=>h.out a w ha hw⟩
theorem KE.blkX {id:Nat} (h:KE w0 n .normal Q ds m H):KE w0 n (.exit id) (Exit.inBlock id Q) ds m H:= .mk fun a w ha hw=>by simpa [Exit.inBlock] using h.out a w ha hw
theorem KE.blkO {id id':Nat} (hne:Nat.beq id' id=false) (h:KE w0 n (.exit id') Q ds m H):KE w0 n (.exit id') (Exit.inBlock id Q) ds m H:= .mk fun a w ha hw=>by
 have:id'≠id:=by intro e;subst e;simp at hne
 simpa [Exit.inBlock,this] using h.out a w ha hw
def jcS (m:jo):jo->Prop
 | []=>True
 |(k,v)::r=>(∃ u,look m k=some u/\u=v)/\jcS m r
theorem jer {m:jo}: ∀ {m':jo},jcS m m'->jbg m m'
 | [],_=>trivial
 |(_,_)::_,⟨⟨_,h1,h2⟩,h3⟩=>⟨h2▸h1,jer h3⟩
def jfG {σ:Type} (w0:World) (n:Nat) (ds:List Deferred) (M:σ->jo) (Hs:σ->jb) (I:σ->Prop) (a:Act) (w:World):Prop:= ∃ s,FitK n ds (M s) a/\HF w0 (Hs s) w/\I s
theorem K.cut {σ:Type} {x y:Code} (M:σ->jo) (Hs:σ->jb) (I:σ->Prop) (h1:K P w0 ro n x (Exit.then (jfG w0 n ds M Hs I) Q) ds m H) (h2: ∀ s,I s->K P w0 ro n y Q ds (M s) (Hs s)):K P w0 ro n (.seq x y) Q ds m H:=
 .mk fun a w ha hw=>wpIn_seq (wpIn_mono (h1.out a w ha hw) fun e a w q=>by
  cases e with
  |normal=>obtain⟨s,hf,hh,hi⟩:=q;exact(h2 s hi).out a w hf hh
  |_=>exact q)
theorem KE.meet {σ:Type} {M:σ->jo} {Hs:σ->jb} {I:σ->Prop} (s:σ) (hs:jcS m (M s)) (hp:Part H (Hs s)) (hi:I s):KE w0 n .normal (Exit.then (jfG w0 n ds M Hs I) Q) ds m H:=
 .mk fun a w ha hw=>⟨s,ha.sub (jer hs),hw.part hp,hi⟩
def RoundK {σ:Type} (w0:World) (n:Nat) (ds:List Deferred) (M:σ->jo) (Hs:σ->jb) (I:σ->Prop) (μ:σ->Nat) (k:Nat) (a:Act) (w:World):Prop:= ∃ s,FitK n ds (M s) a/\HF w0 (Hs s) w/\I s/\μ s<k
theorem K.loop {σ:Type} {c:Code} (M:σ->jo) (Hs:σ->jb) (I:σ->Prop) (μ:σ->Nat) (s0:σ) (hs:jcS m (M s0)) (hp:Part H (Hs s0)) (hi:I s0)
  (round: ∀ s,I s->K P w0 ro n c (Exit.then (RoundK w0 n ds M Hs I μ (μ s)) Q) ds (M s) (Hs s)):K P w0 ro n (.loop c) Q ds m H:=by
 refine .mk fun a w ha hw=>?_
 intro b k cs hro hb hr
 have key: ∀ j s a w,μ s=j->FitK n ds (M s) a->HF w0 (Hs s) w->I s->
   ∃ e a' w',Q e a' w'/\ArrivesIn (Machine.fenced P (fen ro)) P (lone (b.atR a (.code c:: .inLoop c::k)) cs w) b k cs e a' w':=by
  intro j
  induction j using Nat.strongRecOn with
  |_ j ih=>
   intro s a w hn hf hh hI
   obtain⟨e,a₁,w₁,hq,harr⟩:=(round s hI).out a w hf hh b (.inLoop c::k) cs hro hb hr
   cases e with
   |normal=>
    obtain⟨s',hf',hh',hI',hlt⟩:=hq
    obtain⟨e₂,a₂,w₂,hq₂,harr₂⟩:=ih (μ s') (hn▸hlt) s' a₁ w₁ rfl hf' hh' hI'
    exact⟨e₂,a₂,w₂,hq₂, .of_steps (StepsIn.trans harr (.one (fenced_calm hb hr rfl) stepR_inLoop)) harr₂⟩
   |exit id=>exact⟨_,a₁,w₁,hq, .pass (x:= .inLoop c) rfl (fun _ _=> .inl (by simp)) harr⟩
   |goto l=>exact⟨_,a₁,w₁,hq, .pass (x:= .inLoop c) rfl (fun _ _=> .inl (by simp)) harr⟩
   |ret=>exact⟨_,a₁,w₁,hq, .pass (x:= .inLoop c) rfl (fun _ _=> .inl (by simp)) harr⟩
   |panic ch=>exact⟨_,a₁,w₁,hq, .pass (x:= .inLoop c) rfl (fun _ _=> .inl (by simp)) harr⟩
   |outgrown=>exact⟨_,a₁,w₁,hq, .pass (x:= .inLoop c) rfl (fun _ _=> .inl (by simp)) harr⟩
 obtain⟨e,a',w',hq,harr⟩:=key _ s0 a w rfl (ha.sub (jer hs)) (hw.part hp) hi
 exact⟨e,a',w',hq, .of_steps (.one (fenced_calm hb hr rfl) stepR_loop) harr⟩
theorem KE.again {σ:Type} {M:σ->jo} {Hs:σ->jb} {I:σ->Prop} {μ:σ->Nat} {k:Nat} (s:σ) (hs:jcS m (M s)) (hp:Part H (Hs s)) (hi:I s) (hm:μ s<k):KE w0 n .normal (Exit.then (RoundK w0 n ds M Hs I μ k) Q) ds m H:=
 .mk fun a w ha hw=>⟨s,ha.sub (jer hs),hw.part hp,hi,hm⟩
variable {ops : Array Oper} {rest : List Oper} {op : Op} {ty : TypeId} {pos : String} {af : Array Edge}
theorem jhO {op:Op} (h:jB m op=true): ∀ c,op≠ .defer c:=by
 intro c e;subst e;simp[jB] at h
theorem KL.nil (h:KE w0 n .normal Q ds m H):KL P w0 ro n ops [] Q ds m H:= .mk fun a w ha hw=>h.out a w ha hw
theorem KL.step {d:Nat} (hd:Nat.blt d n=true) (hc:jB m op=true)
  (h: ∀ w,HF w0 H w->upI P (fun v w'=> ∃ H',HF w0 H' w'/\KL P w0 ro n ops rest Q ds ((d,v)::m) H') ((execOp (evS m) ⟨some d,op,ty,pos,af,none⟩).run P w)):
  KL P w0 ro n ops (⟨some d,op,ty,pos,af,none⟩::rest) Q ds m H:= .mk fun a w ha hw=>
 wpListIn_plain rfl fun Kf hK=>by
  unfold Oper.wpIn
  refine⟨fun _ _=>trivial,?_⟩
  rw[Oper.semAt_eq _ _ _ (jhO hc),ha.exec (o:=⟨some d,op,ty,pos,af,none⟩) hc]
  refine jds ((h w hw).mono ?_)
  rintro v w' ⟨H',hh,hj⟩
  exact hK _ _ (hj.out _ _ (ha.put hd v) hh)
theorem KL.stepN (hc:jB m op=true)
  (h: ∀ w,HF w0 H w->upI P (fun v w'=> ∃ H',HF w0 H' w'/\KL P w0 ro n ops rest Q ds m H') ((execOp (evS m) ⟨none,op,ty,pos,af,none⟩).run P w)):
  KL P w0 ro n ops (⟨none,op,ty,pos,af,none⟩::rest) Q ds m H:= .mk fun a w ha hw=>
 wpListIn_plain rfl fun Kf hK=>by
  unfold Oper.wpIn
  refine⟨fun _ _=>trivial,?_⟩
  rw[Oper.semAt_eq _ _ _ (jhO hc),ha.exec (o:=⟨none,op,ty,pos,af,none⟩) hc]
  refine jds ((h w hw).mono ?_)
  rintro v w' ⟨H',hh,hj⟩
  exact hK _ _ (hj.out _ _ ha hh)
theorem KL.skipG {d g e:Nat} {b:Bool} (he:(ops[g]?).bind (·.dst)=some e) (hv:look m e=some (.bool (!b))) (hd:Nat.blt d n=true)
  (h:KL P w0 ro n ops rest Q ds ((d,undef)::m) H):KL P w0 ro n ops (⟨some d,op,ty,pos,af,some (g,b)⟩::rest) Q ds m H:= .mk fun a w ha hw=>
 wpListIn_step fun Kf hK=>by
  have hw':Region.wanted (⟨some d,op,ty,pos,af,some (g,b)⟩:Oper) (Go.yielded ops a.tmps)=false:=by
   simp only[Region.wanted];rw [ha.yielded he hv];cases b<;>rfl
  rw[if_neg (by rw[hw'];simp)]
  exact⟨fun _ _=>trivial,hK _ _ (h.out _ _ (ha.put hd undef) hw)⟩
theorem KL.skipU {d g e:Nat} {b:Bool} (he:(ops[g]?).bind (·.dst)=some e) (hv:look m e=some undef) (hd:Nat.blt d n=true)
  (h:KL P w0 ro n ops rest Q ds ((d,undef)::m) H):KL P w0 ro n ops (⟨some d,op,ty,pos,af,some (g,b)⟩::rest) Q ds m H:= .mk fun a w ha hw=>
 wpListIn_step fun Kf hK=>by
  have hw':Region.wanted (⟨some d,op,ty,pos,af,some (g,b)⟩:Oper) (Go.yielded ops a.tmps)=false:=by
   simp only[Region.wanted];rw [ha.yieldedU he hv];rfl
  rw[if_neg (by rw[hw'];simp)]
  exact⟨fun _ _=>trivial,hK _ _ (h.out _ _ (ha.put hd undef) hw)⟩
theorem KL.val {d:Nat} {v:Value} (hd:Nat.blt d n=true) (hc:jB m op=true) (hv: ∀ w,HF w0 H w->(execOp (evS m) ⟨some d,op,ty,pos,af,none⟩).run P w= .ok (.value v) w)
  (h:KL P w0 ro n ops rest Q ds ((d,v)::m) H):KL P w0 ro n ops (⟨some d,op,ty,pos,af,none⟩::rest) Q ds m H:=
 KL.step hd hc fun w hw=>by rw[hv w hw];exact⟨H,hw,h⟩
theorem KL.call {d:Nat} {f:Operand} {as0:List Operand} {ts:Array TypeId} {fv:Value} {vs:List Value} {R:Jc} (hd:Nat.blt d n=true) (hf:evO m f=some fv) (ha:EvL m as0 vs)
  (hcall:CallV P w0 fv vs H R) (hk: ∀ v H',R v H'->KL P w0 ro n ops rest Q ds ((d,v)::m) H'):
  KL P w0 ro n ops (⟨some d, .call {callee:= .value f,args:=as0.toArray,argTypes:=ts},ty,pos,af,none⟩::rest) Q ds m H:=by
 refine KL.step hd (by simp only[jB,jbz,ha.cov,Bool.and_true];simp[cov,hf]) fun w hw=>?_
 have e:(execOp (evS m) ⟨some d, .call {callee:= .value f,args:=as0.toArray,argTypes:=ts},ty,pos,af,none⟩)=(do let d<-Deferred.ofValue fv vs.toArray;invoke d.target d.args:Sem Next):=by
  have e1:evS m f=fv:=by simp[evS,hf]
  simp only[execOp,resolve,List.map_toArray,ha.map,e1]
 rw[e]
 refine(hcall w hw).mono ?_
 rintro v w' ⟨H',hh,hR⟩
 exact⟨H',hh,hk _ _ hR⟩
