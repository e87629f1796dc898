/-The walker and contracts, part 5.-/
import Derived.Deep.Quiet
import Derived.StillTailTactics
import Derived.Deep.LoopGhost
import Derived.Lib.Hide
import Derived.Test.YtciaccbemnpipaaGreatDoorJ2
set_option linter.all false
namespace Go.Proofs.YtciaccbemnpipaaGreatDoor
open Go.RowKit
theorem jdN {k t:Nat} (h:k≠t):Nat.beq k t=false:=by
 cases e:Nat.beq k t with
 |false=>rfl
 |true=>exact absurd (Nat.eq_of_beq_eq_true e) h
abbrev jo:=List (Nat × Value)
def look:jo->Nat->Option Value
 | [],_=>none
 |(k,v)::m,t=>bif Nat.beq k t then some v else look m t
def Fits (n:Nat) (m:jo) (a:Act):Prop:=
 a.defers=[]/\a.tmps.size=n/\ ∀ t v,look m t=some v->a.tmps[t]?=some v
def evO (m:jo):Operand->Option Value
 | .tmp t=>look m t
 | .const v=>some v
 | .global g=>some (.pointer (some ⟨g,0,none⟩))
 | .func f=>some (.func (.func f) #[] #[])
def evS (m:jo) (x:Operand):Value:=(evO m x).getD undef
def cov (m:jo) (x:Operand):Bool:=(evO m x).isSome
theorem Fits.eval {n:Nat} {m:jo} {a:Act} (h:Fits n m a) {x:Operand} {v:Value} (hx:evO m x=some v):a.eval x=v:=by
 cases x with
 |tmp t=>
  have:=h.2.2 t v hx
  simp[Act.eval,Array.getD_eq_getD_getElem?,this]
 |const u=>simpa [evO,Act.eval] using hx
 |global g=>simpa [evO,Act.eval] using hx
 |func f=>simpa [evO,Act.eval] using hx
theorem Fits.evalS {n:Nat} {m:jo} {a:Act} (h:Fits n m a) {x:Operand} (hx:cov m x=true):a.eval x=evS m x:=by
 unfold cov at hx
 obtain⟨v,hv⟩:=Option.isSome_iff_exists.1 hx
 rw[h.eval hv]
 simp[Proofs.YtciaccbemnpipaaGreatDoor.evS,hv]
theorem Fits.put {n:Nat} {m:jo} {a:Act} (h:Fits n m a) {d:Nat} (hd:Nat.blt d n=true) (v:Value):Fits n ((d,v)::m) (a.put (some d) v):=by
 have hd':d<n:=Nat.le_of_ble_eq_true hd
 refine⟨h.1,by simp[Act.put,h.2.1],?_⟩
 intro t u ht
 simp only[look] at ht
 by_cases e:d=t
 ·subst e
  simp only[Nat.beq_refl,cond_true,Option.some.injEq] at ht
  subst ht
  simp only[Act.put]
  rw[Array.getElem?_setIfInBounds_self_of_lt (by rw[h.2.1];exact hd')]
 ·have:Nat.beq d t=false:=jdN e
  rw[this] at ht
  simp only[cond_false] at ht
  simp only[Act.put]
  rw[Array.getElem?_setIfInBounds_ne e]
  exact h.2.2 t u ht
def jbg (m:jo):jo->Prop
 | []=>True
 |(k,v)::r=>look m k=some v/\jbg m r
theorem jf3 {m:jo}: ∀ {m':jo},jbg m m'-> ∀ {t v},look m' t=some v->look m t=some v
 | [],_,t,v,h=>by simp[look] at h
 |(k,u)::r,hs,t,v,h=>by
  simp only[look] at h
  by_cases e:k=t
  ·subst e
   simp only[Nat.beq_refl,cond_true,Option.some.injEq] at h
   subst h
   exact hs.1
  ·have:Nat.beq k t=false:=jdN e
   rw[this] at h
   exact jf3 hs.2 h
theorem Fits.sub {n:Nat} {m m':jo} {a:Act} (h:Fits n m a) (hs:jbg m m'):Fits n m' a:=
 ⟨h.1,h.2.1,fun t v ht=>h.2.2 t v (jf3 hs ht)⟩
@[go_sem] theorem evS_const (m:jo) (v:Value):evS m (.const v)=v:=rfl
@[go_sem] theorem evS_global (m:jo) (g:Nat):evS m (.global g)= .pointer (some ⟨g,0,none⟩):=rfl
@[go_sem] theorem evS_func (m:jo) (f:FuncId):evS m (.func f)= .func (.func f) #[] #[]:=rfl
@[go_sem ↓] theorem evS_hit (m:jo) (t:Nat) (v:Value):evS ((t,v)::m) (.tmp t)=v:=by simp[evS,evO,look]
@[go_sem ↓] theorem evS_miss (m:jo) (k t:Nat) (v:Value) (h:k≠t):evS ((k,v)::m) (.tmp t)=evS m (.tmp t):=by
 have:=jdN h
 simp[evS,evO,look,this]
def jbz (m:jo) (c:Call):Bool:=
 (match c.callee with| .value f=>cov m f| .invoke r _=>cov m r| .builtin _=>true)&&c.args.toList.all (cov m)
def jb8 (m:jo):Option Operand->Bool
 |none=>true
 |some x=>cov m x
def jB (m:jo):Op->Bool
 | .alloc _| .ready _| .waits _=>true
 | .move x| .assign x| .box _ x| .load _ x| .nilCheck x| .unOp _ _ x| .convert _ _ x| .sliceToArrayPointer _ x| .makeInterface _ x
 | .makeChan _ x| .fieldAddr _ x _| .field _ x _| .range _ x| .next x _| .entry x| .typeAssert x _ _ _| .extract x _| .panic x| .recv _ x _=>cov m x
 | .pick c a b=>cov m c&&cov m a&&cov m b
 | .build _ ps| .buildSlice _ _ ps=>ps.toList.all fun p=>cov m p.2
 | .store _ a v| .binOp _ _ a v _| .makeSlice _ a v| .indexAddr _ a v| .index _ a v| .lookup _ a v _| .mapEntry _ a v| .send a v=>cov m a&&cov m v
 | .makeFunc _ first captured=>first.toList.all (cov m)&&captured.toList.all (cov m)
 | .makeMap _ r=>jb8 m r
 | .slice _ x l h mx=>cov m x&&jb8 m l&&jb8 m h&&jb8 m mx
 | .mapUpdate _ a k v| .entryStore _ a k v| .insert _ a k v=>cov m a&&cov m k&&cov m v
 | .call c=>jbz m c
 |_=>false
theorem jev {m:jo} {op:Op} (h:jB m op=true):(∀ cs b,op≠ .select cs b)/\ ∀ x∈op.operands,cov m x=true:=by
 constructor
 ·intro cs b e;subst e;simp[jB] at h
 ·intro x hx
  cases op<;>simp only[jB,Bool.and_eq_true,List.all_eq_true,Bool.false_eq_true] at h<;>simp only[Op.operands] at hx
  case call c=>
   unfold jbz at h
   simp only[Bool.and_eq_true,List.all_eq_true] at h
   unfold Call.operands at hx
   rcases Array.mem_append.1 hx with hx|hx
   ·cases hc:c.callee<;>rw [hc] at hx h<;>simp at hx h
    ·subst hx;exact h.1
    ·subst hx;exact h.1
   ·exact h.2 x (by simpa using hx)
  case makeMap t r=>cases r<;>simp[jb8] at hx h;subst hx;exact h
  case slice t y lo hi mx=>
   cases lo<;>cases hi<;>cases mx<;>simp[jb8] at hx h<;>(repeat' (first|(rcases hx with hx|hx)|subst hx))<;>simp[h]
  case build t ps=>
   simp at hx
   obtain⟨i,hi⟩:=hx
   exact h _ (by simpa using hi)
  case buildSlice t k ps=>
   simp at hx
   obtain⟨i,hi⟩:=hx
   exact h _ (by simpa using hi)
  case makeFunc f a b=>
   rcases Array.mem_append.1 hx with hx|hx
   ·exact h.1 x (by simpa using hx)
   ·exact h.2 x (by simpa using hx)
  all_goals first
   |(simp at hx;done)
   |(simp at hx;subst hx;exact h)
   |(simp at hx;rcases hx with rfl|rfl;exact h.1;exact h.2)
   |(simp at hx;rcases hx with rfl|rfl|rfl;exact h.1.1;exact h.1.2;exact h.2)
theorem Fits.exec {n:Nat} {m:jo} {a:Act} (h:Fits n m a) {o:Oper} (hc:jB m o.op=true):execOp a.eval o=execOp (evS m) o:=
 execOp_congr o (jev hc).1 fun x hx=>h.evalS ((jev hc).2 x hx)
def upV (P:Program) (K:Value->World->Prop):Result Next->Prop
 | .ok (.value v) w'=>K v w'
 | .ok .skip w'=>K undef w'
 | .ok (.enter f args) w'=>Calls P f args w' fun
   | .returned v,w''=>K v w''
   |_,_=>False
 | .ok (.row row args) w'=>Rows P row args w' K
 |_=>False
section
variable (P : Program) (K : Value -> World -> Prop) (w : World)
@[go_sem] theorem upV_value (v:Value):upV P K (.ok (.value v) w)=K v w:=rfl
@[go_sem] theorem upV_skip:upV P K (.ok .skip w)=K undef w:=rfl
@[go_sem] theorem upV_enter (f:FuncId) (args:Array Value):upV P K (.ok (.enter f args) w)=Calls P f args w fun
  | .returned v,w''=>K v w''
  |_,_=>False:=rfl
@[go_sem] theorem upV_row (row:String) (args:Array Value):upV P K (.ok (.row row args) w)=Rows P row args w K:=rfl
end
theorem jih {P:Program} {o:Oper} {a:Act} {next:Act->World->Prop} {Q:Exit->Act->World->Prop} {r:Result Next}
  (h:upV P (fun v w'=>next (a.put o.dst v) w') r):o.upon P a next Q r:=by
 cases r with
 |ok x w'=>
  cases x<;>simp only[upV,Oper.upon] at h|- <;>first|exact h|exact h.elim|skip
  exact Calls.mono h (fun e w'' he=>by cases e<;>first|exact he|exact he.elim)
 |halt x w'=>simp only[upV] at h
section
variable (P : Program) (n : Nat)
structure J (c:Code) (Q:Exit->Act->World->Prop) (m:jo) (w:World):Prop where
 out: ∀ a,Fits n m a->c.wp P Q a w
structure JE (e:Exit) (Q:Exit->Act->World->Prop) (m:jo) (w:World):Prop where
 out: ∀ a,Fits n m a->Q e a w
structure JL (ops:Array Oper) (l:List Oper) (Q:Exit->Act->World->Prop) (m:jo) (w:World):Prop where
 out: ∀ a,Fits n m a->wpList P ops Q l a w
end
section
variable {P : Program} {n : Nat} {Q : Exit -> Act -> World -> Prop} {m : jo} {w : World}
theorem J.seq {x y:Code} (h:J P n x (Exit.then (y.wp P Q) Q) m w):J P n (.seq x y) Q m w:=⟨fun a ha=>wp_seq (h.out a ha)⟩
theorem J.skip (h:JE n .normal Q m w):J P n .skip Q m w:=⟨fun a ha=>wp_skip (h.out a ha)⟩
theorem J.block {id:Nat} {c:Code} (h:J P n c (Exit.inBlock id Q) m w):J P n (.block id c) Q m w:=⟨fun a ha=>wp_block (h.out a ha)⟩
theorem J.exit {id:Nat} (h:JE n (.exit id) Q m w):J P n (.exit id) Q m w:=⟨fun a ha=>wp_exit (h.out a ha)⟩
theorem J.ret (h:JE n .ret Q m w):J P n .ret Q m w:=⟨fun a ha=>wp_ret (h.out a ha)⟩
theorem J.cond {c:Operand} {x y:Code} {t:Bool} (hc:evO m c=some (.bool t)) (ht:t=true->J P n x Q m w) (hf:t=false->J P n y Q m w):J P n (.cond c x y) Q m w:=
 .mk fun a ha=>wp_cond_split (ha.eval hc) (fun e=>(ht e).out a ha) (fun e=>(hf e).out a ha)
theorem J.condT {c:Operand} {x y:Code} (hc:evO m c=some (.bool true)) (ht:J P n x Q m w):J P n (.cond c x y) Q m w:=
 .mk fun a ha=>wp_cond_true (ha.eval hc) (ht.out a ha)
theorem J.condF {c:Operand} {x y:Code} (hc:evO m c=some (.bool false)) (hf:J P n y Q m w):J P n (.cond c x y) Q m w:=
 .mk fun a ha=>wp_cond_false (ha.eval hc) (hf.out a ha)
theorem J.region {id:Nat} {l:List Oper} (h:JL P n l.toArray l Q m w):J P n (.region id l.toArray false) Q m w:=⟨fun a ha=>wp_region_lit (h.out a ha)⟩
theorem J.sub (m':jo) {c:Code} (hs:jbg m m') (h:J P n c Q m' w):J P n c Q m w:= .mk fun a ha=>h.out a (ha.sub hs)
theorem JE.next {y:Code} (h:J P n y Q m w):JE n .normal (Exit.then (y.wp P Q) Q) m w:=⟨fun a ha=>h.out a ha⟩
theorem JE.passX {id:Nat} {X:Act->World->Prop} (h:JE n (.exit id) Q m w):JE n (.exit id) (Exit.then X Q) m w:=⟨fun a ha=>h.out a ha⟩
theorem JE.passR {X:Act->World->Prop} (h:JE n .ret Q m w):JE n .ret (Exit.then X Q) m w:=⟨fun a ha=>h.out a ha⟩
theorem JE.blkN {id:Nat} (h:JE n .normal Q m w):JE n .normal (Exit.inBlock id Q) m w:=⟨fun a ha=>h.out a ha⟩
theorem JE.blkR {id:Nat} (h:JE n .ret Q m w):JE n .ret (Exit.inBlock id Q) m w:=⟨fun a ha=>h.out a ha⟩
theorem JE.blkX {id:Nat} (h:JE n .normal Q m w):JE n (.exit id) (Exit.inBlock id Q) m w:= .mk fun a ha=>by simpa [Exit.inBlock] using h.out a ha
theorem JE.blkO {id id':Nat} (hne:Nat.beq id' id=false) (h:JE n (.exit id') Q m w):JE n (.exit id') (Exit.inBlock id Q) m w:= .mk fun a ha=>by
 have:id'≠id:=by intro e;subst e;simp at hne
 simpa [Exit.inBlock,this] using h.out a ha
theorem JE.sub (m':jo) {x:Exit} (hs:jbg m m') (h:JE n x Q m' w):JE n x Q m w:= .mk fun a ha=>h.out a (ha.sub hs)
theorem J.call {c c':Code} (e:c=c') (h:J P n c Q m w):J P n c' Q m w:=e▸h
def Meets {σ:Type} (n:Nat) (M:σ->jo) (I:σ->World->Prop) (a:Act) (w:World):Prop:= ∃ s,Fits n (M s) a/\I s w
theorem J.cut {σ:Type} {x y:Code} (M:σ->jo) (I:σ->World->Prop) (h1:J P n x (Exit.then (Meets n M I) Q) m w) (h2: ∀ s w,I s w->J P n y Q (M s) w):J P n (.seq x y) Q m w:=
 .mk fun a ha=>wp_seq (wp_mono (h1.out a ha) fun e a w q=>by
  cases e with
  |normal=>obtain⟨s,hf,hi⟩:=q;exact(h2 s w hi).out a hf
  |_=>exact q)
theorem JE.meet {σ:Type} {M:σ->jo} {I:σ->World->Prop} (s:σ) (hs:jbg m (M s)) (hi:I s w):JE n .normal (Exit.then (Meets n M I) Q) m w:=
 .mk fun a ha=>⟨s,ha.sub hs,hi⟩
def Round {σ:Type} (n:Nat) (M:σ->jo) (I:σ->World->Prop) (μ:σ->Nat) (k:Nat) (a:Act) (w:World):Prop:= ∃ s,Fits n (M s) a/\I s w/\μ s<k
theorem J.loop {σ:Type} {c:Code} (M:σ->jo) (I:σ->World->Prop) (μ:σ->Nat) (s0:σ) (hs:jbg m (M s0)) (hi:I s0 w)
  (round: ∀ s w,I s w->J P n c (Exit.then (Round n M I μ (μ s)) Q) (M s) w):J P n (.loop c) Q m w:=by
 refine .mk fun a ha=>?_
 refine wp_loop_ghost (fun k a w=> ∃ s,μ s=k/\Fits n (M s) a/\I s w) (μ s0) ⟨s0,rfl,ha.sub hs,hi⟩ ?_
 rintro k a w ⟨s,rfl,hf,hI⟩
 refine wp_mono ((round s w hI).out a hf) ?_
 intro e a' w' hq
 cases e with
 |normal=>obtain⟨s',hf',hI',hlt⟩:=hq;exact⟨μ s',hlt,s',rfl,hf',hI'⟩
 |_=>exact hq
theorem JE.again {σ:Type} {M:σ->jo} {I:σ->World->Prop} {μ:σ->Nat} {k:Nat} (s:σ) (hs:jbg m (M s)) (hi:I s w) (hm:μ s<k):JE n .normal (Exit.then (Round n M I μ k) Q) m w:=
 .mk fun a ha=>⟨s,ha.sub hs,hi,hm⟩
variable {ops : Array Oper} {rest : List Oper} {op : Op} {ty : TypeId} {pos : String} {af : Array Edge}
theorem JL.nil (h:JE n .normal Q m w):JL P n ops [] Q m w:= .mk fun a ha=>wpList_nil (h.out a ha)
theorem JL.put {d:Nat} (hd:Nat.blt d n=true) (hc:jB m op=true)
  (h: ∀ K:Value->World->Prop,(∀ v w',JL P n ops rest Q ((d,v)::m) w'->K v w')->upV P K ((execOp (evS m) ⟨some d,op,ty,pos,af,none⟩).run P w)):
  JL P n ops (⟨some d,op,ty,pos,af,none⟩::rest) Q m w:= .mk fun a ha=>
 wpList_plain rfl fun K hK=>by
  unfold Oper.wp
  rw[ha.exec (o:=⟨some d,op,ty,pos,af,none⟩) hc]
  refine jih ?_
  exact h _ fun v w' hj=>hK _ _ (hj.out _ (ha.put hd v))
theorem JL.no (hc:jB m op=true)
  (h: ∀ K:Value->World->Prop,(∀ v w',JL P n ops rest Q m w'->K v w')->upV P K ((execOp (evS m) ⟨none,op,ty,pos,af,none⟩).run P w)):
  JL P n ops (⟨none,op,ty,pos,af,none⟩::rest) Q m w:= .mk fun a ha=>
 wpList_plain rfl fun K hK=>by
  unfold Oper.wp
  rw[ha.exec (o:=⟨none,op,ty,pos,af,none⟩) hc]
  refine jih ?_
  exact h _ fun v w' hj=>hK _ _ (hj.out _ ha)
theorem JL.move {d:Nat} {x:Operand} {v:Value} (hd:Nat.blt d n=true) (hx:evO m x=some v) (h:JL P n ops rest Q ((d,v)::m) w):
  JL P n ops (⟨some d, .move x,ty,pos,af,none⟩::rest) Q m w:=by
 refine JL.put hd (by simp[jB,cov,hx]) fun K hK=>?_
 have:evS m x=v:=by simp[evS,hx]
 exact hK (evS m x) w (this▸h)
theorem JL.assign {d:Nat} {x:Operand} {v:Value} (hd:Nat.blt d n=true) (hx:evO m x=some v) (h:JL P n ops rest Q ((d,v)::m) w):
  JL P n ops (⟨some d, .assign x,ty,pos,af,none⟩::rest) Q m w:=by
 refine JL.put hd (by simp[jB,cov,hx]) fun K hK=>?_
 have:evS m x=v:=by simp[evS,hx]
 exact hK (evS m x) w (this▸h)
theorem Fits.yielded {a:Act} (ha:Fits n m a) {g e:Nat} {t:Bool} (he:(ops[g]?).bind (·.dst)=some e) (hv:look m e=some (.bool t)):yielded ops a.tmps g=some t:=by
 unfold Go.yielded
 rw[he]
 simp[ha.2.2 e _ hv]
theorem JL.pickT {d:Nat} {c x y:Operand} {v:Value} (hd:Nat.blt d n=true) (hc:evO m c=some (.bool true)) (hx:evO m x=some v) (hy:cov m y=true) (h:JL P n ops rest Q ((d,v)::m) w):
  JL P n ops (⟨some d, .pick c x y,ty,pos,af,none⟩::rest) Q m w:=by
 refine JL.put hd (by simp[jB,cov,hx,hc];simpa [cov] using hy) fun K hK=>?_
 have e1:evS m c= .bool true:=by simp[evS,hc]
 have e2:evS m x=v:=by simp[evS,hx]
 simp only[execOp,e1,e2]
 exact hK _ _ h
theorem JL.pickF {d:Nat} {c x y:Operand} {v:Value} (hd:Nat.blt d n=true) (hc:evO m c=some (.bool false)) (hx:cov m x=true) (hy:evO m y=some v) (h:JL P n ops rest Q ((d,v)::m) w):
  JL P n ops (⟨some d, .pick c x y,ty,pos,af,none⟩::rest) Q m w:=by
 refine JL.put hd (by simp[jB,cov,hy,hc];simpa [cov] using hx) fun K hK=>?_
 have e1:evS m c= .bool false:=by simp[evS,hc]
 have e2:evS m y=v:=by simp[evS,hy]
 simp only[execOp,e1,e2]
 exact hK _ _ h
theorem JL.append {d:Nat} {x y:Operand} {v u r:Value} {ts:Array TypeId} {w':World} (hd:Nat.blt d n=true) (hx:evO m x=some v) (hy:evO m y=some u)
  (hr:(Builtin.append_ ts ty #[v,u]).run P w= .ok r w') (h:JL P n ops rest Q ((d,r)::m) w'):
  JL P n ops (⟨some d, .call {callee:= .builtin .append,args:= #[x,y],argTypes:=ts},ty,pos,af,none⟩::rest) Q m w:=by
 refine JL.put hd (by simp[jB,jbz,cov,hx,hy]) fun K hK=>?_
 have e1:evS m x=v:=by simp[evS,hx]
 have e2:evS m y=u:=by simp[evS,hy]
 have:(execOp (evS m) ⟨some d, .call {callee:= .builtin .append,args:= #[x,y],argTypes:=ts},ty,pos,af,none⟩).run P w= .ok (.value r) w':=by
  simp only[execOp,resolve,Sem.run_bind,Sem.run_pure,Result.andThen,invoke,builtin,List.map_toArray,List.map,e1,e2,hr]
 rw[this]
 exact hK _ _ h
structure JS (P:Program) (n:Nat) (ops:Array Oper) (l:List Oper) (w:World) (Z:Act->Prop) (m:jo):Prop where
 out: ∀ a,Fits n m a->wpStill P ops w Z l a
def stV (w:World) (K:Value->Prop):Result Next->Prop
 | .ok (.value v) w'=>w'=w/\K v
 | .ok .skip w'=>w'=w/\K undef
 | .ok (.enter _ _) _=>False
 |_=>False
@[go_sem] theorem stV_value (w:World) (K:Value->Prop) (v:Value):stV w K (.ok (.value v) w)=K v:=by simp[stV]
@[go_sem] theorem stV_skip (w:World) (K:Value->Prop):stV w K (.ok .skip w)=K undef:=by simp[stV]
theorem JS.nil {Z:Act->Prop} (h: ∀ a,Fits n m a->Z a):JS P n ops [] w Z m:=⟨h⟩
theorem JS.put {Z:Act->Prop} {d:Nat} (hd:Nat.blt d n=true) (hc:jB m op=true)
  (h: ∀ K:Value->Prop,(∀ v,JS P n ops rest w Z ((d,v)::m)->K v)->stV w K ((execOp (evS m) ⟨some d,op,ty,pos,af,none⟩).run P w)):
  JS P n ops (⟨some d,op,ty,pos,af,none⟩::rest) w Z m:= .mk fun a ha=>by
 unfold wpStill
 rw[if_pos (by simp[Region.wanted])]
 unfold Oper.still
 rw[ha.exec (o:=⟨some d,op,ty,pos,af,none⟩) hc]
 have:=h (fun v=>wpStill P ops w Z rest (a.put (some d) v)) fun v hj=>hj.out _ (ha.put hd v)
 generalize (execOp (evS m) ⟨some d,op,ty,pos,af,none⟩).run P w=r at this
 cases r with
 |ok x w'=>cases x<;>simp only[stV,Oper.stillUpon] at this|- <;>exact this
 |halt x w'=>simp only[stV] at this
theorem JS.move {Z:Act->Prop} {d:Nat} {x:Operand} {v:Value} (hd:Nat.blt d n=true) (hx:evO m x=some v) (h:JS P n ops rest w Z ((d,v)::m)):
  JS P n ops (⟨some d, .move x,ty,pos,af,none⟩::rest) w Z m:=by
 refine JS.put hd (by simp[jB,cov,hx]) fun K hK=>?_
 have:evS m x=v:=by simp[evS,hx]
 exact⟨rfl,hK (evS m x) (this▸h)⟩
theorem J.tail (k:Nat) {id:Nat} {l:List Oper} (hm:P.follows .mixedOrders=true) (hB:Region.lexTailB .any l.toArray k=true)
  (h: ∀ w1,Hid (w1=w.drew)->JS P n l.toArray (l.take k) w1 (fun a'=>wpList P l.toArray Q (l.drop k) a' w1) m):J P n (.region id l.toArray true) Q m w:=
 .mk fun a ha=>wp_region_still_tail k hm hB ((h _ (Lib.hid rfl)).out a ha)
theorem JS.go {l:List Oper} {w1:World} (h:JL P n ops l Q m w1):JS P n ops [] w (fun a'=>wpList P ops Q l a' w1) m:=⟨fun a ha=>h.out a ha⟩
def subsA (args:Array Value):jo->Prop
 | []=>True
 |(k,v)::r=>args[k]?=some v/\subsA args r
theorem jfM {args:Array Value}: ∀ {m:jo},subsA args m-> ∀ {t v},look m t=some v->args[t]?=some v
 | [],_,t,v,h=>by simp[look] at h
 |(k,u)::r,hs,t,v,h=>by
  simp only[look] at h
  by_cases e:k=t
  ·subst e
   simp only[Nat.beq_refl,cond_true,Option.some.injEq] at h
   subst h
   exact hs.1
  ·have:Nat.beq k t=false:=jdN e
   rw[this] at h
   exact jfM hs.2 h
theorem J.enter {f:FuncId} {fn:Func} {c:Code} {args:Array Value} {R:Ending->World->Prop} (m:jo)
  (hf:P.funcs[f]?=some fn) (hb:fn.body=some c) (hn:fn.ntmps=n) (hsz:args.size<=n) (hm:subsA args m) (h:J P n c (bodyPost P fn R) m w):Calls P f args w R:=by
 refine calls_of_wp hf hb (h.out _ ⟨rfl,by simp[hn];omega,?_⟩)
 intro t v ht
 have:=jfM hm ht
 have hlt:t<args.size:=by
  rcases Nat.lt_or_ge t args.size with h|h
  ·exact h
  ·simp[Array.getElem?_eq_none h] at this
 rw[Array.getElem?_append_left hlt]
 exact this
