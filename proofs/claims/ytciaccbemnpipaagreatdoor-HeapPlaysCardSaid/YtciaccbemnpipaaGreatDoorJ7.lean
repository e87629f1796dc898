/-The walker and contracts, part 7.-/
import Derived.Laws.Cells
import Derived.Test.YtciaccbemnpipaaGreatDoorJ6
set_option linter.all false
namespace Go.Proofs.YtciaccbemnpipaaGreatDoor
open Go.RowKit
def jbI (P:Program) (t:TypeId):Bool:=
 match P.underlying t with
 |some (.struct _)|some (.array _ _)=>true
 |_=>false
def oneB (P:Program) (t:TypeId):Bool:=(P.underlying t).isSome&&!jbI P t
theorem j7.cell {w0:World} {H F:jb} {b o:Nat} {l:List Value} {e:TypeId} {v:Value} (ht:jx (b,cells l e) H F) (hv:l[o]?=some v):j7 w0 H ⟨b,o,none⟩ v:=j7.own ht (by simpa using hv)
def jcW (w0:World) (H:jb) (b o k:Nat) (cs:List Value):Prop:=cs.length=k/\ ∀ j v,cs[j]?=some v->j7 w0 H ⟨b,o+j,none⟩ v
inductive Seg:List Value->Nat->Nat->List Value->Prop
 |nil {l:List Value}:Seg l 0 0 []
 |cons {x:Value} {l cs:List Value} {k:Nat}:Seg l 0 k cs->Seg (x::l) 0 (k+1) (x::cs)
 |next {x:Value} {l cs:List Value} {o k:Nat}:Seg l o k cs->Seg (x::l) (o+1) k cs
theorem Seg.eq {l cs:List Value} {o k:Nat} (h:Seg l o k cs):(l.drop o).take k=cs/\cs.length=k:=by
 induction h with
 |nil=>simp
 |cons _ ih=>simp at ih|-;exact ih
 |next _ ih=>simpa using ih
theorem jcW.of {w0:World} {H F:jb} {b o k:Nat} {l:List Value} {e:TypeId} {cs:List Value} (ht:jx (b,cells l e) H F) (h1:(l.drop o).take k=cs) (h2:cs.length=k):jcW w0 H b o k cs:=by
 refine⟨h2,fun j v hj=>j7.cell ht ?_⟩
 have hlt:=(List.getElem?_eq_some_iff.1 hj).1
 rw[<-h1,List.getElem?_take,if_pos (by omega),List.getElem?_drop] at hj
 exact hj
theorem jcW.own {w0:World} {H F:jb} {b o k:Nat} {l:List Value} {e:TypeId} {cs:List Value} (ht:jx (b,cells l e) H F) (hv:Seg l o k cs):jcW w0 H b o k cs:=jcW.of ht hv.eq.1 hv.eq.2
theorem jeA {P:Program} {t:TypeId} (w:World) {b:Bool} (hs:(P.underlying t).isSome=true) (hb:jbI P t=b):(isAgg t).run P w= .ok b w:=by
 cases hu:P.underlying t with
 |none=>rw [hu] at hs;cases hs
 |some d=>
  unfold jbI at hb;rw [hu] at hb
  simp only[isAgg,underlying,program,Sem.run,Bind.bind,Sem.bind,hu,Pure.pure]
  cases d<;>simp_all [Sem.run]
theorem run_load {P:Program} {w:World} {p:Addr} {v:Value} (h:w.cell? p=some v):(load p).run P w= .ok v w:=by
 simp[load,Sem.run,h]
theorem jfJ {P:Program} {t:TypeId} {w:World} {p:Addr} {v:Value} (h1:oneB P t=true) (h:w.cell? p=some v):(loadVar t p).run P w= .ok v w:=by
 simp only[oneB,Bool.and_eq_true,Bool.not_eq_true'] at h1
 have:=jeA (P:=P) w h1.1 h1.2
 have e:=run_load (P:=P) h
 simp only[loadVar,Sem.run_bind,this,Result.andThen,Bool.false_eq_true,if_false,e]
theorem jfI {P:Program} {t:TypeId} {w:World} {p:Addr} {cs:List Value} (h1:jbI P t=true) (hs:(P.info? t).map (·.size)=some cs.length) (h: ∀ j v,cs[j]?=some v->w.cell? (p.add j)=some v):(loadVar t p).run P w= .ok (.agg cs.toArray) w:=by
 have hu:(P.underlying t).isSome=true:=by unfold jbI at h1;cases hu:P.underlying t<;>simp_all
 have e1:=jeA (P:=P) w hu h1
 have e2:=run_loadCells_list (P:=P) w p cs h
 cases hq:P.info? t with
 |none=>simp[hq] at hs
 |some i=>
  have hi:i.size=cs.length:=by simpa [hq] using hs
  simp[loadVar,e1,sizeOf,typeInfo,hq,hi,e2]
theorem jbq (b o j:Nat):(⟨b,o,none⟩:Addr).add j=⟨b,o+j,none⟩:=by
 unfold Addr.add;split
 ·subst_vars;rfl
 ·rfl
inductive jaN (P:Program) (w0:World) (m:jo) (H:jb):List ResultVar->List Value->Prop
 |nil:jaN P w0 m H [] []
 |tmp {t:Nat} {v:Value} {rs:List ResultVar} {vs:List Value}:look m t=some v->jaN P w0 m H rs vs->jaN P w0 m H (.tmp t::rs) (v::vs)
 |cell {a b o t:Nat} {v:Value} {rs:List ResultVar} {vs:List Value}:look m a=some (.pointer (some ⟨b,o,none⟩))->oneB P t=true->j7 w0 H ⟨b,o,none⟩ v->jaN P w0 m H rs vs->jaN P w0 m H (.cell a t::rs) (v::vs)
 |cellN {a b o t:Nat} {k:Nat} {cs:List Value} {rs:List ResultVar} {vs:List Value}:look m a=some (.pointer (some ⟨b,o,none⟩))->jbI P t=true->(P.info? t).map (·.size)=some k->jcW w0 H b o k cs->jaN P w0 m H rs vs->jaN P w0 m H (.cell a t::rs) (.agg cs.toArray::vs)
def jb5:List Value->Value
 | [v]=>v
 |vs=> .tuple vs.toArray
theorem jaN.run {P:Program} {w0:World} {m:jo} {H:jb} {rs:List ResultVar} {vs:List Value} (h:jaN P w0 m H rs vs) {tmps:Array Value} {w:World} (hw:HF w0 H w) (ht: ∀ t v,look m t=some v->tmps[t]?=some v):
  (rs.mapM (fun(r:ResultVar)=>(match r with
   | .tmp t=>pure (tmps.getD t undef)
   | .cell a t=>do loadVar t (<-asAddr (tmps.getD a undef)):Sem Value))).run P w= .ok vs w:=by
 induction h with
 |nil=>simp[List.mapM_nil]
 |tmp hl _ ih=>
  simp only[List.mapM_cons,Sem.run_bind,Sem.run_pure,Result.andThen]
  rw[ih]
  simp[Array.getD_eq_getD_getElem?,ht _ _ hl]
 | @cell a b o t v rs vs hl h1 hs _ ih=>
  have e:tmps.getD a undef= .pointer (some ⟨b,o,none⟩):=by simp[Array.getD_eq_getD_getElem?,ht _ _ hl]
  have e2:=jfJ (P:=P) h1 (hs w hw)
  have e3:(asAddr (.pointer (some ⟨b,o,none⟩))).run P w= .ok ⟨b,o,none⟩ w:=rfl
  simp only[List.mapM_cons,Sem.run_bind,e,e3,Sem.run_pure,Result.andThen,e2]
  rw[ih]
 | @cellN a b o t k cs rs vs hl h1 h2 hs _ ih=>
  have e:tmps.getD a undef= .pointer (some ⟨b,o,none⟩):=by simp[Array.getD_eq_getD_getElem?,ht _ _ hl]
  have e2:=jfI (P:=P) (p:=⟨b,o,none⟩) h1 (by rw[hs.1];exact h2) (fun j v hj=>by rw[jbq];exact hs.2 j v hj w hw)
  have e3:(asAddr (.pointer (some ⟨b,o,none⟩))).run P w= .ok ⟨b,o,none⟩ w:=rfl
  simp only[List.mapM_cons,Sem.run_bind,e,e3,Sem.run_pure,Result.andThen,e2]
  rw[ih]
theorem jaN.results {P:Program} {w0:World} {m:jo} {H:jb} {fn:Func} {rs:List ResultVar} {vs:List Value} (hr:fn.results=rs.toArray) (h:jaN P w0 m H rs vs) {tmps:Array Value} {w:World} (hw:HF w0 H w) (ht: ∀ t v,look m t=some v->tmps[t]?=some v):
  (results fn tmps).run P w= .ok (jb5 vs) w:=by
 have:=h.run (tmps:=tmps) hw ht
 have fm: ∀ (s:Sem (List Value)),(List.toArray<$>s:Sem (Array Value))=(s>>=fun l=>pure l.toArray):=fun _=>rfl
 simp only[Go.results,hr,List.mapM_toArray,Sem.run_bind,fm,Result.andThen,Sem.run_pure]
 erw [this]
 cases vs with
 |nil=>rfl
 |cons a t=>cases t with
  |nil=>simp[jb5]
  |cons b t=>simp[jb5]
inductive jcX:List Deferred->jb->jb->Prop
 |nil {H:jb}:jcX [] H H
 |cons {D:Nat} {ds:List Deferred} {H F F':jb}:jx (D, .deferred (some [])) H F->jcX ds F F'->jcX ({target:= .collected D,args:= #[]}::ds) H F'
section
variable {P : Program} {w0 : World} {n : Nat} {m : jo} {H : jb} {fn : Func} {R : Jc} {ds : List Deferred}
theorem jkW {H H':jb} (hm:jcX ds H H'): ∀ {w:World} {tmps:Array Value},HF w0 H w->(∀ w',HF w0 H' w'->LeavesInM (fen none) 0 P fn tmps (jaa w0 R) [] .returning w')->LeavesInM (fen none) 0 P fn tmps (jaa w0 R) ds .returning w:=by
 induction hm with
 |nil=>exact fun hw h=>h _ hw
 | @cons D ds H F F' ht _ ih=>
  intro w tmps hw h
  refine⟨by simp, .inl ⟨D,_,rfl,run_takeDeferred ((hw.take ht).get _ (.head _)),?_⟩⟩
  exact ih ((hw.take ht).putObj _).tl h
theorem KE.fin {H1 H':jb} {rs:List ResultVar} {vs:List Value} (hm:jcX ds H H1) (hr:fn.results=rs.toArray) (hv:jaN P w0 m H1 rs vs) (hp:Part H1 H') (h:R (jb5 vs) H'):KE w0 n .ret (bodyPostM (fen none) 0 P fn (jaa w0 R)) ds m H:=
 .mk fun a w ha hw=>by
  show LeavesInM (fen none) 0 P fn a.tmps (jaa w0 R) a.defers .returning w
  rw[ha.1]
  exact jkW hm hw fun w' hw'=>⟨jb5 vs,hv.results hr hw' ha.2.2,jb5 vs,H',rfl,hw'.part hp,h⟩
theorem KE.finN {H1 H':jb} {rs:List ResultVar} {vs:List Value} (hm:jcX ds H H1) (hr:fn.results=rs.toArray) (hv:jaN P w0 m H1 rs vs) (hp:Part H1 H') (h:R (jb5 vs) H'):KE w0 n .normal (bodyPostM (fen none) 0 P fn (jaa w0 R)) ds m H:=
 .mk fun a w ha hw=>(KE.fin hm hr hv hp h).out a w ha hw
theorem Call.enter {f:FuncId} {c:Code} {args:List Value} (m:jo) (hent:jay P f=true) (hf:P.funcs[f]?=some fn) (hb:fn.body=some c) (hn:fn.ntmps=n) (hsz:Nat.ble args.length n=true) (hm:subsA args.toArray m)
  (h:K P w0 none n c (bodyPostM (fen none) 0 P fn (jaa w0 R)) [] m H):Call P w0 f args H R:=by
 refine⟨hent,fun w hw=>jgq.1 (callsIn_of_wp_marks hf hb trivial (h.out _ w ⟨rfl,?_,?_⟩ hw) rfl)⟩
 ·have:=Nat.le_of_ble_eq_true hsz
  simp[hn];omega
 ·intro t v ht
  have:=jfM hm ht
  have hlt:t<args.toArray.size:=by
   rcases Nat.lt_or_ge t args.toArray.size with h|h
   ·exact h
   ·simp[Array.getElem?_eq_none h] at this
  rw[Array.getElem?_append_left hlt]
  exact this
end
inductive ParS (n:Nat):List Tmp->List Value->jo->jo->Prop
 |nil {m:jo}:ParS n [] [] m m
 |cons {p:Tmp} {v:Value} {ps:List Tmp} {vs:List Value} {m m':jo}:Nat.blt p n=true->ParS n ps vs ((p,v)::m) m'->ParS n (p::ps) (v::vs) m m'
theorem ParS.fit {n:Nat} {ps:List Tmp} {vs:List Value} {m m':jo} (h:ParS n ps vs m m'): ∀ {tmps:Array Value},FitK n [] m {tmps:=tmps,defers:=[]}->
  FitK n [] m' {tmps:=(ps.toArray.zip vs.toArray).foldl (fun t (p,v)=>t.setIfInBounds p v) tmps,defers:=[]}:=by
 induction h with
 |nil=>intro tmps ha;simpa using ha
 | @cons p v ps vs m m' hp _ ih=>
  intro tmps ha
  have h1:=ih (tmps:=tmps.setIfInBounds p v) (ha.put hp v)
  have e: ∀ (t:Array Value) (ps:List Tmp) (vs:List Value),(ps.toArray.zip vs.toArray).foldl (fun t (p,v)=>t.setIfInBounds p v) t=(ps.zip vs).foldl (fun t (p,v)=>t.setIfInBounds p v) t:=by
   intro t ps vs
   rw[<-Array.foldl_toList]
   simp
  rw[e] at h1|-
  exact h1
theorem ParS.len {n:Nat} {ps:List Tmp} {vs:List Value} {m m':jo} (h:ParS n ps vs m m'):vs.length=ps.length:=by
 induction h with
 |nil=>rfl
 |cons _ _ ih=>simp[ih]
abbrev Rec:=LoopState->Option Code->Loop
def jfv (w0:World) (l:Nat) (r:Rec) (R:Jc):Exit->Act->World->Prop
 | .normal,_,w=> ∃ F,HF w0 ((l, .loop (r .busy none))::F) w/\R (.bool true) ((l, .loop (r .ready none))::F)
 | .ret,_,w=> ∃ F,HF w0 ((l, .loop (r .busy none))::F) w/\R (.bool false) ((l, .loop (r .done (some .ret)))::F)
 | .exit id,_,w=> ∃ F,HF w0 ((l, .loop (r .busy none))::F) w/\R (.bool false) ((l, .loop (r .done (some (.exit id))))::F)
 |_,_,_=>False
def beginK (P:Program) (w0:World) (n l:Nat) (r:Rec) (body:Code) (R:Jc) (a:Act) (w:World):Prop:=
 ∃ m1 F1,FitK n [] m1 a/\HF w0 ((l, .loop (r .ready none))::F1) w/\K P w0 (some l) n body (jfv w0 l r R) [] m1 ((l, .loop (r .busy none))::F1)
def Yields (P:Program) (w0:World) (n l:Nat) (r:Rec) (ps:List Tmp) (assign body:Code) (m:jo):Prop:=
 ∀ vs m' H F R,ParS n ps vs m m'->jx (l, .loop (r .ready none)) H F->K P w0 (some l) n assign (Exit.then (beginK P w0 n l r body R) (fun _ _ _=>False)) [] m' ((l, .loop (r .ready none))::F)->
  CallV P w0 (.func (.yield l) #[] #[]) vs H R
section
variable {P : Program} {w0 : World} {ro : Option Nat} {n : Nat} {Q : Exit -> Act -> World -> Prop} {ds : List Deferred} {m : jo} {H : jb}
theorem KE.begin {l:Nat} {r:Rec} {body:Code} {R:Jc} {F:jb} {Q':Exit->Act->World->Prop} (ht:jx (l, .loop (r .ready none)) H F) (h:K P w0 (some l) n body (jfv w0 l r R) [] m ((l, .loop (r .busy none))::F)):
  KE w0 n .normal (Exit.then (beginK P w0 n l r body R) Q') [] m H:= .mk fun a w ha hw=>⟨m,F,ha,hw.take ht,h⟩
theorem KE.roundN {l:Nat} {r:Rec} {R:Jc} {F:jb} (ht:jx (l, .loop (r .busy none)) H F) (h:R (.bool true) ((l, .loop (r .ready none))::F)):KE w0 n .normal (jfv w0 l r R) ds m H:= .mk fun a w ha hw=>⟨F,hw.take ht,h⟩
theorem KE.roundR {l:Nat} {r:Rec} {R:Jc} {F:jb} (ht:jx (l, .loop (r .busy none)) H F) (h:R (.bool false) ((l, .loop (r .done (some .ret)))::F)):KE w0 n .ret (jfv w0 l r R) ds m H:= .mk fun a w ha hw=>⟨F,hw.take ht,h⟩
theorem jc5 {r:Rec} {l:Nat} {st:LoopState} {pe:Option Code} {F:jb} {w:World} (h:HF w0 ((l, .loop (r st pe))::F) w):jdO w l r st pe:=h.get _ (.head _)
theorem jl8 {fn D l:Nat} {ps:List Tmp} {assign body:Code} {a:Act} (ha:FitK n ds m a):Yields P w0 n l (jb3 fn a ps.toArray assign body D) ps assign body m:=by
 intro vs m' H F R hp ht hK w hw0
 have hw:=hw0.take ht
 have hL:=jc5 hw
 have hfit:FitK n [] m {tmps:=a.tmps,defers:=[]}:=⟨rfl,ha.2.1,ha.2.2⟩
 obtain⟨fn',tmps',as',bo',hrun,hround⟩:=(show YieldAt (fen none) 0 P l vs.toArray w (fun e W=> ∃ v H',e= .returned v/\HF w0 H' W/\R v H') from by
  refine⟨fn,_,assign,body,run_yield (r:=jb3 fn a ps.toArray assign body D .ready none) hL (by simp[jb3,hp.len]),roundIn_of_wpIn trivial ?_⟩
  refine wpIn_mono (hK.out _ w (hp.fit hfit) hw) ?_
  intro e a1 w1 hq
  cases e with
  |normal=>
   obtain⟨m1,F1,hf1,hh1,hB⟩:=hq
   refine⟨_,run_beginRound (r:=jb3 fn a ps.toArray assign body D .ready none) (jc5 hh1) rfl,?_⟩
   refine wpIn_mono (hB.out a1 _ hf1 (hh1.putObj _)) ?_
   intro e a3 W3 hp3
   cases e with
   |normal=>
    obtain⟨F3,h3,hR⟩:=hp3
    exact⟨_,_,run_endRound (r:=jb3 fn a ps.toArray assign body D .busy none) none (jc5 h3),_,_,rfl,h3.putObj _,hR⟩
   |ret=>
    obtain⟨F3,h3,hR⟩:=hp3
    exact⟨_,_,run_endRound (r:=jb3 fn a ps.toArray assign body D .busy none) (some .ret) (jc5 h3),_,_,rfl,h3.putObj _,hR⟩
   |exit id=>
    obtain⟨F3,h3,hR⟩:=hp3
    exact⟨_,_,run_endRound (r:=jb3 fn a ps.toArray assign body D .busy none) (some (.exit id)) (jc5 h3),_,_,rfl,h3.putObj _,hR⟩
   |goto t=>exact hp3.elim
   |panic ch=>exact hp3.elim
   |outgrown=>exact hp3.elim
  |_=>exact hq.elim)
 have e:((do let d<-Deferred.ofValue (.func (.yield l) #[] #[]) vs.toArray;invoke d.target d.args:Sem Next).run P w)= .ok (.round l fn' tmps' as' bo') w:=by
  simp only[Deferred.ofValue,invoke,Bind.bind,Sem.bind,Pure.pure]
  rw[show(#[]++vs.toArray:Array Value)=vs.toArray by simp]
  exact hrun
 rw[e]
 refine RoundIn.mono hround ?_
 rintro e W ⟨v,H',rfl,hh,hR⟩
 exact⟨H',hh,hR⟩
theorem K.rangeFunc {g:Operand} {ps:List Tmp} {assign body:Code} {gf:FuncId} {lb:List Value} (hg:evO m g=some (.func (.func gf) #[] lb.toArray))
  (Done:Nat->jb->Prop) (Stop:Nat->Code->jb->Prop)
  (hit: ∀ l D r,Yields P w0 n l r ps assign body m->
   Call P w0 gf (.func (.yield l) #[] #[]::lb) ((l, .loop (r .ready none))::(D, .deferred (some []))::H) (fun _ H'=>(∃ F,Part H' ((l, .loop (r .ready none))::F)/\Done D F)\/(∃ c F,Part H' ((l, .loop (r .done (some c)))::F)/\Stop D c F)))
  (hdone: ∀ D F,Done D F->KE w0 n .normal Q ({target:= .collected D,args:= #[]}::ds) m F)
  (hstop: ∀ D c F,Stop D c F->K P w0 none n c Q ({target:= .collected D,args:= #[]}::ds) m F):K P w0 none n (.rangeFunc g ps.toArray assign body) Q ds m H:=by
 refine .mk fun a w ha hw=>wpIn_rangeFunc ?_
 intro fn _
 obtain⟨rc,hrc⟩: ∃ rc,rc=jb3 fn a ps.toArray assign body w.heap.size:=⟨_,rfl⟩
 have hy:Yields P w0 n (w.heap.size+1) rc ps assign body m:=by rw[hrc];exact jl8 ha
 have hc:=hit (w.heap.size+1) w.heap.size rc hy
 have h1:=(hw.alloc (.deferred (some []))).alloc (.loop (rc .ready none))
 rw[World.size_alloc] at h1
 refine⟨w.heap.size+1,[{target:= .collected w.heap.size,args:= #[]}],(w.alloc (.deferred (some []))).alloc (.loop (rc .ready none)),{target:= .fn (.func gf) lb.toArray,args:= #[.func (.yield (w.heap.size+1)) #[] #[]]},(w.alloc (.deferred (some []))).alloc (.loop (rc .ready none)),gf,
  (Value.func (.yield (w.heap.size+1)) #[] #[]::lb).toArray,(w.alloc (.deferred (some []))).alloc (.loop (rc .ready none)),?_,?_,fun _ _=>trivial,?_,fun hh=>by simp[fen,Fence.wide] at hh,?_⟩
 ·rw[hrc];exact run_enterLoop_outer _ _ _ _ _
 ·simp only[resolve,ha.eval hg]
  simp[go_sem]
 ·have:=jfX hc.ent (Value.func (.yield (w.heap.size+1)) #[] #[]::lb).toArray ((w.alloc (.deferred (some []))).alloc (.loop (rc .ready none)))
  simp only[invoke]
  rw[show(#[Value.func (.yield (w.heap.size+1)) #[] #[]]++lb.toArray:Array Value)=(Value.func (.yield (w.heap.size+1)) #[] #[]::lb).toArray by simp]
  exact this
 ·refine jgq.2 ((hc.out _ h1).mono ?_)
  rintro e W2 ⟨v,H',rfl,hh,(⟨F,hp,hD⟩|⟨c,F,hp,hS⟩)⟩
  ·have hq:=hh.part hp
   exact⟨none,_,by have:=run_endLoop (P:=P) (r:=rc .ready none) (jc5 hq) (by rw[hrc];simp[jb3]);rw [hrc] at this;exact this,(hdone _ _ hD).out _ _ ⟨by simp[ha.1],ha.2.1,ha.2.2⟩ (hq.putObj _).tl⟩
  ·have hq:=hh.part hp
   exact⟨some c,_,by have:=run_endLoop (P:=P) (r:=rc .done (some c)) (jc5 hq) (by rw[hrc];simp[jb3]);rw [hrc] at this;exact this,(hstop _ _ _ hS).out _ _ ⟨by simp[ha.1],ha.2.1,ha.2.2⟩ (hq.putObj _).tl⟩
