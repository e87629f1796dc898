/-The walker and contracts, part 11.-/
import Derived.Test.YtciaccbemnpipaaGreatDoorJ8
import Derived.Test.YtciaccbemnpipaaGreatDoorJ10
set_option linter.all false
namespace Go.Proofs.YtciaccbemnpipaaGreatDoor
open Go.RowKit
section
variable {P : Program} {w0 : World} {ro : Option Nat} {n : Nat} {Q : Exit -> Act -> World -> Prop} {ds : List Deferred} {m : jo} {H R F : jb}
variable {ops : Array Oper} {rest : List Oper} {op : Op} {ty : TypeId} {pos : String} {af : Array Edge} {ord : Ord}
theorem KL.callc {d:Nat} {f:Operand} {as0:List Operand} {ts:Array TypeId} {fv:Value} {vs:List Value} (hd:Nat.blt d n=true) (hf:evO m f=some fv) (ha:EvL m as0 vs)
  (h: ∀ T:Jc,(∀ v H',KL P w0 ro n ops rest Q ds ((d,v)::m) H'->T v H')->CallV P w0 fv vs H T):
  KL P w0 ro n ops (⟨some d, .call {callee:= .value f,args:=as0.toArray,argTypes:=ts},ty,pos,af,none⟩::rest) Q ds m H:=
 KL.e hd (Eff.call hf ha (h _ fun _ _ k=>k)) fun _ _ k=>k
theorem KD.callc {i d:Nat} {f:Operand} {as0:List Operand} {ts:Array TypeId} {fv:Value} {vs:List Value} (hi:ops[i]?=some ⟨some d, .call {callee:= .value f,args:=as0.toArray,argTypes:=ts},ty,pos,af,none⟩) (hd:Nat.blt d n=true) (hf:evO m f=some fv) (ha:EvL m as0 vs)
  (h: ∀ T:Jc,(∀ v H',Part H' R->KD P w0 ro n ops R ord Q ds ((d,v)::m) H'->T v H')->CallV P w0 fv vs H T):KD P w0 ro n ops R ((i,2)::ord) Q ds m H:=
 KD.e hi hd (Eff.call hf ha (h (fun v H'=>Part H' R/\KD P w0 ro n ops R ord Q ds ((d,v)::m) H') fun _ _ p k=>⟨p,k⟩)) fun _ _ k=>k
theorem KD.callcY {i d g e:Nat} {b:Bool} {f:Operand} {as0:List Operand} {ts:Array TypeId} {fv:Value} {vs:List Value} (hi:ops[i]?=some ⟨some d, .call {callee:= .value f,args:=as0.toArray,argTypes:=ts},ty,pos,af,some (g,b)⟩) (hge:(ops[g]?).bind (·.dst)=some e) (hg:look m e=some (.bool b)) (hd:Nat.blt d n=true) (hf:evO m f=some fv) (ha:EvL m as0 vs)
  (h: ∀ T:Jc,(∀ v H',Part H' R->KD P w0 ro n ops R ord Q ds ((d,v)::m) H'->T v H')->CallV P w0 fv vs H T):KD P w0 ro n ops R ((i,2)::ord) Q ds m H:=
 KD.eY hi hge hg hd (Eff.call hf ha (h (fun v H'=>Part H' R/\KD P w0 ro n ops R ord Q ds ((d,v)::m) H') fun _ _ p k=>⟨p,k⟩)) fun _ _ k=>k
inductive jct:List Value->Nat->Value->List Value->Prop
 |here {x v:Value} {l:List Value}:jct (x::l) 0 v (v::l)
 |next {x v:Value} {l l':List Value} {o:Nat}:jct l o v l'->jct (x::l) (o+1) v (x::l')
theorem jct.eq {l l':List Value} {o:Nat} {v:Value} (h:jct l o v l'):l.set o v=l'/\o<l.length:=by
 induction h with
 |here=>simp
 |next _ ih=>exact⟨by rw[List.set_cons_succ,ih.1],by rw[List.length_cons];omega⟩
inductive Lay:List Value->Nat->List Value->List Value->Prop
 |nil {l:List Value}:Lay l 0 [] l
 |cons {x c:Value} {l cs l':List Value}:Lay l 0 cs l'->Lay (x::l) 0 (c::cs) (c::l')
 |next {x:Value} {l cs l':List Value} {o:Nat}:Lay l o cs l'->Lay (x::l) (o+1) cs (x::l')
theorem Lay.eq {l cs l':List Value} {o:Nat} (h:Lay l o cs l'):jbG l o cs=l'/\o+cs.length<=l.length:=by
 induction h with
 |nil=>simp[jbG]
 |cons _ ih=>simp only[jbG,List.take_zero,List.nil_append,Nat.zero_add,List.length_cons,List.drop_succ_cons,List.cons_append] at ih|-;exact⟨by rw[ih.1],by omega⟩
 |next _ ih=>simp only[jbG,List.take_succ_cons,List.cons_append,List.length_cons] at ih|-;exact⟨by rw[show ∀ a b:Nat,a+1+b=(a+b)+1 from fun a b=>by omega,List.drop_succ_cons,ih.1],by omega⟩
theorem Eff.storeL {t:TypeId} {x y:Operand} {b o:Nat} {v:Value} {l l':List Value} {e:TypeId} (hx:evO m x=some (.pointer (some ⟨b,o,none⟩))) (hy:evO m y=some v) (h1:v.oneCell'=true) (ht:Ju P t=some 1)
  (hT:jx (b,cells l e) H F) (hl:jct l o v l'):Eff P w0 H m ty (.store t x y) (fun _ H'=>H'=(b,cells l' e)::F):=Eff.store hx hy h1 ht hT hl.eq.2 hl.eq.1
theorem Eff.storeAL {t:TypeId} {x y:Operand} {b o:Nat} {cs l l':List Value} {e:TypeId} (hx:evO m x=some (.pointer (some ⟨b,o,none⟩))) (hy:evO m y=some (.agg cs.toArray)) (ht:Ju P t=some cs.length)
  (hT:jx (b,cells l e) H F) (hl:Lay l o cs l') (h1:cs.all (·.oneCell')=true):Eff P w0 H m ty (.store t x y) (fun _ H'=>H'=(b,cells l' e)::F):=
 Eff.storeA hx hy ht hT hl.eq.2 (by simpa using h1) hl.eq.1
inductive jbU (m:jo):List (Nat × Operand)->List (Nat × Value)->Prop
 |nil:jbU m [] []
 |cons {i:Nat} {x:Operand} {v:Value} {ps:List (Nat × Operand)} {vs:List (Nat × Value)}:evO m x=some v->jbU m ps vs->jbU m ((i,x)::ps) ((i,v)::vs)
theorem jbU.map {ps:List (Nat × Operand)} {vs:List (Nat × Value)} (h:jbU m ps vs):ps.map (fun(p:Nat × Operand)=>(p.1,evS m p.2))=vs:=by
 induction h with
 |nil=>rfl
 |cons hx _ ih=>simp[evS,hx] at ih|-;exact ih
theorem jbU.cov {ps:List (Nat × Operand)} {vs:List (Nat × Value)} (h:jbU m ps vs):ps.all (fun p=>Proofs.YtciaccbemnpipaaGreatDoor.cov m p.2)=true:=by
 induction h with
 |nil=>rfl
 |cons hx _ ih=>simp only[List.all_cons,ih,Bool.and_true];simp[Proofs.YtciaccbemnpipaaGreatDoor.cov,hx]
inductive jbu (pl:Nat->Option (Nat × Nat)):List Value->List (Nat × Value)->List Value->Prop
 |nil {l:List Value}:jbu pl l [] l
 |one {l l' l'':List Value} {i off:Nat} {v:Value} {ps:List (Nat × Value)}:pl i=some (off,1)->v.oneCell'=true->jct l off v l'->jbu pl l' ps l''->jbu pl l ((i,v)::ps) l''
 |agg {l l' l'':List Value} {i off sz:Nat} {cs:List Value} {ps:List (Nat × Value)}:pl i=some (off,sz)->cs.length=sz->Lay l off cs l'->jbu pl l' ps l''->jbu pl l ((i, .agg cs.toArray)::ps) l''
theorem foldl_lay (cs:List Value): ∀ (l:List Value) (off k:Nat),off+k+cs.length<=l.length->
  (cs.zipIdx k).foldl (fun(acc:List Value) (p:Value × Nat)=>acc.set (off+p.2) p.1) l=jbG l (off+k) cs:=by
 induction cs with
 |nil=>intro l off k _;simp[jbG]
 |cons c cs ih=>
  intro l off k h
  simp only[List.length_cons] at h
  simp only[List.zipIdx_cons,List.foldl_cons]
  rw[ih _ _ _ (by simp;omega)]
  unfold jbG
  apply List.ext_getElem?
  intro j
  simp only[List.getElem?_append,List.getElem?_take,List.getElem?_drop,List.getElem?_set,List.length_append,List.length_take,List.length_set,List.length_cons,List.getElem?_cons]
  repeat' split
  all_goals first
   |rfl
   |omega
   |(congr 1;omega)
   |skip
  all_goals (simp_all<;>omega)
theorem jgN {pl:Nat->Option (Nat × Nat)} {l l':List Value} {ps:List (Nat × Value)} (h:jbu pl l ps l'):Instr.fill pl l.toArray ps=some l'.toArray:=by
 induction h with
 |nil=>rfl
 | @one l l1 l2 i off v ps hp h1 hs _ ih=>
  have hc:v.cells= #[v]:=by cases v<;>simp[Value.oneCell'] at h1<;>rfl
  have:=hs.eq
  simp only[Instr.fill,hp,hc]
  simp[this.1,ih]
  omega
 | @agg l l1 l2 i off sz cs ps hp h1 hs _ ih=>
  have:=hs.eq
  have e:=foldl_lay cs l off 0 (by omega)
  have hcl:(Value.agg cs.toArray).cells=cs.toArray:=rfl
  unfold Instr.fill
  rw[hp]
  dsimp only
  rw[hcl,if_neg (by simp;omega)]
  rw[show(cs.toArray.zipIdx.foldl (fun cs (c,j)=>cs.setIfInBounds (off+j) c) l.toArray)=l1.toArray from ?_]
  ·exact ih
  ·rw[<-Array.foldl_toList]
   have key: ∀ (zs:List (Value × Nat)) (acc:List Value),zs.foldl (fun cs (x:Value × Nat)=>cs.setIfInBounds (off+x.2) x.1) acc.toArray=(zs.foldl (fun(acc:List Value) (p:Value × Nat)=>acc.set (off+p.2) p.1) acc).toArray:=by
    intro zs
    induction zs with
    |nil=>intro acc;rfl
    |cons z zs ih=>intro acc;simp only[List.foldl_cons,List.setIfInBounds_toArray];exact ih _
   have e2:(cs.toArray.zipIdx).toList=cs.zipIdx 0:=by simp
   rw[e2]
   rw[key,e,Nat.add_zero,this.1]
def jgt (P:Program) (t:TypeId) (i:Nat):Option (Nat × Nat):=
 match P.underlying t with
 |some (.struct fs)=>match fs[i]? with
  |some fd=>match P.info? fd.type with
   |some j=>some (fd.offset,j.size)
   |none=>none
  |none=>none
 |some (.array _ e)=>match P.info? e with
  |some j=>some (i*j.size,j.size)
  |none=>none
 |_=>none
def jeh (P:Program) (t:TypeId):Option (List Value):=match P.info? t with
 |some i=>i.zero.map fun z=>z.cells.toList
 |none=>none
theorem jgy {t:TypeId} {l:List Value} (w:World) (h:jeh P t=some l): ∃ z,(zeroValue t).run P w= .ok z w/\z.cells=l.toArray:=by
 unfold jeh at h
 cases hi:P.info? t with
 |none=>rw [hi] at h;cases h
 |some i=>
  rw[hi] at h
  obtain⟨z,hz,rfl⟩:=Option.map_eq_some_iff.1 h
  exact⟨z,by simp[zeroValue,typeInfo,program,Sem.run,Bind.bind,Sem.bind,hi,hz,Pure.pure],by simp⟩
theorem jh4 {pl pl':Nat->Option (Nat × Nat)} {l l':List Value} {ps:List (Nat × Value)} (h:jbu pl l ps l') (hp: ∀ i r,pl i=some r->pl' i=some r):jbu pl' l ps l':=by
 induction h with
 |nil=>exact .nil
 |one h0 h1 h2 _ ih=>exact .one (hp _ _ h0) h1 h2 ih
 |agg h0 h1 h2 _ ih=>exact .agg (hp _ _ h0) h1 h2 ih
def sized (P:Program) (fs:Array Field):Bool:=fs.toList.all fun f=>(P.info? f.type).isSome
def ji6 (P:Program) (t:TypeId):Bool:=match P.underlying t with
 |some (.struct fs)=>sized P fs
 |some (.array _ e)=>(P.info? e).isSome
 |_=>false
theorem jlJ (w:World): ∀ (fs:List Field),(∀ f∈fs,(P.info? f.type).isSome=true)->
  (fs.mapM (fun(f:Field)=>(do pure (f.offset,<-sizeOf f.type):Sem (Nat × Nat)))).run P w= .ok (fs.map fun f=>(f.offset,((P.info? f.type).map (·.size)).getD 0)) w:=by
 intro fs
 induction fs with
 |nil=>intro _;simp[List.mapM_nil]
 |cons f fs ih=>
  intro h
  obtain⟨i,hi⟩:=Option.isSome_iff_exists.1 (h f (.head _))
  have e1:=jaO (P:=P) w (t:=f.type) (k:=i.size) (by simp[Ju,hi])
  have e2:=ih (fun g hg=>h g (.tail _ hg))
  simp only[List.mapM_cons,Sem.run_bind,e1,Result.andThen,Sem.run_pure,e2,List.map_cons,hi,Option.map_some,Option.getD_some]
theorem Val.build {t:TypeId} {ps:List (Nat × Operand)} {vs:List (Nat × Value)} {z l:List Value} (hp:jbU m ps vs) (hz:jeh P t=some z) (hok:ji6 P t=true) (hf:jbu (jgt P t) z vs l):Val P w0 H m ty (.build t ps.toArray) (.agg l.toArray):=
 ⟨by simp only [jB, List.toList_toArray]; exact hp.cov, fun w d pos af g _ => by
  obtain⟨zv,hz1,hz2⟩:=jgy w hz
  have hm:=hp.map
  unfold ji6 at hok
  cases hu:P.underlying t with
  |none=>rw [hu] at hok;cases hok
  |some td=>
   rw[hu] at hok
   cases td<;>simp only[Bool.false_eq_true] at hok
   case struct fs=>
    have hs:=jlJ (P:=P) w fs.toList (by
     intro f hf'
     unfold sized at hok
     exact List.all_eq_true.1 hok f hf')
    have hfl:=jgN (jh4 hf (pl':=fun i=>((fs.toList.map fun f=>(f.offset,((P.info? f.type).map (·.size)).getD 0)).toArray)[i]?) (by
     intro i r hr
     unfold jgt at hr
     rw[hu] at hr
     simp only at hr
     split at hr
     ·rename_i fd hfd
      split at hr
      ·rename_i j hj
       cases hr
       simp[hfd,hj]
      ·cases hr
     ·cases hr))
    have fm: ∀ (s:Sem (List (Nat × Nat))),(List.toArray<$>s:Sem (Array (Nat × Nat)))=(s>>=fun l=>pure l.toArray):=fun _=>rfl
    have e1:(fs.mapM fun(f:Field)=>(do pure (f.offset,<-sizeOf f.type):Sem (Nat × Nat))).run P w= .ok (fs.toList.map fun f=>(f.offset,((P.info? f.type).map (·.size)).getD 0)).toArray w:=by
     rw[<-Array.toArray_toList (xs:=fs),List.mapM_toArray,fm]
     simp only[Sem.run_bind,hs,Result.andThen,Sem.run_pure]
    have e2:(ps.toArray.map fun(p:Nat × Operand)=>(p.1,evS m p.2))=vs.toArray:=by simp[hm]
    have e3:(execOp (evS m) ⟨d, .build t ps.toArray,ty,pos,af,g⟩)=(do pure (.value (<-Instr.build t vs.toArray)):Sem Next):=by
     simp only[execOp]
     rw[show(ps.toArray.map fun x=>match x with|(i,x)=>(i,evS m x))=vs.toArray from e2]
    rw[e3]
    simp only[Instr.build,Sem.run_bind,hz1,Result.andThen,JG w hu,e1,hz2,List.toList_toArray,hfl,Sem.run_pure]
   case array k e=>
    obtain⟨i,hi⟩:=Option.isSome_iff_exists.1 hok
    have hsz:=jaO (P:=P) w (t:=e) (k:=i.size) (by simp[Ju,hi])
    have hfl:=jgN (jh4 hf (pl':=fun j=>some (j*i.size,i.size)) (by
     intro j r hr
     unfold jgt at hr
     rw[hu] at hr
     simp only[hi] at hr
     exact hr))
    have e2:(ps.toArray.map fun(p:Nat × Operand)=>(p.1,evS m p.2))=vs.toArray:=by simp[hm]
    have e3:(execOp (evS m) ⟨d, .build t ps.toArray,ty,pos,af,g⟩)=(do pure (.value (<-Instr.build t vs.toArray)):Sem Next):=by
     simp only[execOp]
     rw[show(ps.toArray.map fun x=>match x with|(i,x)=>(i,evS m x))=vs.toArray from e2]
    rw[e3]
    simp only[Instr.build,Sem.run_bind,hz1,Result.andThen,JG w hu,hsz,hz2,List.toList_toArray,hfl,Sem.run_pure]⟩
end
structure Enc (α:Type) where
 enc:α->List Value
 sz:Nat
 len: ∀ x,(enc x).length=sz
 one: ∀ x v,v∈enc x->v.oneCell'=true
section
variable {α : Type} {E : Enc α}
def jC (E:Enc α) (xs:List α):List Value:=xs.flatMap E.enc
theorem jci (x:α) (xs:List α):jC E (x::xs)=E.enc x++jC E xs:=rfl
theorem jbZ (xs ys:List α):jC E (xs++ys)=jC E xs++jC E ys:=by simp[jC]
theorem ja8 (xs:List α):(jC E xs).length=xs.length*E.sz:=by
 induction xs with
 |nil=>simp[jC]
 |cons x xs ih=>rw [jci,List.length_append,ih,E.len,List.length_cons,Nat.succ_mul,Nat.add_comm]
theorem jgL (xs:List α): ∀ v∈jC E xs,v.oneCell'=true:=by
 intro v hv
 obtain⟨x,_,hx⟩:=List.mem_flatMap.1 hv
 exact E.one x v hx
theorem jgM {xs:List α} {i:Nat} {x:α} (h:xs[i]?=some x) {j:Nat} {u:Value} (hj:(E.enc x)[j]?=some u):(jC E xs)[i*E.sz+j]?=some u:=by
 have hjl:j<E.sz:=by have:=(List.getElem?_eq_some_iff.1 hj).1;rwa[E.len] at this
 induction xs generalizing i with
 |nil=>simp at h
 |cons y l ih=>
  rw[jci]
  cases i with
  |zero=>
   simp at h;subst h
   rw[Nat.zero_mul,Nat.zero_add,List.getElem?_append_left (by rw[E.len];exact hjl)]
   exact hj
  |succ i=>
   simp at h
   rw[List.getElem?_append_right (by rw[E.len,Nat.succ_mul];omega),E.len]
   rw[show(i+1)*E.sz+j-E.sz=i*E.sz+j by rw[Nat.succ_mul];omega]
   exact ih h
theorem flat_at {xs:List α} {q:Nat} {u:Value} (h:(jC E xs)[q]?=some u): ∃ x,xs[q/E.sz]?=some x/\(E.enc x)[q%E.sz]?=some u:=by
 have hq:q<xs.length*E.sz:=by have:=(List.getElem?_eq_some_iff.1 h).1;rwa[ja8] at this
 have h0:0<E.sz:=by
  rcases Nat.eq_zero_or_pos E.sz with h|h
  ·rw[h] at hq;omega
  ·exact h
 have hi:q/E.sz<xs.length:=by rwa[Nat.div_lt_iff_lt_mul h0]
 have hx:xs[q/E.sz]?=some xs[q/E.sz]:=List.getElem?_eq_getElem hi
 have hm:q%E.sz<E.sz:=Nat.mod_lt _ h0
 have hj:(E.enc xs[q/E.sz])[q%E.sz]?=some ((E.enc xs[q/E.sz])[q%E.sz]'(by rw[E.len];exact hm)):=List.getElem?_eq_getElem _
 have:=jgM hx hj
 rw[show q/E.sz*E.sz+q%E.sz=q by rw[Nat.mul_comm];exact Nat.div_add_mod q E.sz] at this
 rw[h] at this
 exact⟨_,hx,by rw[hj];exact this.symm⟩
theorem jkX {xs:List α} {i:Nat} {x x':α} (h:xs[i]?=some x) {j:Nat} {u:Value} (hj:j<E.sz) (hu:(E.enc x).set j u=E.enc x') (tl:List Value):
  (jC E xs++tl).set (i*E.sz+j) u=jC E (xs.set i x')++tl:=by
 induction xs generalizing i with
 |nil=>simp at h
 |cons y l ih=>
  cases i with
  |zero=>
   simp at h;subst h
   rw[List.set_cons_zero,jci,jci,Nat.zero_mul,Nat.zero_add,List.append_assoc,List.set_append_left _ _ (by rw[E.len];exact hj),hu,List.append_assoc]
  |succ i=>
   simp at h
   rw[List.set_cons_succ,jci,jci,List.append_assoc,List.set_append_right _ _ (by rw[E.len,Nat.succ_mul];omega),E.len,show(i+1)*E.sz+j-E.sz=i*E.sz+j by rw[Nat.succ_mul];omega,ih h,List.append_assoc]
theorem flat_laid {xs:List α} {i:Nat} {x x':α} (h:xs[i]?=some x) (tl:List Value):
  jbG (jC E xs++tl) (i*E.sz) (E.enc x')=jC E (xs.set i x')++tl:=by
 have hi:=(List.getElem?_eq_some_iff.1 h).1
 unfold jbG
 rw[E.len]
 have e1:jC E xs=jC E (xs.take i)++(E.enc x++jC E (xs.drop (i+1))):=by
  rw[<-jci,<-jbZ]
  congr 1
  have hx:xs[i]=x:=by have:=(List.getElem?_eq_some_iff.1 h).2;exact this
  rw[<-hx,<-List.drop_eq_getElem_cons hi,List.take_append_drop]
 have e2:xs.set i x'=xs.take i++x'::xs.drop (i+1):=by rw[List.set_eq_take_append_cons_drop,if_pos hi]
 rw[e2,jbZ,jci]
 have l1:(jC E (xs.take i)).length=i*E.sz:=by rw[ja8,List.length_take,Nat.min_eq_left (by omega)]
 conv=>lhs;rw [e1]
 simp only[List.append_assoc]
 rw[List.take_append_of_le_length (by rw[l1];exact Nat.le_refl _),List.take_of_length_le (by rw[l1];exact Nat.le_refl _)]
 congr 1
 rw[List.drop_append,List.drop_of_length_le (by rw[l1];omega),l1]
 rw[show i*E.sz+E.sz-i*E.sz=E.sz by omega]
 simp only[List.nil_append]
 rw[List.drop_append,E.len,List.drop_of_length_le (by rw[E.len];exact Nat.le_refl _),Nat.sub_self,List.drop_zero,List.nil_append]
end
def adr:Value->Nat->Addr
 | .slice (some a) _ _,k=>⟨a.block,a.off+k,none⟩
 |_,k=>⟨0,k,none⟩
theorem adr_add (v:Value) (q j:Nat):(adr v q).add j=adr v (q+j):=by
 unfold Addr.add
 by_cases h:j=0
 ·subst h;simp
 ·rw[if_neg h]
  unfold adr
  split<;>simp[Nat.add_assoc]
structure SlW {α:Type} (w:World) (E:Enc α) (v:Value) (xs:List α):Prop where
 shape: ∃ a c,v= .slice a xs.length c/\xs.length<=c/\c<=maxLen/\(xs≠ []-> ∃ b o,a=some ⟨b,o,none⟩)
 at_: ∀ i x,xs[i]?=some x-> ∀ j u,(E.enc x)[j]?=some u->w.cell? (adr v (i*E.sz+j))=some u
def Sli {α:Type} (w0:World) (H:jb) (E:Enc α) (v:Value) (xs:List α):Prop:= ∀ w,HF w0 H w->SlW w E v xs
section
variable {α : Type} {E : Enc α} {w0 w : World} {H F : jb} {v : Value} {xs : List α}
theorem jgo {w w':World} (h:jN [] w w') {p:Addr} {u:Value} (h0:w.cell? p=some u):w'.cell? p=some u:=by
 have hlt:p.block<w.heap.size:=by
  rcases Nat.lt_or_ge p.block w.heap.size with hl|hl
  ·exact hl
  ·unfold World.cell? at h0;rw [Array.getElem?_eq_none hl] at h0;cases h0
 have hb:=h.block p.block hlt (by simp)
 unfold World.cell? at h0|-
 rw[hb];exact h0
theorem SlW.only {w':World} (h:SlW w E v xs) (ho:jN [] w w'):SlW w' E v xs:=⟨h.shape,fun i x hx j u hu=>jgo ho (h.at_ i x hx j u hu)⟩
theorem Sli.old (h:SlW w0 E v xs):Sli w0 H E v xs:=fun w hw=>h.only hw.old
theorem SlW.row (h:SlW w E v xs) {q:Nat} {u:Value} (hq:(jC E xs)[q]?=some u):w.cell? (adr v q)=some u:=by
 obtain⟨x,hx,hu⟩:=flat_at hq
 have:=h.at_ _ x hx _ u hu
 rwa[show q/E.sz*E.sz+q%E.sz=q by rw[Nat.mul_comm];exact Nat.div_add_mod q E.sz] at this
theorem Sli.part {H':jb} (h:Sli w0 H' E v xs) (hp:Part H H'):Sli w0 H E v xs:=fun w hw=>h w (hw.part hp)
theorem SlW.nil (w:World) (E:Enc α):SlW w E (.slice none 0 0) []:=⟨⟨none,0,rfl,Nat.le_refl _,Nat.zero_le _,fun h=>absurd rfl h⟩,fun i x hx=>by simp at hx⟩
theorem SlW.le (h:SlW w E v xs):xs.length<=maxLen:=by obtain⟨a,c,_,h1,h2,_⟩:=h.shape;omega
theorem j7.sl (h:Sli w0 H E v xs) {i j:Nat} {x:α} {u:Value} (hx:xs[i]?=some x) (hu:(E.enc x)[j]?=some u):j7 w0 H (adr v (i*E.sz+j)) u:=fun w hw=>(h w hw).at_ i x hx j u hu
theorem j7.sl0 (h:Sli w0 H E v xs) {i:Nat} {x:α} {u:Value} (hx:xs[i]?=some x) (hu:(E.enc x)[0]?=some u):j7 w0 H (adr v (i*E.sz)) u:=fun w hw=>(h w hw).at_ i x hx 0 u hu
def SeesA (w0:World) (H:jb) (p:Addr) (k:Nat) (cs:List Value):Prop:=cs.length=k/\ ∀ j v,cs[j]?=some v->j7 w0 H (p.add j) v
theorem SeesA.sl (h:Sli w0 H E v xs) {i:Nat} {x:α} (hx:xs[i]?=some x):SeesA w0 H (adr v (i*E.sz)) E.sz (E.enc x):=
 ⟨E.len x,fun j u hu=>by rw[adr_add];exact j7.sl h hx hu⟩
end
structure Ob where
 b:Nat
 c:Nat
 tl:List Value
abbrev Own:=Option Ob
def oV (o:Own) (n:Nat):Value:=match o with
 |none=> .slice none 0 0
 |some o=> .slice (some ⟨o.b,0,none⟩) n o.c
section
variable {α : Type}
def oH (E:Enc α) (e:TypeId) (xs:List α) (o:Own):jb:=match o with
 |none=> []
 |some o=> [(o.b,cells (jC E xs++o.tl) e)]
def oOk (E:Enc α) (xs:List α) (o:Own):Prop:=match o with
 |none=>xs=[]
 |some o=>xs.length<=o.c/\o.c<=maxLen/\xs.length*E.sz+o.tl.length=o.c*E.sz
variable {E : Enc α} {e : TypeId} {w0 w : World} {H F : jb} {v : Value} {xs : List α} {o : Own} {n : Nat}
theorem oOk.nil:oOk E [] none:=rfl
theorem oOk.set (h:oOk E xs o) (i:Nat) (x:α):oOk E (xs.set i x) o:=by
 cases o with
 |none=>simp only[oOk] at h|-;subst h;rfl
 |some o=>simpa [oOk] using h
theorem oOk.lit {b:Nat} (hl:xs.length<=maxLen):oOk E xs (some ⟨b,xs.length,[]⟩):=⟨Nat.le_refl _,hl,by simp⟩
theorem oH_lit (b c:Nat):oH E e xs (some ⟨b,c,[]⟩)=[(b,cells (jC E xs) e)]:=by simp[oH]
theorem HF.own (hw:HF w0 (oH E e xs o++F) w) (ok:oOk E xs o) (hn:n=xs.length):SlW w E (oV o n) xs:=by
 subst hn
 cases o with
 |none=>simp only[oOk] at ok;subst ok;exact SlW.nil _ _
 |some o=>
  obtain⟨h1,h2,h3⟩:=ok
  refine⟨⟨_,_,rfl,h1,h2,fun _=>⟨_,_,rfl⟩⟩,?_⟩
  intro i x hx j u hu
  have hb:w.heap[o.b]?=some (cells (jC E xs++o.tl) e):=hw.get (o.b,cells (jC E xs++o.tl) e) (by simp[oH])
  have hg:=jgM hx hu
  have hlt:=(List.getElem?_eq_some_iff.1 hg).1
  simp only[adr,oV,World.cell?,hb,Nat.zero_add]
  simp[List.getElem?_append_left hlt,hg]
theorem Sli.own (ht:jE (oH E e xs o) H F) (ok:oOk E xs o) (hn:n=xs.length):Sli w0 H E (oV o n) xs:=fun w hw=>(hw.takeL ht).own ok hn
theorem Sli.blk {b c:Nat} {l:List Value} (ht:jx (b,cells l e) H F) (hl:l=jC E xs) (hc:xs.length<=c) (hm:c<=maxLen) (hn:n=xs.length):Sli w0 H E (.slice (some ⟨b,0,none⟩) n c) xs:=by
 intro w hw
 subst hn hl
 refine⟨⟨_,_,rfl,hc,hm,fun _=>⟨_,_,rfl⟩⟩,?_⟩
 intro i x hx j u hu
 have hb:=(hw.take ht).get _ (.head _)
 have hg:=jgM hx hu
 simp only[adr,World.cell?,hb,Nat.zero_add]
 simpa using hg
end
section
variable {P : Program} {w0 : World} {m : jo} {H F : jb} {ty : TypeId} {α : Type} {E : Enc α} {v : Value} {xs ys : List α}
theorem Val.loadP {t:TypeId} {x:Operand} {p:Addr} {u:Value} (hx:evO m x=some (.pointer (some p))) (ht:oneB P t=true) (hs:j7 w0 H p u):Val P w0 H m ty (.load t x) u:=
 ⟨by simp[jB,cov,hx],fun w d pos af g hw=>by
  have:=jfJ (P:=P) ht (hs w hw)
  simp[execOp,evS,hx,Instr.loadAt,Instr.sureAddr,this]⟩
theorem Val.loadAP {t:TypeId} {x:Operand} {p:Addr} {k:Nat} {cs:List Value} (hx:evO m x=some (.pointer (some p))) (ht:jbI P t=true) (hk:Ju P t=some k) (hs:SeesA w0 H p k cs):Val P w0 H m ty (.load t x) (.agg cs.toArray):=
 ⟨by simp[jB,cov,hx],fun w d pos af g hw=>by
  have:=jfI (P:=P) (p:=p) ht (by rw[hs.1];exact hk) (fun j u hj=>hs.2 j u hj w hw)
  simp[execOp,evS,hx,Instr.loadAt,Instr.sureAddr,this]⟩
theorem Val.lenSl {x:Operand} {t e:TypeId} (hx:evO m x=some v) (ht:Jw P t=some e) (h:Sli w0 H E v xs):Val P w0 H m ty (.call {callee:= .builtin .len,args:= #[x],argTypes:= #[t]}) (.int .i64 (xs.length:Nat)):=
 ⟨by simp[jB,jbz,cov,hx],fun w d pos af g hw=>by
  obtain⟨a,c,rfl,_⟩:=(h w hw).shape
  exact(Val.lenS (P:=P) (w0:=w0) (H:=H) (ty:=ty) hx ht).run w d pos af g hw⟩
theorem Val.idxSl {t e:TypeId} {x y:Operand} {i:Nat} {k:IntKind} (hx:evO m x=some v) (hy:evO m y=some (.int k (i:Nat))) (ht:Jw P t=some e) (h:Sli w0 H E v xs) (hz:Ju P e=some E.sz) (hi:i<xs.length):
  Val P w0 H m ty (.indexAddr t x y) (.pointer (some (adr v (i*E.sz)))):=
 ⟨by simp[jB,cov,hx,hy],fun w d pos af g hw=>by
  obtain⟨a,c,hv,_,_,hne⟩:=(h w hw).shape
  obtain⟨b,o,rfl⟩:=hne (by intro e;subst e;simp at hi)
  subst hv
  exact(Val.indexSO (P:=P) (w0:=w0) (H:=H) (ty:=ty) hx hy ht hz hi).run w d pos af g hw⟩
theorem Val.idxSlZ {t e:TypeId} {x y:Operand} {i:Int} {k:IntKind} (hx:evO m x=some v) (hy:evO m y=some (.int k i)) (ht:Jw P t=some e) (h:Sli w0 H E v xs) (hz:Ju P e=some E.sz) (hi:0<=i/\i<xs.length):
  Val P w0 H m ty (.indexAddr t x y) (.pointer (some (adr v (i.toNat*E.sz)))):=
 Val.idxSl hx (show evO m y=some (.int k (i.toNat:Nat)) by rw[hy,Int.toNat_of_nonneg hi.1]) ht h hz (by omega)
theorem Val.fieldSl {s:TypeId} {x:Operand} {f k q:Nat} (hx:evO m x=some (.pointer (some (adr v q)))) (hs:jcn P s f=some k):Val P w0 H m ty (.fieldAddr s x f) (.pointer (some (adr v (q+k)))):=
 ⟨by simp[jB,cov,hx],fun w d pos af g _=>by
  have:=jeB (P:=P) w (a:=adr v q) hs
  rw[adr_add] at this
  simp[execOp,evS,hx,this]⟩
def j9 (v:Value) (l h z:Nat):Value:=match v with
 | .slice a _ c=> .slice (if c=l then a else a.map (·.add (l*z))) (h-l) (c-l)
 |v=>v
theorem SlW.sub {w:World} (hs:SlW w E v xs) {l h:Nat} (hl:l<=h) (hh:h<=xs.length):SlW w E (j9 v l h E.sz) ((xs.take h).drop l):=by
 obtain⟨a,c,rfl,h1,h2,h3⟩:=hs.shape
 have hlen:((xs.take h).drop l).length=h-l:=by simp;omega
 refine⟨⟨if c=l then a else a.map (·.add (l*E.sz)),c-l,by simp only[j9,hlen],by omega,by omega,?_⟩,?_⟩
 ·intro hne
  have hp:0<((xs.take h).drop l).length:=List.length_pos_iff.2 hne
  obtain⟨b,o,rfl⟩:=h3 (by intro e;subst e;simp at hp)
  rw[if_neg (by omega)]
  exact⟨b,o+l*E.sz,by simp[jbq]⟩
 ·intro i x hx j u hu
  rw[List.getElem?_drop,List.getElem?_take] at hx
  split at hx
  ·rename_i hlt
   have hxs:xs≠ []:=by intro e;subst e;simp at hx
   obtain⟨b,o,rfl⟩:=h3 hxs
   have:=hs.at_ _ x hx j u hu
   simp only[j9]
   rw[if_neg (by omega)]
   simp only[adr,Option.map_some,jbq] at this|-
   rw[show o+l*E.sz+(i*E.sz+j)=o+((l+i)*E.sz+j) by rw[Nat.add_mul];omega]
   exact this
  ·cases hx
theorem Sli.sub (hs:Sli w0 H E v xs) {l h:Nat} (hl:l<=h) (hh:h<=xs.length):Sli w0 H E (j9 v l h E.sz) ((xs.take h).drop l):=fun w hw=>(hs w hw).sub hl hh
theorem jeC {w:World} {i y:Nat} {c:BoundsCode} (h:i<=y):(Instr.sliceBound (.int .i64 (i:Nat)) y c).run P w= .ok i w:=by
 simp[Instr.sliceBound,asIntOf,h]
theorem Val.sliceLH {t e:TypeId} {x y z:Operand} {l h:Nat} (hx:evO m x=some v) (hy:evO m y=some (.int .i64 (l:Nat))) (hz':evO m z=some (.int .i64 (h:Nat))) (ht:Jw P t=some e) (hs:Sli w0 H E v xs) (hz:Ju P e=some E.sz) (hl:l<=h) (hh:h<=xs.length):
  Val P w0 H m ty (.slice t x (some y) (some z) none) (j9 v l h E.sz):=
 ⟨by simp[jB,jb8,cov,hx,hy,hz'],fun w d pos af g hw=>by
  obtain⟨a,c,rfl,h1,h2,h3⟩:=(hs w hw).shape
  have hu:P.underlying t=some (.slice e):=by unfold Jw at ht;split at ht<;>simp_all
  have e1:=jeC (P:=P) (w:=w) (i:=h) (y:=c) (c:= .sliceAcap) (by omega)
  have e2:=jeC (P:=P) (w:=w) (i:=l) (y:=h) (c:= .sliceB) hl
  simp[execOp,evS,hx,hy,hz',Instr.sliceAt,Instr.slice,Instr.sliceBounds,JG w hu,jaO w hz,e1,e2,j9]⟩
theorem Val.sliceL {t e:TypeId} {x y:Operand} {l:Nat} (hx:evO m x=some v) (hy:evO m y=some (.int .i64 (l:Nat))) (ht:Jw P t=some e) (hs:Sli w0 H E v xs) (hz:Ju P e=some E.sz) (hl:l<=xs.length):
  Val P w0 H m ty (.slice t x (some y) none none) (j9 v l xs.length E.sz):=
 ⟨by simp[jB,jb8,cov,hx,hy],fun w d pos af g hw=>by
  obtain⟨a,c,rfl,h1,h2,h3⟩:=(hs w hw).shape
  have hu:P.underlying t=some (.slice e):=by unfold Jw at ht;split at ht<;>simp_all
  have e2:=jeC (P:=P) (w:=w) (i:=l) (y:=xs.length) (c:= .sliceB) hl
  simp[execOp,evS,hx,hy,Instr.sliceAt,Instr.slice,Instr.sliceBounds,JG w hu,jaO w hz,e2,j9]⟩
theorem Val.sliceH {t e:TypeId} {x z:Operand} {h:Nat} (hx:evO m x=some v) (hz':evO m z=some (.int .i64 (h:Nat))) (ht:Jw P t=some e) (hs:Sli w0 H E v xs) (hz:Ju P e=some E.sz) (hh:h<=xs.length):
  Val P w0 H m ty (.slice t x none (some z) none) (j9 v 0 h E.sz):=
 ⟨by simp[jB,jb8,cov,hx,hz'],fun w d pos af g hw=>by
  obtain⟨a,c,rfl,h1,h2,h3⟩:=(hs w hw).shape
  have hu:P.underlying t=some (.slice e):=by unfold Jw at ht;split at ht<;>simp_all
  have e1:=jeC (P:=P) (w:=w) (i:=h) (y:=c) (c:= .sliceAcap) (by omega)
  simp[execOp,evS,hx,hz',Instr.sliceAt,Instr.slice,Instr.sliceBounds,JG w hu,jaO w hz,e1,j9]⟩
end
theorem HF.rebase {w0 w w':World} {H N:jb} (h:HF w0 H w) (h':HF w N w'):HF w0 (N++H) w':=by
 refine⟨?_,?_,?_,?_⟩
 ·exact h.old.trans h'.old
 ·intro p hm
  rcases List.mem_append.1 hm with hm|hm
  ·exact h'.get p hm
  ·exact(h'.old.block p.1 (h.lt hm) (by simp)).trans (h.get p hm)
 ·intro p hm
  rcases List.mem_append.1 hm with hm|hm
  ·exact Nat.le_trans h.old.size (h'.new p hm)
  ·exact h.new p hm
 ·rw[List.map_append,List.nodup_append]
  refine⟨h'.nd,h.nd,?_⟩
  intro a ha b hb e
  subst e
  obtain⟨p,hp,rfl⟩:=List.mem_map.1 ha
  obtain⟨q,hq,he⟩:=List.mem_map.1 hb
  have h1:=h'.new p hp
  have h2:=h.lt hq
  omega
theorem HF.self (w:World):HF w [] w:=⟨jN.refl _ _,(fun p hp=>absurd hp (by simp)),(fun p hp=>absurd hp (by simp)),by simp⟩
section
variable {P : Program} {w0 : World} {H : jb}
theorem CallV.pure {fv:Value} {vs:List Value} {R:Jc} (h: ∀ w,HF w0 H w->CallV P w fv vs [] R):CallV P w0 fv vs H (fun v H'=> ∃ N,R v N/\H'=N++H):=by
 intro w hw
 refine((h w hw) w (HF.self w)).mono ?_
 rintro v w' ⟨N,hN,hR⟩
 exact⟨_,hw.rebase hN,N,hR,rfl⟩
theorem Call.pure {f:FuncId} {vs:List Value} {R:Jc} (he:jay P f=true) (h: ∀ w,HF w0 H w->Call P w f vs [] R):Call P w0 f vs H (fun v H'=> ∃ N,R v N/\H'=N++H):=
 ⟨he,fun w hw=>((h w hw).out w (HF.self w)).mono fun e w' ⟨v,N,h1,hN,hR⟩=>⟨v,N++H,h1,hw.rebase hN,N,hR,rfl⟩⟩
end
section
variable {P : Program} {w0 : World} {m : jo} {H F : jb} {ty : TypeId} {α : Type} {E : Enc α} {v : Value} {xs ys : List α} {o : Own} {e : TypeId}
theorem jE.nil {H:jb}:jE [] H H:=by simpa using (jE.head (A:=([]:jb)) (F:=H))
theorem jE.whole {A:jb}:jE A A []:=by simpa using jE.head (A:=A) (F:=[])
theorem Part.lastA {A H F:jb} (h:jE A H F):Part H A:=by simpa using Part.takeA h (Part.nil:Part F [])
theorem Part.assoc {H A B C:jb} (h:Part H (A++(B++C))):Part H ((A++B)++C):=by rw[List.append_assoc];exact h
theorem HF.ownSl {w:World} (hw:HF w0 (oH E e xs o++F) w) (ok:oOk E xs o):Sl w (oV o xs.length) e E.sz xs.length (jC E xs):=by
 cases o with
 |none=>simp only[oOk] at ok;subst ok;exact Sl.nil w e E.sz
 |some o=>
  obtain⟨h1,h2,h3⟩:=ok
  have hb:w.heap[o.b]?=some (cells (jC E xs++o.tl) e):=hw.get (o.b,cells (jC E xs++o.tl) e) (by simp[oH])
  refine⟨ja8 xs, .inr ⟨o.b,o.c,(jC E xs++o.tl).toArray,rfl,Nat.zero_le _,hb,h1,h2,?_,?_⟩⟩
  ·simp[ja8];omega
  ·rw[List.toList_toArray,<-ja8 (E:=E),List.take_left'];rfl
theorem Eff.appO {x y:Operand} {t:TypeId} {z v2:Value} {bytes:Nat} (hx:evO m x=some (oV o xs.length)) (hy:evO m y=some v2) (ht:Jw P t=some e)
  (hinfo:(P.info? e).map (fun i=>(i.zero,i.size,i.bytes))=some (some z,E.sz,bytes)) (hzs:z.cells.size=E.sz) (h0:Nat.blt 0 E.sz=true) (hT:jE (oH E e xs o) H F) (ok:oOk E xs o) (hs:Sli w0 H E v2 ys)
  (hm':xs.length+ys.length<=4294967296) (hb':Nat.ble bytes 32768=true):
  Eff P w0 H m ty (.call {callee:= .builtin .append,args:= #[x,y],argTypes:= #[t,t]}) (fun v H'=> ∃ o',oOk E (xs++ys) o'/\v=oV o' (xs.length+ys.length)/\H'=oH E e (xs++ys) o'++F):=by
 have hm:xs.length+ys.length<=maxLen:=by unfold maxLen;omega
 have hb:(xs.length+ys.length)*bytes<=140737488355328:=Nat.le_trans (Nat.mul_le_mul hm' (Nat.le_of_ble_eq_true hb')) (by decide)
 refine⟨by simp[jB,jbz,cov,hx,hy],fun w d pos af g hw0=>?_⟩
 have hw:=hw0.takeL hT
 have h0':0<E.sz:=Nat.le_of_ble_eq_true h0
 have hsl:=hw.ownSl ok
 have hS:=hs w hw0
 have hu:P.underlying t=some (.slice e):=by unfold Jw at ht;split at ht<;>simp_all
 obtain⟨a2,c2,rfl,hc1,hc2,hne⟩:=hS.shape
 by_cases hys:ys=[]
 ·subst hys
  simp only[List.append_nil,List.length_nil,Nat.add_zero] at hm hb|-
  have e1:(Builtin.append_ #[t,t] ty #[oV o xs.length, .slice a2 0 c2]).run P w= .ok (oV o xs.length) w:=by
   obtain⟨i,hi,_⟩:=Option.map_eq_some_iff.1 hinfo
   have hsz:(sizeOf e).run P w= .ok i.size w:=jaO w (by simp[Ju,hi])
   have fc:(Builtin.firstCells i.size 0 (.slice a2 0 c2)).run P w= .ok #[] w:=by
    cases a2 with
    |none=>rfl
    |some a=>simp[Builtin.firstCells,loadCells,loadCellsFrom]
   cases o with
   |none=>simp only[oOk] at ok;subst ok;simp[Builtin.append_,oV,JG w hu,hsz,Builtin.lenOf,fc]
   |some o=>simp[Builtin.append_,oV,JG w hu,hsz,Builtin.lenOf,fc,ok.1,storeCells]
  have e2:(execOp (evS m) ⟨d, .call {callee:= .builtin .append,args:= #[x,y],argTypes:= #[t,t]},ty,pos,af,g⟩).run P w= .ok (.value (oV o xs.length)) w:=by
   simp[execOp,resolve,invoke,builtin,evS,hx,hy,e1]
  rw[e2]
  exact⟨_,hw,o,ok,rfl,rfl⟩
 ·obtain⟨b2,o2,rfl⟩:=hne hys
  have hpos:0<ys.length:=List.length_pos_iff.2 hys
  obtain⟨g',cap',w',hr,h2,h3,h4⟩:=jkR (P:=P) t ty e z E.sz bytes hu hinfo hzs h0' hsl ⟨b2,o2,none⟩ ys.length c2 (jC E ys) (ja8 ys)
   (fun j u hj=>by rw[jbq];exact hS.row hj) (jgL ys) hpos hm hb
  have e2:(execOp (evS m) ⟨d, .call {callee:= .builtin .append,args:= #[x,y],argTypes:= #[t,t]},ty,pos,af,g⟩).run P w= .ok (.value (.slice (some ⟨g',0,none⟩) (xs.length+ys.length) cap')) w':=by
   simp[execOp,resolve,invoke,builtin,evS,hx,hy,hr]
  rw[e2]
  rcases h2.shape with⟨h5,_⟩|⟨g2,cap,cur,h5,hB,hn,hcm,hcs,htk⟩
  ·cases h5
  ·cases h5
   have hcur:cur=((jC E (xs++ys))++cur.toList.drop ((xs.length+ys.length)*E.sz)).toArray:=by
    rw[jbZ,<-htk,List.take_append_drop]
   have hblk: ∀ k,k∈blk (oV o xs.length)->k∈(oH E e xs o).map Prod.fst:=by
    intro k hk
    cases o with
    |none=>simp[oV,blk_nil] at hk
    |some o=>simpa [oV,jd9,oH] using hk
   refine⟨oH E e (xs++ys) (some ⟨g',cap',cur.toList.drop ((xs.length+ys.length)*E.sz)⟩)++F,?_,some ⟨g',cap',cur.toList.drop ((xs.length+ys.length)*E.sz)⟩,?_,rfl,rfl⟩
   ·refine hw.only h3 hblk ?_ ?_ ?_
    ·intro p hp
     simp only[oH,List.mem_singleton] at hp
     subst hp
     have:=hB
     unfold Blk at this
     simp only[cells]
     rw[<-hcur]
     exact this
    ·simp[oH]
    ·intro p hp
     simp only[oH,List.mem_singleton] at hp
     subst hp
     rcases h4 with h4|h4
     ·exact .inl (hblk _ h4)
     ·exact .inr h4
   ·refine⟨by simpa using hn,hcm,?_⟩
    simp only[List.length_append,List.length_drop,Array.length_toList,hcs]
    have:=Nat.mul_le_mul_right E.sz hn
    omega
theorem Eff.appZ {x y:Operand} {t:TypeId} {z v2:Value} {bytes:Nat} {zs:List α} (hx:evO m x=some (oV o xs.length)) (hy:evO m y=some v2) (ht:Jw P t=some e)
  (hinfo:(P.info? e).map (fun i=>(i.zero,i.size,i.bytes))=some (some z,E.sz,bytes)) (hzs:z.cells.size=E.sz) (h0:Nat.blt 0 E.sz=true) (hT:jE (oH E e xs o) H F) (ok:oOk E xs o) (hs:Sli w0 H E v2 ys)
  (hz:xs++ys=zs) (hm':zs.length<=4294967296) (hb':Nat.ble bytes 32768=true):
  Eff P w0 H m ty (.call {callee:= .builtin .append,args:= #[x,y],argTypes:= #[t,t]}) (fun v H'=> ∃ o',oOk E zs o'/\v=oV o' zs.length/\H'=oH E e zs o'++F):=by
 subst hz
 rw[List.length_append] at hm'|-
 exact Eff.appO hx hy ht hinfo hzs h0 hT ok hs hm' hb'
theorem jJ (o:Own) (n:Nat):(oV o n).oneCell'=true:=by cases o<;>rfl
theorem SlW.one {w:World} (h:SlW w E v xs):v.oneCell'=true:=by obtain⟨a,c,rfl,_⟩:=h.shape;rfl
theorem Eff.appLit {x y:Operand} {t:TypeId} {z v2:Value} {bytes b c:Nat} (hx:evO m x=some (.slice (some ⟨b,0,none⟩) 0 c)) (hy:evO m y=some v2) (ht:Jw P t=some e)
  (hinfo:(P.info? e).map (fun i=>(i.zero,i.size,i.bytes))=some (some z,E.sz,bytes)) (hzs:z.cells.size=E.sz) (h0:Nat.blt 0 E.sz=true) (hc:Nat.beq c 0=true) (hT:jx (b,cells [] e) H F) (hs:Sli w0 H E v2 ys)
  (hm:ys.length<=4294967296) (hb:Nat.ble bytes 32768=true):
  Eff P w0 H m ty (.call {callee:= .builtin .append,args:= #[x,y],argTypes:= #[t,t]}) (fun v H'=> ∃ o',oOk E ys o'/\v=oV o' ys.length/\H'=oH E e ys o'++F):=by
 have hc':c=0:=Nat.eq_of_beq_eq_true hc
 subst hc'
 have hT':jE (oH E e [] (some ⟨b,0,[]⟩)) ((b,cells [] e)::F) F:=jE.head (A:=oH E e [] (some ⟨b,0,[]⟩))
 have hs':Sli w0 ((b,cells [] e)::F) E v2 ys:=fun w hw=>hs w (hw.perm hT.perm.symm)
 have:=Eff.appO (P:=P) (w0:=w0) (m:=m) (ty:=ty) (E:=E) (xs:=[]) (o:=some ⟨b,0,[]⟩) (x:=x) (y:=y) hx hy ht hinfo hzs h0 hT' ⟨Nat.le_refl _,Nat.zero_le _,by simp⟩ hs' (by simpa using hm) hb
 refine⟨this.cv,fun w d pos af g hw=>?_⟩
 have h2:=this.run w d pos af g (hw.take hT)
 simp only[List.nil_append,List.length_nil,Nat.zero_add] at h2
 exact h2
theorem Eff.stSl {t:TypeId} {x y:Operand} {i j n:Nat} {u:Value} {x0 x1:α} (hx:evO m x=some (.pointer (some (adr (oV o n) (i*E.sz+j))))) (hy:evO m y=some u) (h1:u.oneCell'=true) (ht:Ju P t=some 1)
  (hT:jE (oH E e xs o) H F) (ok:oOk E xs o) (hi:xs[i]?=some x0) (hj:Nat.blt j E.sz=true) (hl:(E.enc x0).set j u=E.enc x1):Eff P w0 H m ty (.store t x y) (fun _ H'=>H'=oH E e (xs.set i x1) o++F):=by
 refine⟨by simp[jB,cov,hx,hy],fun w d pos af g hw0=>?_⟩
 have hj':j<E.sz:=Nat.le_of_ble_eq_true hj
 have hit:=(List.getElem?_eq_some_iff.1 hi).1
 cases o with
 |none=>simp only[oOk] at ok;subst ok;simp at hi
 |some o=>
  have hw:HF w0 ((o.b,cells (jC E xs++o.tl) e)::F) w:=hw0.takeL hT
  have hlt:i*E.sz+j<(jC E xs++o.tl).length:=by
   rw[List.length_append,ja8]
   have:(i+1)*E.sz<=xs.length*E.sz:=Nat.mul_le_mul_right _ hit
   rw[Nat.succ_mul] at this
   omega
  have he:=Eff.store (P:=P) (w0:=w0) (m:=m) (ty:=ty) (t:=t) (x:=x) (y:=y) (b:=o.b) (o:=i*E.sz+j) (v:=u) (F:=F) (e:=e) (by rw[hx];simp[adr,oV]) hy h1 ht (jx.head) hlt rfl
  refine(he.run w d pos af g hw).mono ?_
  rintro v' w' ⟨H',hh,rfl⟩
  refine⟨_,hh,?_⟩
  rw[jkX hi hj' hl]
  rfl
theorem Eff.stSl0 {t:TypeId} {x y:Operand} {i n:Nat} {u:Value} {x0 x1:α} (hx:evO m x=some (.pointer (some (adr (oV o n) (i*E.sz))))) (hy:evO m y=some u) (h1:u.oneCell'=true) (ht:Ju P t=some 1)
  (hT:jE (oH E e xs o) H F) (ok:oOk E xs o) (hi:xs[i]?=some x0) (hj:Nat.blt 0 E.sz=true) (hl:(E.enc x0).set 0 u=E.enc x1):Eff P w0 H m ty (.store t x y) (fun _ H'=>H'=oH E e (xs.set i x1) o++F):=
 Eff.stSl (j:=0) hx hy h1 ht hT ok hi hj hl
theorem Eff.stSlA {t:TypeId} {x y:Operand} {i n:Nat} {cs:List Value} {x0 x1:α} (hx:evO m x=some (.pointer (some (adr (oV o n) (i*E.sz))))) (hy:evO m y=some (.agg cs.toArray)) (hcs:cs=E.enc x1) (ht:Ju P t=some E.sz)
    (hT:jE (oH E e xs o) H F) (ok:oOk E xs o) (hi:xs[i]?=some x0):Eff P w0 H m ty (.store t x y) (fun _ H'=>H'=oH E e (xs.set i x1) o++F):=by
  refine⟨by simp[jB,cov,hx,hy],fun w d pos af g hw0=>?_⟩
  have hit:=(List.getElem?_eq_some_iff.1 hi).1
  subst hcs
  cases o with
  |none=>simp only[oOk] at ok;subst ok;simp at hi
  |some o=>
    have hw:HF w0 ((o.b,cells (jC E xs++o.tl) e)::F) w:=hw0.takeL hT
    have he:=Eff.storeA (P:=P) (w0:=w0) (m:=m) (ty:=ty) (t:=t) (x:=x) (y:=y) (b:=o.b) (o:=i*E.sz) (cs:=E.enc x1) (l:=jC E xs++o.tl) (F:=F) (e:=e) (by rw[hx];simp[adr,oV]) hy (by rw[E.len];exact ht) (jx.head)
      (by rw [List.length_append, ja8 (E := E) xs, E.len]
          have:(i+1)*E.sz<=xs.length*E.sz:=Nat.mul_le_mul_right _ hit
          rw[Nat.succ_mul] at this
          omega) (E.one x1) rfl
    refine(he.run w d pos af g hw).mono ?_
    rintro v' w' ⟨H',hh,rfl⟩
    refine⟨_,hh,?_⟩
    rw[flat_laid hi]
    rfl
def repL (zl:List Value):Nat->List Value
 |0=> []
 |n+1=>zl++repL zl n
theorem jjg (zl:List Value) (n:Nat):(repL zl n).length=n*zl.length:=by
 induction n with
 |zero=>simp[repL]
 |succ n ih=>simp only[repL,List.length_append,ih,Nat.succ_mul];omega
theorem repL_get (zl:List Value): ∀ (n i:Nat),i<n*zl.length->(repL zl n)[i]?=zl[i%zl.length]? :=by
 intro n
 induction n with
 |zero=>intro i h;omega
 |succ n ih=>
  intro i h
  simp only[repL]
  by_cases hi:i<zl.length
  ·rw[List.getElem?_append_left hi,Nat.mod_eq_of_lt hi]
  ·rw[List.getElem?_append_right (by omega),ih _ (by rw[Nat.succ_mul] at h;omega),<-Nat.mod_eq_sub_mod (by omega)]
theorem jf8 (zl:List Value) (n:Nat):(Array.range (n*zl.length)).map (fun i=>zl.toArray[i%zl.toArray.size]!)=(repL zl n).toArray:=by
 apply Array.ext_getElem?
 intro i
 simp only[List.getElem?_toArray,Array.getElem?_map]
 by_cases h:i<n*zl.length
 ·rw[repL_get zl n i h]
  have h0:0<zl.length:=by
   rcases Nat.eq_zero_or_pos zl.length with h'|h'
   ·rw[h'] at h;omega
   ·exact h'
  have hm:i%zl.length<zl.length:=Nat.mod_lt _ h0
  have e1:(Array.range (n*zl.length))[i]?=some i:=by simp[h]
  rw[e1,List.getElem?_eq_getElem hm]
  simp[hm]
 ·rw[List.getElem?_eq_none (by rw[jjg];omega)]
  simp
  omega
theorem jit {x:α} (n:Nat):repL (E.enc x) n=jC E (List.replicate n x):=by
 induction n with
 |zero=>rfl
 |succ n ih=>rw [List.replicate_succ,jci,<-ih];rfl
theorem Eff.buildS {t:TypeId} {len z:Nat} {ps:List (Nat × Operand)} {vs:List (Nat × Value)} {zl l:List Value} (hp:jbU m ps vs) (ht:Jw P t=some e) (hz:Ju P e=some z) (hlim:Nat.ble (len*z) 16777216=true)
  (hz0:jeh P e=some zl) (hzl:zl.length=z) (hf:jbu (fun i=>some (i*z,z)) (repL zl len) vs l):
  Eff P w0 H m ty (.buildSlice t len ps.toArray) (fun v H'=> ∃ b,v= .slice (some ⟨b,0,none⟩) len len/\H'=(b,cells l e)::H):=by
 refine⟨by simp only[jB,List.toList_toArray];exact hp.cov,fun w d pos af g hw=>?_⟩
 obtain⟨zv,hz1,hz2⟩:=jgy w hz0
 have hu:P.underlying t=some (.slice e):=by unfold Jw at ht;split at ht<;>simp_all
 have hlim': ¬(len*z>2^24):=by have:=Nat.le_of_ble_eq_true hlim;omega
 have hfl:=jgN hf
 have e2:(ps.toArray.map fun(p:Nat × Operand)=>(p.1,evS m p.2))=vs.toArray:=by simp[hp.map]
 have e3:(execOp (evS m) ⟨d, .buildSlice t len ps.toArray,ty,pos,af,g⟩)=(do pure (.value (<-Instr.buildSlice t len vs.toArray)):Sem Next):=by
  simp only[execOp]
  rw[show(ps.toArray.map fun x=>match x with|(i,x)=>(i,evS m x))=vs.toArray from e2]
 have e4:(Instr.buildSlice t len vs.toArray).run P w= .ok (.slice (some ⟨w.heap.size,0,none⟩) len len) (w.alloc (cells l e)):=by
  by_cases h0:len*z=0
  ·have hr:repL zl len=[]:=List.eq_nil_of_length_eq_zero (by rw[jjg,hzl];exact h0)
   rw[hr] at hfl
   have hfl':Instr.fill (fun i=>some (i*z,z)) #[] vs=some l.toArray:=hfl
   simp only[Instr.buildSlice,Sem.run_bind,JG w hu,Result.andThen,jaO w hz,h0,show ¬((0:Nat)>2^24) from by decide,if_false,if_true,Sem.run_pure]
   rw[show(Array.map (fun x=>(#[]:Array Value)[x%(#[]:Array Value).size]!) (Array.range 0))= #[] from by simp,hfl']
   simp[newRow,newObj,Sem.run,Bind.bind,Sem.bind,Pure.pure,cells]
  ·subst hzl
   have hm:=jf8 zl len
   have hne: ¬(2^24<len*zl.length):=hlim'
   simp only[Instr.buildSlice,Sem.run_bind,JG w hu,Result.andThen,jaO w hz,hlim',if_false,h0,Sem.run_pure,hz1,hz2,hm,List.toList_toArray,hfl]
   simp[newRow,newObj,Sem.run,Bind.bind,Sem.bind,Pure.pure,cells]
 rw[e3]
 simp only[Sem.run_bind,e4,Result.andThen,Sem.run_pure]
 exact⟨_,hw.alloc _,_,rfl,rfl⟩
theorem Eff.makeS {t:TypeId} {x y:Operand} {z:Value} {n bytes:Nat} {x0:α} (hx:evO m x=some (.int .i64 (n:Nat))) (hy:evO m y=some (.int .i64 (n:Nat))) (ht:Jw P t=some e)
  (hinfo:(P.info? e).map (fun i=>(i.zero,i.size,i.bytes))=some (some z,E.sz,bytes)) (hz:z.cells=(E.enc x0).toArray) (hb':Nat.ble bytes 65536=true) (hn':n<=4294967296):
  Eff P w0 H m ty (.makeSlice t x y) (fun v H'=> ∃ b,v=oV (some ⟨b,n,[]⟩) n/\H'=oH E e (List.replicate n x0) (some ⟨b,n,[]⟩)++H):=by
 refine⟨by simp[jB,cov,hx,hy],fun w d pos af g hw=>?_⟩
 have hu:P.underlying t=some (.slice e):=by unfold Jw at ht;split at ht<;>simp_all
 have hb:bytes*n<=281474976710656:=Nat.le_trans (Nat.mul_le_mul (Nat.le_of_ble_eq_true hb') hn') (by decide)
 have hn:n<=9223372036854775807:=by omega
 have hr:=jkQ (P:=P) t e z E.sz bytes hu hinfo .i64 .i64 n hb hn w
 have hmade:madeCells z.cells (n*E.sz)=(jC E (List.replicate n x0)).toArray:=by
  rw[<-jit,hz,<-jf8,E.len]
  rfl
 rw[hmade] at hr
 have e1:(execOp (evS m) ⟨d, .makeSlice t x y,ty,pos,af,g⟩).run P w= .ok (.value (.slice (some ⟨w.heap.size,0,none⟩) n n)) (w.alloc (cells (jC E (List.replicate n x0)) e)):=by
  simp[execOp,evS,hx,hy,hr]
 rw[e1]
 refine⟨_,hw.alloc _,w.heap.size,rfl,?_⟩
 simp[oH]
theorem jcB (t:TypeId) (x y:Value):Op.equal t x y=Op.equalIn (9999+1) t x y:=rfl
def ptrB (P:Program) (t:TypeId):Bool:=match P.underlying t with
 |some (.pointer _)=>true
 |_=>false
theorem eq_ptr {t:TypeId} {a b:Value} {r:Bool} (w:World) (ht:ptrB P t=true) (h:(∃ p,a= .pointer none/\b= .pointer p/\r=p.isNone)\/(∃ p,a= .pointer p/\b= .pointer none/\r=p.isNone)):(Op.equal t a b).run P w= .ok r w:=by
 unfold ptrB at ht
 split at ht
 ·rename_i q hu
  rcases h with⟨p,rfl,rfl,rfl⟩|⟨p,rfl,rfl,rfl⟩
  ·rw[jcB,Op.equalIn.eq_2,Sem.run_bind,JG w hu];rfl
  ·cases p<;>(rw [jcB,Op.equalIn.eq_2,Sem.run_bind,JG w hu];rfl)
 ·cases ht
theorem Val.eqlPN {t u:TypeId} {x y:Operand} {p:Option Addr} (hx:evO m x=some (.pointer p)) (hy:evO m y=some (.pointer none)) (ht:ptrB P t=true):Val P w0 H m ty (.binOp .eql t x y u) (.bool p.isNone):=
 Val.binV hx hy (by simp) (by simp) (fun w=>by simp[binOp,eq_ptr w ht (.inr ⟨p,rfl,rfl,rfl⟩)])
theorem eq_sl {t e:TypeId} {a:Option Addr} {l c l' c':Nat} (w:World) (ht:Jw P t=some e):(Op.equal t (.slice a l c) (.slice none l' c')).run P w= .ok a.isNone w:=by
 have hu:P.underlying t=some (.slice e):=by unfold Jw at ht;split at ht<;>simp_all
 cases a<;>(rw [jcB,Op.equalIn.eq_2,Sem.run_bind,JG w hu];rfl)
theorem Val.eqlSN {t u e:TypeId} {x y:Operand} {a:Option Addr} {l c l' c':Nat} (hx:evO m x=some (.slice a l c)) (hy:evO m y=some (.slice none l' c')) (ht:Jw P t=some e):Val P w0 H m ty (.binOp .eql t x y u) (.bool a.isNone):=
 Val.binV hx hy (by simp) (by simp) (fun w=>by simp[binOp,eq_sl w ht])
theorem Val.isT {op:Op} {p:Prop} [Decidable p] (h:Val P w0 H m ty op (.bool (decide p))) (hp:p):Val P w0 H m ty op (.bool true):=by rw[decide_eq_true hp] at h;exact h
theorem Val.isF {op:Op} {p:Prop} [Decidable p] (h:Val P w0 H m ty op (.bool (decide p))) (hp: ¬p):Val P w0 H m ty op (.bool false):=by rw[decide_eq_false hp] at h;exact h
def jdQ (P:Program) (t:TypeId):Bool:=match P.underlying t with
 |some .bool=>true
 |_=>false
theorem eq_bool {t:TypeId} {a b:Bool} (w:World) (ht:jdQ P t=true):(Op.equal t (.bool a) (.bool b)).run P w= .ok (a==b) w:=by
 unfold jdQ at ht
 split at ht
 ·rename_i hu
  rw[jcB,Op.equalIn.eq_2,Sem.run_bind,JG w hu];rfl
 ·cases ht
theorem Val.eqlB {t u:TypeId} {x y:Operand} {a b:Bool} (hx:evO m x=some (.bool a)) (hy:evO m y=some (.bool b)) (ht:jdQ P t=true):Val P w0 H m ty (.binOp .eql t x y u) (.bool (a==b)):=
 Val.binV hx hy (by simp) (by simp) (fun w=>by simp[binOp,eq_bool w ht])
theorem Val.neqB {t u:TypeId} {x y:Operand} {a b:Bool} (hx:evO m x=some (.bool a)) (hy:evO m y=some (.bool b)) (ht:jdQ P t=true):Val P w0 H m ty (.binOp .neq t x y u) (.bool (a !=b)):=
 Val.binV hx hy (by simp) (by simp) (fun w=>by simp[binOp,eq_bool w ht,bne])
theorem Val.notB {t:TypeId} {x:Operand} {a:Bool} (hx:evO m x=some (.bool a)):Val P w0 H m ty (.unOp .not t x) (.bool (!a)):=by
 cases a with
 |true=>exact Val.notT hx
 |false=>exact Val.notF hx
theorem Val.pickB {c x y:Operand} {a b d:Bool} (hc:evO m c=some (.bool d)) (hx:evO m x=some (.bool a)) (hy:evO m y=some (.bool b)):Val P w0 H m ty (.pick c x y) (.bool (if d then a else b)):=by
 cases d with
 |true=>exact Val.pickT hc hx (by simp[cov,hy])
 |false=>exact Val.pickF hc (by simp[cov,hx]) hy
end
section
variable {P : Program} {w0 : World} {ro : Option Nat} {n : Nat} {Q : Exit -> Act -> World -> Prop} {ds : List Deferred} {m : jo} {H R : jb} {ops : Array Oper} {ord : Ord}
variable {op : Op} {ty : TypeId} {pos : String} {af : Array Edge}
theorem KD.eM {i d:Nat} {T:Jc} (hi:ops[i]?=some ⟨some d,op,ty,pos,af,none⟩) (hd:Nat.blt d n=true) (he:Eff P w0 H m ty op T) (h: ∀ v H',T v H'->Part H' H/\KD P w0 ro n ops R ord Q ds ((d,v)::m) H'):KD P w0 ro n ops R ((i,5)::ord) Q ds m H:=
 KD.makes hi fun a w ha hw=>⟨by simp[Region.wanted],by
  rw[ha.exec (o:=⟨some d,op,ty,pos,af,none⟩) he.cv]
  exact(he.run w _ _ _ _ hw).mono fun v w' ⟨H',hh,hT⟩=>⟨_,H',ha.put hd v,hh,(h v H' hT).1,(h v H' hT).2⟩⟩
theorem KD.eX {i d:Nat} {T:Jc} (hi:ops[i]?=some ⟨some d,op,ty,pos,af,none⟩) (hd:Nat.blt d n=true) (he:Eff P w0 H m ty op T) (h: ∀ v H',T v H'->KD P w0 ro n ops R ord Q ds ((d,v)::m) H'):KD P w0 ro n ops R ((i,4)::ord) Q ds m H:=
 KD.actsX hi fun a w ha hw=>⟨by simp[Region.wanted],by
  rw[ha.exec (o:=⟨some d,op,ty,pos,af,none⟩) he.cv]
  exact(he.run w _ _ _ _ hw).mono fun v w' ⟨H',hh,hT⟩=>⟨_,H',ha.put hd v,hh,h v H' hT⟩⟩
theorem KD.eNX {i:Nat} {T:Jc} (hi:ops[i]?=some ⟨none,op,ty,pos,af,none⟩) (he:Eff P w0 H m ty op T) (h: ∀ v H',T v H'->KD P w0 ro n ops R ord Q ds m H'):KD P w0 ro n ops R ((i,4)::ord) Q ds m H:=
 KD.actsX hi fun a w ha hw=>⟨by simp[Region.wanted],by
  rw[ha.exec (o:=⟨none,op,ty,pos,af,none⟩) he.cv]
  exact(he.run w _ _ _ _ hw).mono fun v w' ⟨H',hh,hT⟩=>⟨_,H',ha,hh,h v H' hT⟩⟩
theorem jR.e {d:Nat} {T:Jc} (hd:Nat.blt d n=true) (he:Eff P w0 H m ty op T) (h: ∀ v H',T v H'->Part H' R/\KD P w0 ro n ops R ord Q ds ((d,v)::m) H'):jR P w0 ro n ops R ord Q ds m H ⟨some d,op,ty,pos,af,none⟩:=
 fun a w ha hw=>⟨by simp[Region.wanted],by
  rw[ha.exec (o:=⟨some d,op,ty,pos,af,none⟩) he.cv]
  exact(he.run w _ _ _ _ hw).mono fun v w' ⟨H',hh,hT⟩=>⟨_,H',ha.put hd v,hh,(h v H' hT).1,(h v H' hT).2⟩⟩
theorem jR.callc {d:Nat} {f:Operand} {as0:List Operand} {ts:Array TypeId} {fv:Value} {vs:List Value} (hd:Nat.blt d n=true) (hf:evO m f=some fv) (ha:EvL m as0 vs)
  (h: ∀ T:Jc,(∀ v H',Part H' R->KD P w0 ro n ops R ord Q ds ((d,v)::m) H'->T v H')->CallV P w0 fv vs H T):jR P w0 ro n ops R ord Q ds m H ⟨some d, .call {callee:= .value f,args:=as0.toArray,argTypes:=ts},ty,pos,af,none⟩:=
 jR.e hd (Eff.call hf ha (h (fun v H'=>Part H' R/\KD P w0 ro n ops R ord Q ds ((d,v)::m) H') fun _ _ p k=>⟨p,k⟩)) fun _ _ k=>k
theorem jR.eY {d g e:Nat} {b:Bool} {T:Jc} (hge:(ops[g]?).bind (·.dst)=some e) (hg:look m e=some (.bool b)) (hd:Nat.blt d n=true) (he:Eff P w0 H m ty op T) (h: ∀ v H',T v H'->Part H' R/\KD P w0 ro n ops R ord Q ds ((d,v)::m) H'):jR P w0 ro n ops R ord Q ds m H ⟨some d,op,ty,pos,af,some (g,b)⟩:=
 fun a w ha hw=>⟨by simp only[Region.wanted];rw [ha.yielded hge hg];simp,by
  rw[ha.exec (o:=⟨some d,op,ty,pos,af,some (g,b)⟩) he.cv]
  exact(he.run w _ _ _ _ hw).mono fun v w' ⟨H',hh,hT⟩=>⟨_,H',ha.put hd v,hh,(h v H' hT).1,(h v H' hT).2⟩⟩
theorem jR.callcY {d g e:Nat} {b:Bool} {f:Operand} {as0:List Operand} {ts:Array TypeId} {fv:Value} {vs:List Value} (hge:(ops[g]?).bind (·.dst)=some e) (hg:look m e=some (.bool b)) (hd:Nat.blt d n=true) (hf:evO m f=some fv) (ha:EvL m as0 vs)
  (h: ∀ T:Jc,(∀ v H',Part H' R->KD P w0 ro n ops R ord Q ds ((d,v)::m) H'->T v H')->CallV P w0 fv vs H T):jR P w0 ro n ops R ord Q ds m H ⟨some d, .call {callee:= .value f,args:=as0.toArray,argTypes:=ts},ty,pos,af,some (g,b)⟩:=
 jR.eY hge hg hd (Eff.call hf ha (h (fun v H'=>Part H' R/\KD P w0 ro n ops R ord Q ds ((d,v)::m) H') fun _ _ p k=>⟨p,k⟩)) fun _ _ k=>k
end
section
variable {P : Program} {w0 : World} {ro : Option Nat} {n : Nat} {Q : Exit -> Act -> World -> Prop} {ds : List Deferred} {m : jo} {H R : jb} {ops : Array Oper} {ord : Ord}
variable {ty : TypeId} {pos : String} {af : Array Edge}
theorem KD.callcX {i d:Nat} {f:Operand} {as0:List Operand} {ts:Array TypeId} {fv:Value} {vs:List Value} (hi:ops[i]?=some ⟨some d, .call {callee:= .value f,args:=as0.toArray,argTypes:=ts},ty,pos,af,none⟩) (hd:Nat.blt d n=true) (hf:evO m f=some fv) (ha:EvL m as0 vs)
  (h: ∀ T:Jc,(∀ v H',Part H' H'->KD P w0 ro n ops R ord Q ds ((d,v)::m) H'->T v H')->CallV P w0 fv vs H T):KD P w0 ro n ops R ((i,4)::ord) Q ds m H:=
 KD.eX hi hd (Eff.call hf ha (h (fun v H'=>KD P w0 ro n ops R ord Q ds ((d,v)::m) H') fun _ _ _ k=>k)) fun _ _ k=>k
end
section
variable {P : Program} {w0 : World} {m : jo} {H : jb} {ty : TypeId}
theorem Val.indexV1 {t e:TypeId} {x y:Operand} {cs:List Value} {v:Value} {len:Nat} {i:Int} {k:IntKind} (hx:evO m x=some (.agg cs.toArray)) (hy:evO m y=some (.int k i)) (ht:jcI P t=some (len,e)) (hz:Ju P e=some 1) (h1:oneB P e=true) (hj:0<=i/\i<len) (hv:cs[i.toNat]?=some v):Val P w0 H m ty (.index t x y) v:=
 ⟨by simp[jB,cov,hx,hy],fun w d pos af g _=>by
  have hu:P.underlying t=some (.array len e):=by unfold jcI at ht;split at ht<;>simp_all
  have hp:=jez (P:=P) w (cs:=cs.toArray) (off:=i.toNat) h1 (by simpa using hv)
  have hr:(Instr.index t (.agg cs.toArray) (.int k i)).run P w= .ok v w:=by
   simp[Instr.index,asIntOf,JG w hu,hj.1,hj.2,jaO w hz,hp]
  simp[execOp,evS,hx,hy,hr]⟩
end
section
variable {P : Program} {w0 : World} {ro : Option Nat} {n : Nat} {Q : Exit -> Act -> World -> Prop} {ds : List Deferred} {m : jo} {H R : jb} {ops : Array Oper} {ord : Ord}
variable {ty : TypeId} {pos : String} {af : Array Edge}
theorem KD.callcM {i d:Nat} {f:Operand} {as0:List Operand} {ts:Array TypeId} {fv:Value} {vs:List Value} (hi:ops[i]?=some ⟨some d, .call {callee:= .value f,args:=as0.toArray,argTypes:=ts},ty,pos,af,none⟩) (hd:Nat.blt d n=true) (hf:evO m f=some fv) (ha:EvL m as0 vs)
  (h: ∀ T:Jc,(∀ v H',Part H' H->KD P w0 ro n ops R ord Q ds ((d,v)::m) H'->T v H')->CallV P w0 fv vs H T):KD P w0 ro n ops R ((i,5)::ord) Q ds m H:=
 KD.eM hi hd (Eff.call hf ha (h (fun v H'=>Part H' H/\KD P w0 ro n ops R ord Q ds ((d,v)::m) H') fun _ _ p k=>⟨p,k⟩)) fun _ _ k=>k
end
open Go.RowKit Go.ChangeShapes Go.WideShapes Go.ChangeAt Go.Deep
variable {P : Program}
theorem slice_sl {α:Type} {E:Enc α} {H:Type} {enc:TypeId × Value->H} {W:World} {base:Nat} {t e:TypeId} (ht:P.underlying t=some (.slice e)) (hk:P.cellsOf e=E.sz) (hk0:0<E.sz) {v:Value} {d:DataW H} {p:List MemPlace}
  (ho:Value.okWide P W .any base t v) (h:DataW.Trod enc P W 0 (fun _=>true) true t v d p) (Ok:α->Prop)
  (hR: ∀ fuel cs x,DataW.trod enc P W 0 (fun _=>true) true fuel e cs=some x->cs.length=E.sz-> ∃ y,cs=E.enc y/\Ok y):
  ∃ ys:List α,SlW W E v ys/\ ∀ y∈ys,Ok y:=by
 obtain⟨a,len,cap,rfl⟩:=okWide_slice ht ho
 obtain⟨fuel,hf⟩:=h
 rcases open_slice ht hf with⟨hcs,_⟩|⟨a',len',cap',m,n,D,Pl,hcs,_,hl,hm,hmm,_,hx⟩
 ·simp[Value.cells] at hcs
  obtain⟨rfl,rfl,rfl⟩:=hcs
  exact⟨[],SlW.nil W E,fun y hy=>by cases hy⟩
 ·simp[Value.cells] at hcs
  obtain⟨rfl,rfl,rfl⟩:=hcs
  simp only[if_true] at hmm
  subst hmm
  have key: ∀ i,i<len-> ∃ y,Ok y/\ ∀ j,j<E.sz->W.cell? (a'.add (i*E.sz+j))=(E.enc y)[j]? :=by
   intro i hi
   obtain⟨cs',h1,h2⟩:=hx i (by omega)
   rw[hk] at h1
   obtain⟨_,hlen,hat⟩:=World.cells?_some h1
   obtain⟨y,rfl,hy⟩:=hR _ _ _ h2 hlen
   exact⟨y,hy,fun j hj=>by rw[<-add_add];exact hat j hj⟩
  obtain⟨ys,hys,hall⟩:=jhN len (fun i y=>Ok y/\ ∀ j,j<E.sz->W.cell? (a'.add (i*E.sz+j))=(E.enc y)[j]?) key
  subst hys
  have hspot:0<ys.length-> ∃ b off,a'=⟨b,off,none⟩:=by
   intro hpos
   obtain⟨b,off,spot⟩:=a'
   obtain⟨y0,_,hc0⟩:=key 0 hpos
   have h1:=hc0 0 hk0
   rw[List.getElem?_eq_getElem (by rw[E.len];exact hk0)] at h1
   have hsp:spot=none:=by simpa [Addr.add] using World.cell?_spot h1
   subst hsp
   exact⟨b,off,rfl⟩
  refine⟨ys,⟨⟨some a',m,rfl,hl,hm,fun hne=>?_⟩,?_⟩,?_⟩
  ·obtain⟨b,off,rfl⟩:=hspot (List.length_pos_iff.2 hne)
   exact⟨b,off,rfl⟩
  ·intro i y hy j u hu
   have hi:=(List.getElem?_eq_some_iff.1 hy).1
   obtain⟨b,off,rfl⟩:=hspot (by omega)
   have hj:j<E.sz:=by have:=(List.getElem?_eq_some_iff.1 hu).1;rwa[E.len] at this
   have:=(hall i y hy).2 j hj
   rw[jbq,hu] at this
   simpa [adr] using this
  ·intro y hy
   obtain⟨i,hi⟩:=List.getElem?_of_mem hy
   exact(hall i y hi).1
theorem Call.calls {w0:World} {f:FuncId} {args:List Value} {r:Value} (h:Call P w0 f args [] (fun v H'=>v=r/\H'=[])):Calls P f args.toArray w0 (fun e w'=>e= .returned r/\jN [] w0 w'):=
 (h.out w0 (HF.self w0)).mono fun e w' ⟨v,H',he,hh,h1,h2⟩=>by subst h1;exact⟨he,hh.old⟩
