/-The walker and the contracts that the law needs,part 13. -/
import Derived.RecoverIn
import Derived.SizedLaws
import Derived.Lib.SmallJoins
import Derived.ChangeMaps5
import Derived.Test.YtebiafomiemgbaaGreatDoorJ12
set_option linter.unusedVariables false set_option linter.unusedSimpArgs false set_option linter.unusedVariables false
set_option linter.unusedSimpArgs false
namespace Go.Proofs.YtebiafomiemgbaaGreatDoor
open Go.RowKit
section
variable {P : Program} {w0 : World} {n : Nat} {Q : Exit → Act → World → Prop} {ds : List Deferred} {m : jk} {H F : jb} {ops : Array Oper} {rest : List Oper} {ty : TypeId} {pos : String} {af : Array Edge}
theorem KL.deferC {f:Operand} {g:FuncId} {cap:Array Value} (hf:evO m f=some (.func (.func g) #[] cap))
  (h:KL P w0 none n ops rest Q ({target:= .fn (.func g) cap,args:= #[]}::ds) m H):
  KL P w0 none n ops (⟨none, .defer {callee:= .value f,args:= #[],argTypes:= #[]},ty,pos,af,none⟩::rest) Q ds m H:= .mk fun a w ha hw=>
 wpListIn_plain rfl fun Kf hK=>by
  unfold Oper.wpIn
  refine⟨fun _ _=>trivial,?_⟩
  have e:((Oper.semAt (fen none).round a.eval ⟨none, .defer {callee:= .value f,args:= #[],argTypes:= #[]},ty,pos,af,none⟩).run P w)= .ok (.defer {target:= .fn (.func g) cap,args:= #[]}) w:=by
   rw[show(fen none).round=none from rfl,Oper.semAt_none]
   simp[execOp,resolve,ha.eval hf,Deferred.ofValue]
  rw[e,Oper.uponIn_defer]
  exact hK _ _ (h.out {a with defers:={target:= .fn (.func g) cap,args:= #[]}::a.defers} w ⟨by rw[ha.1],ha.2.1,ha.2.2⟩ hw)
theorem KE.finD {fn:Func} {R:Ji} {g:FuncId} {cap:Array Value} {H':jb} {rs:List ResultVar} {vs:List Value}
  (hc: ∀ w,HF w0 H w→CallsDIn (fen none) 0 P g cap .returning w (fun e u' w'=>(∃ v,e= .returned v)∧u'= .returning∧HF w0 H w'))
  (he:jat P g=true) (hr:fn.results=rs.toArray) (hv:jaC P w0 m H rs vs) (hp:Part H H') (h:R (jbF vs) H'):
  KE w0 n .ret (bodyPostM (fen none) 0 P fn (JU w0 R)) [{target:= .fn (.func g) cap,args:= #[]}] m H:=
 .mk fun a w ha hw=>by
  show LeavesInM (fen none) 0 P fn a.tmps (JU w0 R) a.defers .returning w
  rw[ha.1]
  refine⟨by simp, .inr ⟨fun hh=>by simp[fen,Fence.wide] at hh, .func g,cap,g,cap,rfl,?_,fun _ _=>trivial,?_⟩⟩
  ·have:=jck he cap w
   show(callFunc g (#[]++cap)).run P w=_
   grind
  ·refine(hc w hw).mono ?_
   rintro e u' w' ⟨⟨v,rfl⟩,rfl,hw'⟩
   show LeavesInM (fen none) 0 P fn a.tmps (JU w0 R) [] (settle .returning) w'
   exact⟨jbF vs,hv.results hr hw' ha.2.2,jbF vs,H',rfl,hw'.part hp,h⟩
end
section
variable {P : Program} {w0 : World} {H F : jb} {m : jk} {ty : TypeId} {α : Type} {E : Enc α}
theorem Val.negW {t:TypeId} {x:Operand} {k:IntKind} {a:Int} (hx:evO m x=some (.int k a)):Val P w0 H m ty (.unOp .neg t x) (.int k (k.wrap (-a))):=
 ⟨by grind[jm,cov],fun w d pos af g _=>by simp[execOp,evS,hx,Op.unary,Op.intArith]⟩
def cleared (xs:List α) (i h:Nat) (x0:α):List α:=xs.take i++List.replicate (h-i) x0++xs.drop h
theorem jgw {xs:List α} {i h:Nat} {x0:α} (hi:i≤h) (hh:h≤xs.length):(cleared xs i h x0).length=xs.length:=by
 grind[cleared]
theorem jl7 {xs:List α} {i:Nat} {x0:α}:cleared xs i i x0=xs:=by simp[cleared]
theorem clr_all {xs:List α} {o:Own} (ok:oOk E xs o):oV o xs.length=subV (oV o xs.length) 0 xs.length E.sz:=(sub_all o xs.length E.sz (fun h=>by grind[oOk])).symm
theorem jjE {xs:List α} {x0:α}:cleared xs 0 xs.length x0=List.replicate xs.length x0:=by simp[cleared]
theorem Eff.clearS {x:Operand} {t e:TypeId} {xs:List α} {o:Own} {i h:Nat} {vd:Value} {x0:α} (hx:evO m x=some vd) (hvd:vd=subV (oV o xs.length) i h E.sz) (ht:Ja P t=some e)
  (hz0:jgh P e=some (E.enc x0)) (hi:i≤h) (hh:h≤xs.length) (hT:JA (oH E e xs o) H F) (ok:oOk E xs o):
  Eff P w0 H m ty (.call {callee:= .builtin .clear,args:= #[x],argTypes:= #[t]}) (fun v H'=>v= .tuple #[]∧oOk E (cleared xs i h x0) o∧H'=oH E e (cleared xs i h x0) o++F):=by
 refine⟨by grind[jm,jaI,cov],fun w d pos af g hw0=>?_⟩
 have hw:=hw0.takeL hT
 have hu:P.underlying t=some (.slice e):=by grind[Ja]
 by_cases hn:h-i=0
 ·have hie:i=h:=by omega
  subst hie
  rw[jl7]
  have e3:(Builtin.clear_ #[t] ty #[vd]).run P w= .ok (.tuple #[]) w:=by
   subst hvd
   cases o with
   |none=>simp[Builtin.clear_,jQ w hu,oV,subV]
   |some ob=>
    simp only[oV,subV,hn]
    split<;>simp[Builtin.clear_,jQ w hu]
  have e4:(execOp (evS m) ⟨d, .call {callee:= .builtin .clear,args:= #[x],argTypes:= #[t]},ty,pos,af,g⟩).run P w= .ok (.value (.tuple #[])) w:=by
   simp[execOp,resolve,invoke,builtin,evS,hx,e3]
  rw[e4]
  exact⟨_,hw,rfl,ok,rfl⟩
 ·cases o with
  |none=>grind[oOk]
  |some ob=>
   obtain⟨g1,g2,g3⟩:=ok
   obtain⟨k,hk⟩: ∃ k,h-i=k+1:=⟨h-i-1,by omega⟩
   have e2:vd= .slice (some ⟨ob.b,i*E.sz,none⟩) (k+1) (ob.c-i):=by
    subst hvd
    simp only[oV,subV]
    rw[if_neg (by omega),hk]
    simp[Addr.add]
    omega
   rw[e2] at hx
   obtain⟨zv,hz1,hz2⟩:=jiv w hz0
   have hcl:(jx E (List.replicate (k+1) x0)).length=(k+1)*E.sz:=by grind[jbT]
   have hfit:i*E.sz+(k+1)*E.sz≤xs.length*E.sz:=by rw[←Nat.add_mul];exact Nat.mul_le_mul_right _ (by omega)
   have hst:=run_storeCells_at P ob.b (i*E.sz) e (jx E (List.replicate (k+1) x0)) 0 (jx E xs++ob.tl).toArray w (hw.get _ (.head _))
    (by grind[jbT]) (jiP _)
   simp only[Nat.add_zero] at hst
   have hzc:(Builtin.zeroCells zv.cells (k+1)).toList=jx E (List.replicate (k+1) x0):=by
    rw[hz2]
    have:=jh5 (E.enc x0) (k+1)
    simp only[List.size_toArray,E.len] at this
    simp only[Builtin.zeroCells,List.size_toArray,E.len]
    rw[this,←jkc]
   have e4:(execOp (evS m) ⟨d, .call {callee:= .builtin .clear,args:= #[x],argTypes:= #[t]},ty,pos,af,g⟩).run P w= .ok (.value (.tuple #[])) (w.setRow ob.b (over (jx E xs++ob.tl).toArray (i*E.sz) (jx E (List.replicate (k+1) x0)))):=by
    have:(Builtin.clear_ #[t] ty #[.slice (some ⟨ob.b,i*E.sz,none⟩) (k+1) (ob.c-i)]).run P w= .ok (.tuple #[]) (w.setRow ob.b (over (jx E xs++ob.tl).toArray (i*E.sz) (jx E (List.replicate (k+1) x0)))):=by
     simp[Builtin.clear_,jQ w hu,hz1,hzc,hst,over,Result.andThen]
    simp[execOp,resolve,invoke,builtin,evS,hx,this]
   rw[e4]
   refine⟨_,hw.setRow,rfl,?_,?_⟩
   ·simp only[oOk,jgw hi hh]
    exact⟨g1,g2,g3⟩
   ·simp only[oH,List.cons_append,List.nil_append,cells]
    congr 3
    unfold over cleared
    congr 1
    simp only[hcl]
    rw[←Nat.add_mul,jjr xs i (by omega),show i+(k+1)=h by omega,jjs xs h hh,jc4,jc4,hk]
    simp
end
open Go.RowKit Go.ChangeShapes Go.WideShapes Go.ChangeAt Go.Deep Go.Joins
set_option maxRecDepth 100000
def jcJ (w:World) (e:Ending) (w':World):Prop:=e= .returned (.bool true)∧jY [] w w'
def i64ok (z:Int):Prop:= -9223372036854775808≤z∧z≤9223372036854775807
theorem wf_i64 {z:Int} (h:(Lit.int .i64 z).wf=true):i64ok z:=by simpa [Lit.wf,IntKind.min,IntKind.max,IntKind.signed,IntKind.bits,i64ok] using h
section
variable {H : Type} {enc : TypeId × Value → H} {W : World}
theorem int_in {fuel:Nat} {cs:List Value} {x:DataW H × List MemPlace} (hx:DataW.trod enc Tryz.prog W 0 (fun _=>true) true fuel 3 cs=some x): ∃ y:Int,cs=iE.enc y∧i64ok y:=by
 obtain⟨a0,e0,-,w0⟩:=DataW.trod_int Tryz.underlying3 hx
 exact⟨a0,e0,wf_i64 w0⟩
end
end Go.Proofs.YtebiafomiemgbaaGreatDoor
namespace Go.Proofs.YtebiafomiemgbaaGreatDoor.Sw
open Go.Proofs.YtebiafomiemgbaaGreatDoor renaming lo → qL, hi → qH
open Go.RowKit
set_option maxRecDepth 10000
def uE:Enc Int:=⟨fun z=> [.int .u64 z],1,fun _=>rfl,by intro x v hv;simp at hv;subst hv;rfl⟩
def boE:Enc Bool:=⟨fun z=> [.bool z],1,fun _=>rfl,by intro x v hv;simp at hv;subst hv;rfl⟩
theorem jv {α:Type} {l:List α} {k:Nat} {x:α} (h:l[k]?=some x):k<l.length:=(List.getElem?_eq_some_iff.1 h).1
theorem jh {α:Type} {l:List α} {k:Nat} (h:k<l.length): ∃ x,l[k]?=some x:=⟨l[k],List.getElem?_eq_getElem h⟩
theorem J2 {α:Type} {l:List α} {k:Nat} {x:α} (h:l[k]?=some x):l.take (k+1)=l.take k++ [x]:=by rw[List.take_add_one,h];rfl
theorem on1_D {w0 w:World} {H:jb} {b:Nat} (hw:HF w0 H w):CallsDIn (fen none) 0 Tryz.prog 90 #[.pointer (some ⟨b,0,none⟩)] .returning w (fun e u' w'=>(∃ v,e= .returned v)∧u'= .returning∧HF w0 H w'):=by
 refine callsDIn_of_wpSIn Tryz.func90 rfl trivial fun c₀ cs hu=>?_
 refine wpSIn_seq ?_
 refine wpSIn_region ?_
 have hrec:recoverD (c₀::cs)=none:=by simp[recoverD,hu]
 have e1 : ∀ ρ : Operand → Value, (execOp ρ ⟨some 4, .call { callee := .builtin .recover, args := #[], argTypes := #[] }, 20, "mem.go:58", #[], none⟩).run Tryz.prog w = .ok .recover w := by
  intro ρ
  rfl
 have hr:List.range 1=[0]:=rfl
 simp only[List.size_toArray,List.length_cons,List.length_nil,Nat.zero_add,hr,wpOpsSIn,List.getElem?_toArray,List.getElem?_cons_zero,Region.wanted,if_true,e1,hrec,Exit.thenS]
 refine⟨fun _ _=>trivial,?_⟩
 refine wpSIn_of_wpIn rfl ?_
 refine K.out (P:=Tryz.prog) (w0:=w0) (n:=11) (m:=[(4,Value.nilIface)]) (H:=H) (ds:=[]) ?_ _ _ (FitK.put (m:=[]) (ds:=[]) (n:=11) ⟨rfl,rfl,fun t v ht=>by grind[look]⟩ rfl _) hw
 ·refine K.block ?_
  refine K.seq (K.region ?_)
  have e: ∀ w,(Op.equal 20 .nilIface .nilIface).run Tryz.prog w= .ok true w:=fun w=>by
   rfl
  refine KL.v (v:= .bool true) rfl ⟨rfl,fun w d pos af g _=>?_⟩ ?_
  ·rfl
  refine KL.nil (KE.next (K.condT rfl (K.region ?_)))
  refine KL.v rfl (Val.assign rfl) ?_
  refine KL.nil ?_
  refine KE.blkN ?_
  refine .mk fun a w' ha hw'=>?_
  exact⟨ha.1, .returning,by rw[←hu], .tuple #[],by simp[results,Tryz.f90],⟨_,rfl⟩,rfl,hw'⟩
theorem on_K {w0:World} {H:jb} {fv:Value} {R:jb→Prop} (h: ∀ b,CallV Tryz.prog w0 fv [] ((b,cells [.int .i64 0] 30)::H) (fun r H'=> ∃ H1,R H1∧Part H' ((b,cells [.int .i64 0] 30)::H1))):
  Call Tryz.prog w0 55 [fv] H (fun r H'=>r= .int .i64 0∧R H'):=by
 refine Call.enter1 (n:=6) (by rfl) Tryz.func55 rfl rfl rfl ?_
 refine jgs ?_
 refine KL.e rfl (Eff.alloc rfl) ?_;rintro _ _ ⟨b2,rfl,rfl⟩
 refine KL.nil (KE.next (K.seq (K.region ?_)))
 refine jgs ?_
 refine KL.v rfl (Val.makeFunc jar jar) ?_
 refine KL.deferC rfl ?_
 refine KL.nil (KE.next (K.seq (K.region ?_)))
 refine jgs ?_
 refine KL.v rfl (Val.move rfl) ?_
 refine KL.callc rfl rfl jar fun T hT=>?_
 refine(h b2).mono ?_
 rintro _ _ ⟨H1,hR,hp⟩
 refine hT _ _ ?_;clear hT T
 refine KL.nil (KE.next ?_)
 refine K.part _ hp ?_
 refine K.seq (K.region ?_)
 refine jgs ?_
 (first|(refine KL.eN (Eff.storeL rfl rfl jdR rfl ju jeQ) ?_;rintro _ _ rfl)|(refine KL.eN (Eff.stSl rfl rfl rfl rfl jj (by assumption) (by assumption) rfl rfl) ?_;rintro _ _ rfl)|(refine KL.eN (Eff.stSl0 rfl rfl rfl rfl jj (by assumption) (by assumption) rfl rfl) ?_;rintro _ _ rfl))
 refine KL.nil (KE.next ?_)
 refine K.ret ?_
 exact KE.finD (fun w hw=>on1_D hw) (by rfl) rfl jd (Part.drop Part.all) ⟨rfl,hR⟩
end Go.Proofs.YtebiafomiemgbaaGreatDoor.Sw
