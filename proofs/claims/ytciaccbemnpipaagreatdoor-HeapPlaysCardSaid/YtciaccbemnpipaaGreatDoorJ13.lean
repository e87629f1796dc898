/-The walker and contracts, part 13.-/
import Derived.Laws.Externs
import Derived.Laws.FloatArith
import Derived.Laws.NewFold
import Derived.RecoverIn
import Derived.SizedLaws
import Derived.Lib.SmallJoins
import Derived.ChangeMaps5
import Derived.Test.YtciaccbemnpipaaGreatDoorJ1
import Derived.Test.YtciaccbemnpipaaGreatDoorJ12
set_option linter.all false
namespace Go.Proofs.YtciaccbemnpipaaGreatDoor
open Go.RowKit
section
variable {P : Program} {w0 : World} {m : jo} {H F : jb} {ty : TypeId} {b c : Nat} {ms : List ME} {k : Int}
theorem CallV.extern {f : FuncId} {fn : Func} {e : Array Value -> Sem Value} {args : List Value} {v : Value} (hf : P.funcs[f]? = some fn) (hn : (fn.name == "runtime.NumGoroutine") = false) (hb : fn.body.isNone = true) (h0 : (Extern.findNext fn).isNone = true) (he : Extern.find fn = some e)
  (hr: ∀ w,(e args.toArray).run P w= .ok v w):CallV P w0 (.func (.func f) #[] #[]) args H (fun r H'=>r=v/\H'=H):=by
 intro w hw
 have e1:((do let d<-Deferred.ofValue (.func (.func f) #[] #[]) args.toArray;invoke d.target d.args:Sem Next).run P w)= .ok (.value v) w:=by
  have h0':Extern.findNext fn=none:=by simpa using h0
  have hc:=run_callFunc_extern (P:=P) hf hn hb h0' he args.toArray w
  rw[hr w] at hc
  simp only[Deferred.ofValue,invoke,Bind.bind,Sem.bind,Pure.pure]
  rw[show(#[]++args.toArray++ #[]:Array Value)=args.toArray by simp]
  exact hc
 rw[e1]
 exact⟨_,hw,rfl,rfl⟩
end
open Go.RowKit Go.Lib
def iE:Enc Int:=⟨fun z=> [.int .i64 z],1,fun _=>rfl,by intro x v hv;simp at hv;subst hv;rfl⟩
def fl (b:Nat):Option Nat:=if (Ieee.double.read b).isNaN then none else some b
def addF:Option Nat->Option Nat->Option Nat
 |some x,some y=>(Ieee.double.add x y).bind fl
 |_,_=>none
theorem jfr {b c:Nat} (h:fl b=some c):c=b:=by
 unfold fl at h;split at h
 ·cases h
 ·cases h;rfl
theorem add_nan {x y:Nat} (h:fl x=none\/fl y=none):Ieee.double.add x y=none:=by
 unfold fl at h
 unfold Ieee.Format.add
 rcases h with h|h
 ·split at h
  ·rename_i hn
   cases hx:Ieee.double.read x<;>rw [hx] at hn<;>simp[Ieee.Datum.isNaN] at hn
   simp[Ieee.Datum.sum]
  ·cases h
 ·split at h
  ·rename_i hn
   cases hx:Ieee.double.read y<;>rw [hx] at hn<;>simp[Ieee.Datum.isNaN] at hn
   cases Ieee.double.read x<;>simp[Ieee.Datum.sum]
  ·cases h
theorem addF_eq (x y:Nat):addF (fl x) (fl y)=(Ieee.double.add x y).bind fl:=by
 cases hx:fl x with
 |none=>rw [add_nan (.inl hx)];rfl
 |some a=>
  cases hy:fl y with
  |none=>rw [add_nan (.inr hy)];rfl
  |some b=>rw [jfr hx,jfr hy];rfl
theorem read_nan (b:Nat):(Ieee.double.read b).isNaN=decide (9218868437227405312<b%9223372036854775808):=by
 have h1:Ieee.double.signWeight=9223372036854775808:=by decide
 have h2:Ieee.double.infRung=9218868437227405312:=by decide
 have h3:Ieee.double.binade=4503599627370496:=by decide
 unfold Ieee.Format.read
 rw[h1,h2,h3]
 dsimp only
 split
 ·rename_i h;simp[Ieee.Datum.isNaN];omega
 ·split
  ·rename_i h;simp[Ieee.Datum.isNaN];omega
  ·split
   ·rename_i h;simp[Ieee.Datum.isNaN];omega
   ·simp[Ieee.Datum.isNaN];omega
theorem fl_none {b:Nat}:fl b=none↔9218868437227405312<b%9223372036854775808:=by
 unfold fl;rw [read_nan];simp
theorem jlF (b:Nat):(Ieee.double.order b b==some .eq)=(fl b).isSome:=by
 unfold Ieee.Format.order fl
 cases h:Ieee.double.read b with
 |number s m p=>simp[Ieee.Datum.order,Ieee.Datum.isNaN]
 |infinity s=>simp[Ieee.Datum.order,Ieee.Datum.isNaN]
 |nan s f=>simp[Ieee.Datum.order,Ieee.Datum.isNaN]
section
variable {P : Program} {w0 : World} {H F : jb} {m : jo} {ty : TypeId}
theorem Eff.fadd {t u:TypeId} {x y:Operand} {a b:Nat} (hx:evO m x=some (.float .f64 a)) (hy:evO m y=some (.float .f64 b)):
  Eff P w0 H m ty (.binOp .add t x y u) (fun v H'=> ∃ r,r<18446744073709551616/\fl r=addF (fl a) (fl b)/\v= .float .f64 r/\H'=H):=
 ⟨by simp[jB,cov,hx,hy],fun w d pos af g hw=>by
  have hg:eqGuard .add t x y (.float .f64 a) (.float .f64 b)=pure ():=jhG (by simp) (by simp)
  rw[addF_eq]
  cases ha:Ieee.double.add a b with
  |some r=>
   have e:(execOp (evS m) ⟨d, .binOp .add t x y u,ty,pos,af,g⟩).run P w= .ok (.value (.float .f64 r)) w:=by
    have h2:FloatKind.f64.format.add a b=some r:=ha
    simp[execOp,evS,hx,hy,hg,binOp,Op.floatArith,h2]
   rw[e]
   exact⟨H,hw,r,Ieee.double.add_lt ha,rfl,rfl,rfl⟩
  |none=>
   obtain⟨t',ht'⟩: ∃ t',t'=w.tape w.drawn (.nanBits .f64 a b):=⟨_,rfl⟩
   have e:(execOp (evS m) ⟨d, .binOp .add t x y u,ty,pos,af,g⟩).run P w= .ok (.value (.float .f64 ((Question.nanBits .f64 a b).cut t'))) w.drew:=by
    have h2:FloatKind.f64.format.add a b=none:=ha
    simp[execOp,evS,hx,hy,hg,binOp,Op.floatArith,h2,run_choose_drew,Question.forced,ht']
   rw[e]
   refine⟨H,hw.drew,_,?_,?_,rfl,rfl⟩
   ·simp only[Question.cut];omega
   ·simp only[Option.bind_none,fl_none,Question.cut]
    have h1:t'%2<2:=Nat.mod_lt _ (by omega)
    have h2:t'/2%(2^52-1)<2^52-1:=Nat.mod_lt _ (by omega)
    generalize t'/2%(2^52-1)=q at h2
    rcases(by omega:t'%2=0\/t'%2=1) with h|h<;>rw [h]<;>omega⟩
theorem Val.neqFS {t u:TypeId} {x y:Operand} {a:Nat} (hx:evO m x=some (.float .f64 a)) (hy:evO m y=some (.float .f64 a)):Val P w0 H m ty (.binOp .neq t x y u) (.bool (fl a).isNone):=
 Val.binV hx hy (by simp) (by simp) (fun w=>by
  have:=jlF a
  have h2:(FloatKind.f64.format.order a a !=some .eq)=(fl a).isNone:=by
   show(Ieee.double.order a a !=some .eq)=_
   rw[bne,this];cases fl a<;>rfl
  simp[binOp,Op.floatCmp,h2])
end
def canonN:Option Nat->Int
 |none=>9221120237041090560
 |some b=>b
def sumP:List Int->Int
 | []=>0
 |x::l=>canonN (l.foldl (fun a w=>addF a (fl w.toNat)) (fl x.toNat))
section
variable {P : Program} {w0 : World} {H F : jb} {m : jo} {ty : TypeId}
def jfC (P:Program) (t:TypeId):Bool:=match P.underlying t with
 |some (.func _ _ _)=>true
 |_=>false
theorem eq_func {t:TypeId} {v:Value} {b:Bool} (w:World) (ht:jfC P t=true) (hv:(v= .nilFunc/\b=true)\/(∃ f a c,v= .func f a c/\b=false)):(Op.equal t v .nilFunc).run P w= .ok b w:=by
 unfold jfC at ht
 split at ht
 ·rename_i q q' q'' hu
  rcases hv with⟨rfl,rfl⟩|⟨f,a,c,rfl,rfl⟩<;>(rw [jcB,Op.equalIn.eq_2,Sem.run_bind,JG w hu];rfl)
 ·cases ht
theorem Val.eqlFN {t u:TypeId} {x y:Operand} (hx:evO m x=some .nilFunc) (hy:evO m y=some .nilFunc) (ht:jfC P t=true):Val P w0 H m ty (.binOp .eql t x y u) (.bool true):=
 Val.binV hx hy (by simp) (by simp) fun w=>by
  have:=eq_func (v:= .nilFunc) (b:=true) w ht (.inl ⟨rfl,rfl⟩)
  simp[binOp,this]
theorem Val.eqlFF {t u:TypeId} {x y:Operand} {f:Fn} {a c:Array Value} (hx:evO m x=some (.func f a c)) (hy:evO m y=some .nilFunc) (ht:jfC P t=true):Val P w0 H m ty (.binOp .eql t x y u) (.bool false):=
 Val.binV hx hy (by simp) (by simp) fun w=>by
  have:=eq_func (v:= .func f a c) (b:=false) w ht (.inr ⟨_,_,_,rfl,rfl⟩)
  simp[binOp,this]
end
section
variable {P : Program} {w0 : World} {ro : Option Nat} {n : Nat} {Q : Exit -> Act -> World -> Prop} {ds : List Deferred} {m : jo} {H R : jb} {ops : Array Oper} {op : Op} {ty : TypeId} {pos : String} {af : Array Edge} {ord : Ord}
theorem jR.eN {T:Jc} (he:Eff P w0 H m ty op T) (h: ∀ v H',T v H'->Part H' R/\KD P w0 ro n ops R ord Q ds m H'):jR P w0 ro n ops R ord Q ds m H ⟨none,op,ty,pos,af,none⟩:=
 fun a w ha hw=>⟨by simp[Region.wanted],by
  rw[ha.exec (o:=⟨none,op,ty,pos,af,none⟩) he.cv]
  exact(he.run w _ _ _ _ hw).mono fun v w' ⟨H',hh,hT⟩=>⟨_,H',ha,hh,(h v H' hT).1,(h v H' hT).2⟩⟩
end
section
variable {P : Program} {w0 : World} {n : Nat} {Q : Exit -> Act -> World -> Prop} {ds : List Deferred} {m : jo} {H F : jb} {ops : Array Oper} {rest : List Oper} {ty : TypeId} {pos : String} {af : Array Edge}
theorem KL.deferC {f:Operand} {g:FuncId} {cap:Array Value} (hf:evO m f=some (.func (.func g) #[] cap))
  (h:KL P w0 none n ops rest Q ({target:= .fn (.func g) cap,args:= #[]}::ds) m H):
  KL P w0 none n ops (⟨none, .defer {callee:= .value f,args:= #[],argTypes:= #[]},ty,pos,af,none⟩::rest) Q ds m H:= .mk fun a w ha hw=>
 wpListIn_plain rfl fun Kf hK=>by
  unfold Oper.wpIn
  refine⟨fun _ _=>trivial,?_⟩
  have e:((Oper.semAt (fen none).round a.eval ⟨none, .defer {callee:= .value f,args:= #[],argTypes:= #[]},ty,pos,af,none⟩).run P w)= .ok (.defer {target:= .fn (.func g) cap,args:= #[]}) w:=by
   rw[show(fen none).round=none from rfl,Oper.semAt_none]
   simp[execOp,resolve,ha.eval hf,Deferred.ofValue]
  rw[e,Oper.uponIn_defer]
  exact hK _ _ (h.out {a with defers:={target:= .fn (.func g) cap,args:= #[]}::a.defers} w ⟨by rw[ha.1],ha.2.1,ha.2.2⟩ hw)
theorem KE.finD {fn:Func} {R:Jc} {g:FuncId} {cap:Array Value} {H':jb} {rs:List ResultVar} {vs:List Value}
  (hc: ∀ w,HF w0 H w->CallsDIn (fen none) 0 P g cap .returning w (fun e u' w'=>(∃ v,e= .returned v)/\u'= .returning/\HF w0 H w'))
  (he:jay P g=true) (hr:fn.results=rs.toArray) (hv:jaN P w0 m H rs vs) (hp:Part H H') (h:R (jb5 vs) H'):
  KE w0 n .ret (bodyPostM (fen none) 0 P fn (jaa w0 R)) [{target:= .fn (.func g) cap,args:= #[]}] m H:=
 .mk fun a w ha hw=>by
  show LeavesInM (fen none) 0 P fn a.tmps (jaa w0 R) a.defers .returning w
  rw[ha.1]
  refine⟨by simp, .inr ⟨fun hh=>by simp[fen,Fence.wide] at hh, .func g,cap,g,cap,rfl,?_,fun _ _=>trivial,?_⟩⟩
  ·have:=jfX he cap w
   show(callFunc g (#[]++cap)).run P w=_
   rw[Array.empty_append]
   exact this
  ·refine(hc w hw).mono ?_
   rintro e u' w' ⟨⟨v,rfl⟩,rfl,hw'⟩
   show LeavesInM (fen none) 0 P fn a.tmps (jaa w0 R) [] (settle .returning) w'
   exact⟨jb5 vs,hv.results hr hw' ha.2.2,jb5 vs,H',rfl,hw'.part hp,h⟩
end
section
variable {P : Program} {w0 : World} {H F : jb} {m : jo} {ty : TypeId} {α : Type} {E : Enc α}
theorem Val.negW {t:TypeId} {x:Operand} {k:IntKind} {a:Int} (hx:evO m x=some (.int k a)):Val P w0 H m ty (.unOp .neg t x) (.int k (k.wrap (-a))):=
 ⟨by simp[jB,cov,hx],fun w d pos af g _=>by simp[execOp,evS,hx,Op.unary,Op.intArith]⟩
def cleared (xs:List α) (i h:Nat) (x0:α):List α:=xs.take i++List.replicate (h-i) x0++xs.drop h
theorem jdp {xs:List α} {i h:Nat} {x0:α} (hi:i<=h) (hh:h<=xs.length):(cleared xs i h x0).length=xs.length:=by
 simp only[cleared,List.length_append,List.length_take,List.length_replicate,List.length_drop];omega
theorem jhH {xs:List α} {i:Nat} {x0:α}:cleared xs i i x0=xs:=by simp[cleared]
theorem clr_all {xs:List α} {o:Own} (ok:oOk E xs o):oV o xs.length=j9 (oV o xs.length) 0 xs.length E.sz:=(jkl o xs.length E.sz (fun h=>by subst h;simp only[oOk] at ok;subst ok;rfl)).symm
theorem jhQ {xs:List α} {x0:α}:cleared xs 0 xs.length x0=List.replicate xs.length x0:=by simp[cleared]
theorem Eff.clearS {x:Operand} {t e:TypeId} {xs:List α} {o:Own} {i h:Nat} {vd:Value} {x0:α} (hx:evO m x=some vd) (hvd:vd=j9 (oV o xs.length) i h E.sz) (ht:Jw P t=some e)
  (hz0:jeh P e=some (E.enc x0)) (hi:i<=h) (hh:h<=xs.length) (hT:jE (oH E e xs o) H F) (ok:oOk E xs o):
  Eff P w0 H m ty (.call {callee:= .builtin .clear,args:= #[x],argTypes:= #[t]}) (fun v H'=>v= .tuple #[]/\oOk E (cleared xs i h x0) o/\H'=oH E e (cleared xs i h x0) o++F):=by
 refine⟨by simp[jB,jbz,cov,hx],fun w d pos af g hw0=>?_⟩
 have hw:=hw0.takeL hT
 have hu:P.underlying t=some (.slice e):=by unfold Jw at ht;split at ht<;>simp_all
 by_cases hn:h-i=0
 ·have hie:i=h:=by omega
  subst hie
  rw[jhH]
  have e3:(Builtin.clear_ #[t] ty #[vd]).run P w= .ok (.tuple #[]) w:=by
   subst hvd
   cases o with
   |none=>simp[Builtin.clear_,JG w hu,oV,j9]
   |some ob=>
    simp only[oV,j9,hn]
    split<;>simp[Builtin.clear_,JG w hu]
  have e4:(execOp (evS m) ⟨d, .call {callee:= .builtin .clear,args:= #[x],argTypes:= #[t]},ty,pos,af,g⟩).run P w= .ok (.value (.tuple #[])) w:=by
   simp[execOp,resolve,invoke,builtin,evS,hx,e3]
  rw[e4]
  exact⟨_,hw,rfl,ok,rfl⟩
 ·cases o with
  |none=>simp only[oOk] at ok;subst ok;simp at hh;omega
  |some ob=>
   obtain⟨g1,g2,g3⟩:=ok
   obtain⟨k,hk⟩: ∃ k,h-i=k+1:=⟨h-i-1,by omega⟩
   have e2:vd= .slice (some ⟨ob.b,i*E.sz,none⟩) (k+1) (ob.c-i):=by
    subst hvd
    simp only[oV,j9]
    rw[if_neg (by omega),hk]
    simp[Addr.add]
    try omega
   rw[e2] at hx
   obtain⟨zv,hz1,hz2⟩:=jgy w hz0
   have hcl:(jC E (List.replicate (k+1) x0)).length=(k+1)*E.sz:=by rw[ja8,List.length_replicate]
   have hfit:i*E.sz+(k+1)*E.sz<=xs.length*E.sz:=by rw[<-Nat.add_mul];exact Nat.mul_le_mul_right _ (by omega)
   have hst:=run_storeCells_at P ob.b (i*E.sz) e (jC E (List.replicate (k+1) x0)) 0 (jC E xs++ob.tl).toArray w (hw.get _ (.head _))
    (by rw[hcl];simp only[List.size_toArray,List.length_append,ja8];omega) (jgL _)
   simp only[Nat.add_zero] at hst
   have hzc:(Builtin.zeroCells zv.cells (k+1)).toList=jC E (List.replicate (k+1) x0):=by
    rw[hz2]
    have:=jf8 (E.enc x0) (k+1)
    simp only[List.size_toArray,E.len] at this
    simp only[Builtin.zeroCells,List.size_toArray,E.len]
    rw[this,<-jit]
   have e4:(execOp (evS m) ⟨d, .call {callee:= .builtin .clear,args:= #[x],argTypes:= #[t]},ty,pos,af,g⟩).run P w= .ok (.value (.tuple #[])) (w.setRow ob.b (over (jC E xs++ob.tl).toArray (i*E.sz) (jC E (List.replicate (k+1) x0)))):=by
    have:(Builtin.clear_ #[t] ty #[.slice (some ⟨ob.b,i*E.sz,none⟩) (k+1) (ob.c-i)]).run P w= .ok (.tuple #[]) (w.setRow ob.b (over (jC E xs++ob.tl).toArray (i*E.sz) (jC E (List.replicate (k+1) x0)))):=by
     simp[Builtin.clear_,JG w hu,hz1,hzc,hst,over,Result.andThen]
    simp[execOp,resolve,invoke,builtin,evS,hx,this]
   rw[e4]
   refine⟨_,hw.setRow,rfl,?_,?_⟩
   ·simp only[oOk,jdp hi hh]
    exact⟨g1,g2,g3⟩
   ·simp only[oH,List.cons_append,List.nil_append,cells]
    congr 3
    unfold over cleared
    congr 1
    simp only[hcl]
    rw[<-Nat.add_mul,jhC xs i (by omega),show i+(k+1)=h by omega,jhD xs h hh,jbZ,jbZ,hk]
    simp
end
open Go.RowKit Go.ChangeShapes Go.WideShapes Go.ChangeAt Go.Deep Go.Joins
set_option maxRecDepth 100000
def AwakeEnd (w:World) (e:Ending) (w':World):Prop:=e= .returned (.bool true)/\jN [] w w'
def i64ok (z:Int):Prop:= -9223372036854775808<=z/\z<=9223372036854775807
def u64ok (z:Int):Prop:=0<=z/\z<=18446744073709551615
def u8ok (z:Int):Prop:=0<=z/\z<=255
theorem wf_i64 {z:Int} (h:(Lit.int .i64 z).wf=true):i64ok z:=by simpa [Lit.wf,IntKind.min,IntKind.max,IntKind.signed,IntKind.bits,i64ok] using h
theorem wf_u64 {z:Int} (h:(Lit.int .u64 z).wf=true):u64ok z:=by simpa [Lit.wf,IntKind.min,IntKind.max,IntKind.signed,IntKind.bits,u64ok] using h
theorem wf_u8 {z:Int} (h:(Lit.int .u8 z).wf=true):u8ok z:=by simpa [Lit.wf,IntKind.min,IntKind.max,IntKind.signed,IntKind.bits,u8ok] using h
section
variable {H : Type} {enc : TypeId × Value -> H} {W : World}
theorem int_in {fuel:Nat} {cs:List Value} {x:DataW H × List MemPlace} (hx:DataW.trod enc Tryz.prog W 0 (fun _=>true) true fuel 3 cs=some x): ∃ y:Int,cs=iE.enc y/\i64ok y:=by
 obtain⟨a0,e0,-,w0⟩:=DataW.trod_int Tryz.underlying3 hx
 exact⟨a0,e0,wf_i64 w0⟩
end
end Go.Proofs.YtciaccbemnpipaaGreatDoor
namespace Go.Proofs.YtciaccbemnpipaaGreatDoor.Sw
open Go.Proofs.YtciaccbemnpipaaGreatDoor renaming lo -> qL, hi -> qH
open Go.RowKit
set_option maxRecDepth 10000
def uE:Enc Int:=⟨fun z=> [.int .u64 z],1,fun _=>rfl,by intro x v hv;simp at hv;subst hv;rfl⟩
def boE:Enc Bool:=⟨fun z=> [.bool z],1,fun _=>rfl,by intro x v hv;simp at hv;subst hv;rfl⟩
theorem jl {α:Type} {l:List α} {k:Nat} {x:α} (h:l[k]?=some x):k<l.length:=(List.getElem?_eq_some_iff.1 h).1
theorem jq {α:Type} {l:List α} {k:Nat} (h:k<l.length): ∃ x,l[k]?=some x:=⟨l[k],List.getElem?_eq_getElem h⟩
theorem ja6 {α:Type} {l:List α} {k:Nat} {x:α} (h:l[k]?=some x):l.take (k+1)=l.take k++ [x]:=by rw[List.take_add_one,h];rfl
theorem on1_D {w0 w:World} {H:jb} {b:Nat} (hw:HF w0 H w):CallsDIn (fen none) 0 Tryz.prog 329 #[pt b] .returning w (fun e u' w'=>(∃ v,e= .returned v)/\u'= .returning/\HF w0 H w'):=by
 refine callsDIn_of_wpSIn Tryz.func329 rfl trivial fun c₀ cs hu=>?_
 refine wpSIn_seq ?_
 refine wpSIn_region ?_
 have hrec:recoverD (c₀::cs)=none:=by simp[recoverD,hu]
 have e1 : ∀ ρ : Operand -> Value, (execOp ρ ⟨some 4, .call { callee := .builtin .recover, args := #[], argTypes := #[] }, 20, "mem.go:58", #[], none⟩).run Tryz.prog w = .ok .recover w := by
  intro ρ
  simp[execOp,resolve,invoke,builtin]
 have hr:List.range 1=[0]:=rfl
 simp only[List.size_toArray,List.length_cons,List.length_nil,Nat.zero_add,hr,wpOpsSIn,List.getElem?_toArray,List.getElem?_cons_zero,Region.wanted,if_true,e1,hrec,Exit.thenS]
 refine⟨fun _ _=>trivial,?_⟩
 refine wpSIn_of_wpIn rfl ?_
 refine K.out (P:=Tryz.prog) (w0:=w0) (n:=11) (m:=[(4,Value.nilIface)]) (H:=H) (ds:=[]) ?_ _ _ (FitK.put (m:=[]) (ds:=[]) (n:=11) ⟨rfl,rfl,fun t v ht=>by simp[look] at ht⟩ rfl _) hw
 ·refine K.block ?_
  refine K.seq (K.region ?_)
  have e: ∀ w,(Op.equal 20 .nilIface .nilIface).run Tryz.prog w= .ok true w:=fun w=>by
   rw[jcB,Op.equalIn.eq_2,Sem.run_bind,JG w Tryz.underlying20];rfl
  refine KL.v (v:= .bool true) rfl ⟨rfl,fun w d pos af g _=>?_⟩ ?_
  ·have e2:(execOp (evS [(4,Value.nilIface)]) ⟨d, .binOp .eql 20 (.tmp 4) (.const .nilIface) 20,4,pos,af,g⟩).run Tryz.prog w= .ok (.value (.bool true)) w:=by
    simp[execOp,evS,evO,look,eqGuard,binOp,e]
   exact e2
  refine KL.nil (KE.next (K.condT rfl (K.region ?_)))
  refine KL.v rfl (Val.assign rfl) ?_
  refine KL.nil ?_
  refine KE.blkN ?_
  refine .mk fun a w' ha hw'=>?_
  exact⟨ha.1, .returning,by rw[<-hu], .tuple #[],by simp[results,Tryz.f329],⟨_,rfl⟩,rfl,hw'⟩
theorem on_K {w0:World} {H:jb} {fv:Value} {R:jb->Prop} (h: ∀ b,CallV Tryz.prog w0 fv [] ((b,cells [.int .i64 0] 76)::H) (fun r H'=> ∃ H1,R H1/\Part H' ((b,cells [.int .i64 0] 76)::H1))):
  Call Tryz.prog w0 244 [fv] H (fun r H'=>r= .int .i64 0/\R H'):=by
 refine en1 6 Tryz.func244 ?_
 refine jep ?_
 refine KL.e rfl (Eff.alloc rfl) ?_;rintro _ _ ⟨b2,rfl,rfl⟩
 refine KL.nil (KE.next (K.seq (K.region ?_)))
 refine jep ?_
 refine KL.v rfl (Val.makeFunc Ja Ja) ?_
 refine KL.deferC rfl ?_
 refine KL.nil (KE.next (K.seq (K.region ?_)))
 refine jep ?_
 refine KL.v rfl (Val.move rfl) ?_
 refine KL.callq rfl rfl Ja ?_
 refine(h b2).mono ?_
 rintro _ _ ⟨H1,hR,hp⟩
 refine KL.nil (KE.next ?_)
 refine K.part _ hp ?_
 refine K.seq (K.region ?_)
 refine jep ?_
 (first|(refine KL.eN (Eff.storeL rfl rfl jdl rfl jK jeg) ?_;rintro _ _ rfl)|(refine KL.eN (Eff.stSl rfl rfl rfl rfl jt (by assumption) (by assumption) rfl rfl) ?_;rintro _ _ rfl)|(refine KL.eN (Eff.stSl0 rfl rfl rfl rfl jt (by assumption) (by assumption) rfl rfl) ?_;rintro _ _ rfl))
 refine KL.nil (KE.next ?_)
 refine K.ret ?_
 exact KE.finD (fun w hw=>on1_D hw) (by kernel_rfl) rfl jc (Part.drop Part.all) ⟨rfl,hR⟩
