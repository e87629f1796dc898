/-The walker and the contracts that the law needs,part 12. -/
import Derived.Laws.IdiomStrings
import Derived.Laws.StructEq
import Derived.Maps.RangeRun
import Derived.Laws.Externs
import Derived.Laws.FloatArith
import Derived.Laws.NewFold
import Derived.Test.YtebiafomiemgbaaGreatDoorJ1
import Derived.Test.YtebiafomiemgbaaGreatDoorJ11
set_option linter.unusedVariables false set_option linter.unusedSimpArgs false set_option linter.unusedVariables false
set_option linter.unusedSimpArgs false
namespace Go.Proofs.YtebiafomiemgbaaGreatDoor
open Go.RowKit
def bE:Enc Int:=⟨fun z=> [.int .u8 z],1,fun _=>rfl,by intro x v hv;simp at hv;subst hv;rfl⟩
def ofB (l:List UInt8):List Int:=l.map fun c=>(c.toNat:Int)
section
variable {P : Program} {w0 : World} {m : jk} {H F : jb} {ty : TypeId} {v : Value}
theorem Val.sliceLZ {α:Type} {E:Enc α} {xs:List α} {t e:TypeId} {x y:Operand} {z:Int} (hx:evO m x=some v) (hy:evO m y=some (.int .i64 z)) (ht:Ja P t=some e) (hs:Sli w0 H E v xs) (hz:JG P e=some E.sz) (hl:0≤z∧z≤xs.length):
  Val P w0 H m ty (.slice t x (some y) none none) (subV v z.toNat xs.length E.sz):=by
 obtain⟨l,rfl⟩:=Int.eq_ofNat_of_zero_le hl.1
 exact Val.sliceL hx hy ht hs hz (by omega)
theorem Val.shr {x y:Operand} {t u:TypeId} {k k':IntKind} {a b:Int} (hx:evO m x=some (.int k a)) (hy:evO m y=some (.int k' b)) (hb:0≤b):Val P w0 H m ty (.binOp .shr t x y u) (.int k (a.fdiv (2^(min b.toNat k.bits)))):=
 Val.bin hx hy (by simp[binOp,Op.shift,show ¬b<0 by omega])
theorem Val.shl {x y:Operand} {t u:TypeId} {k k':IntKind} {a b:Int} (hx:evO m x=some (.int k a)) (hy:evO m y=some (.int k' b)) (hb:0≤b):Val P w0 H m ty (.binOp .shl t x y u) (.int k (k.wrap (a*2^(min b.toNat k.bits)))):=
 Val.bin hx hy (by simp[binOp,Op.shift,show ¬b<0 by omega])
def JW (o:BinOp) (k:IntKind) (a b:Int):Int:=match o with
 | .and=>k.wrap (BitVec.ofInt k.bits a&&&BitVec.ofInt k.bits b).toNat
 | .or=>k.wrap (BitVec.ofInt k.bits a|||BitVec.ofInt k.bits b).toNat
 | .xor=>k.wrap (BitVec.ofInt k.bits a^^^BitVec.ofInt k.bits b).toNat
 |_=>k.wrap (BitVec.ofInt k.bits a&&& ~~~(BitVec.ofInt k.bits b)).toNat
theorem Val.or {x y:Operand} {t u:TypeId} {k:IntKind} {a b:Int} (hx:evO m x=some (.int k a)) (hy:evO m y=some (.int k b)):Val P w0 H m ty (.binOp .or t x y u) (.int k (JW .or k a b)):=
 Val.bin hx hy (by simp[binOp,Op.intBits,JW])
theorem Val.and {x y:Operand} {t u:TypeId} {k:IntKind} {a b:Int} (hx:evO m x=some (.int k a)) (hy:evO m y=some (.int k b)):Val P w0 H m ty (.binOp .and t x y u) (.int k (JW .and k a b)):=
 Val.bin hx hy (by simp[binOp,Op.intBits,JW])
theorem Val.xor {x y:Operand} {t u:TypeId} {k:IntKind} {a b:Int} (hx:evO m x=some (.int k a)) (hy:evO m y=some (.int k b)):Val P w0 H m ty (.binOp .xor t x y u) (.int k (JW .xor k a b)):=
 Val.bin hx hy (by simp[binOp,Op.intBits,JW])
theorem Val.andNot {x y:Operand} {t u:TypeId} {k:IntKind} {a b:Int} (hx:evO m x=some (.int k a)) (hy:evO m y=some (.int k b)):Val P w0 H m ty (.binOp .andNot t x y u) (.int k (JW .andNot k a b)):=
 Val.bin hx hy (by simp[binOp,Op.intBits,JW])
theorem Val.min {x y:Operand} {ts:Array TypeId} {k k':IntKind} {a b:Int} (hx:evO m x=some (.int k a)) (hy:evO m y=some (.int k' b)):Val P w0 H m ty (.call {callee:= .builtin .min,args:= #[x,y],argTypes:=ts}) (.int k (if b<a then b else a)):=
 ⟨by grind[jm,jaI,cov],fun w d pos af g _=>by
  simp[execOp,resolve,invoke,builtin,evS,hx,hy,Builtin.min_,Builtin.min2]⟩
theorem Val.max {x y:Operand} {ts:Array TypeId} {k k':IntKind} {a b:Int} (hx:evO m x=some (.int k a)) (hy:evO m y=some (.int k' b)):Val P w0 H m ty (.call {callee:= .builtin .max,args:= #[x,y],argTypes:=ts}) (.int k (if a<b then b else a)):=
 ⟨by grind[jm,jaI,cov],fun w d pos af g _=>by
  simp[execOp,resolve,invoke,builtin,evS,hx,hy,Builtin.max_,Builtin.max2]⟩
def intTy (P:Program) (t:TypeId):Bool:=match P.underlying t with
 |some (.int _)=>true
 |_=>false
mutual
inductive EqV (P:Program):Nat→TypeId→Value→Value→Bool→Prop
 |int {d:Nat} {t:TypeId} {k:IntKind} {a b:Int}:intTy P t=true→EqV P (d+1) t (.int k a) (.int k b) (decide (a=b))
 |bool {d:Nat} {t:TypeId} {a b:Bool}:boolB P t=true→EqV P (d+1) t (.bool a) (.bool b) (a==b)
 |agg {d:Nat} {t:TypeId} {xs ys:List Value} {fs:List Field} {r:Bool}:P.underlying t=some (.struct (P.fieldsOf t))→P.stoodInHeld t=false→(P.fieldsOf t).toList=fs→EqF P d xs ys fs r→EqV P (d+1) t (.agg xs.toArray) (.agg ys.toArray) r
inductive EqF (P:Program):Nat→List Value→List Value→List Field→Bool→Prop
 |nil {d:Nat} {xs ys:List Value}:EqF P d xs ys [] true
 | one {d : Nat} {xs ys : List Value} {f : Field} {fs : List Field} {a b : Value} {r s : Bool} : decide (f.name ≠ "_") = true → oneB P f.type = true → xs[f.offset]? = some a → ys[f.offset]? = some b → EqV P d f.type a b r → EqF P d xs ys fs s → EqF P d xs ys (f :: fs) (r && s)
 | sub {d z : Nat} {xs ys as0 bs : List Value} {f : Field} {fs : List Field} {r s : Bool} : decide (f.name ≠ "_") = true → aggB P f.type = true → JG P f.type = some z → Seg xs f.offset z as0 → Seg ys f.offset z bs → EqV P d f.type (.agg as0.toArray) (.agg bs.toArray) r → EqF P d xs ys fs s → EqF P d xs ys (f :: fs) (r && s)
end
theorem eqF_run {d:Nat} (ih: ∀ {t:TypeId} {a b:Value} {r:Bool},EqV P d t a b r→ ∀ w,(Op.equalIn d t a b).run P w= .ok r w) {xs ys:List Value}: ∀ {fs:List Field} {r:Bool},EqF P d xs ys fs r→ ∀ w,(Op.eqFields d xs.toArray ys.toArray fs).run P w= .ok r w:=by
 intro fs
 induction fs with
 |nil=>intro r h w;cases h;rfl
 |cons f fs ihf=>
  intro r h w
  cases h with
  | @one _ _ _ _ _ a b r s hn h1 ha hb hv hr=>
   have hn' : f.name ≠ "_" := by grind
   have p1:=jgC (P:=P) w (cs:=xs.toArray) (off:=f.offset) h1 (by simpa using ha)
   have p2:=jgC (P:=P) w (cs:=ys.toArray) (off:=f.offset) h1 (by simpa using hb)
   have p3:=ih hv w
   have p4:=ihf hr w
   simp only[Op.eqFields,hn',ne_eq,not_false_eq_true,if_true,Sem.run_bind,p1,p2,p3,Result.andThen]
   cases r<;>simp[p4]
  | @sub _ z _ _ as0 bs _ _ r s hn h1 hz hs1 hs2 hv hr=>
   have hn' : f.name ≠ "_" := by grind
   have e1:xs.toArray.extract f.offset (f.offset+z)=as0.toArray:=by
    have:=hs1.eq.1
    grind
   have e2:ys.toArray.extract f.offset (f.offset+z)=bs.toArray:=by
    have:=hs2.eq.1
    grind
   have p1:=jh1 (P:=P) w (cs:=xs.toArray) (off:=f.offset) h1 hz
   have p2:=jh1 (P:=P) w (cs:=ys.toArray) (off:=f.offset) h1 hz
   rw[e1] at p1
   rw[e2] at p2
   have p3:=ih hv w
   have p4:=ihf hr w
   simp only[Op.eqFields,hn',ne_eq,not_false_eq_true,if_true,Sem.run_bind,p1,p2,p3,Result.andThen]
   cases r<;>simp[p4]
theorem jdg: ∀ (d:Nat) {t:TypeId} {a b:Value} {r:Bool},EqV P d t a b r→ ∀ w,(Op.equalIn d t a b).run P w= .ok r w:=by
 intro d
 induction d with
 |zero=>intro t a b r h;cases h
 |succ d ih=>
  intro t a b r h w
  cases h with
  |int ht=>
   unfold intTy at ht
   split at ht
   ·rename_i k' hu
    rw[Op.equalIn.eq_2,Sem.run_bind,jQ w hu]
    simp[Result.andThen,jjm]
   grind
  |bool ht=>
   unfold boolB at ht
   split at ht
   ·rename_i hu
    rw[Op.equalIn.eq_2,Sem.run_bind,jQ w hu];rfl
   grind
  |agg hu hs hf hr=>
   rw[run_equalIn_struct w d t _ _ hu hs,hf]
   grind[eqF_run]
theorem Val.eqlA {t u:TypeId} {x y:Operand} {xs ys:List Value} {r:Bool} (hx:evO m x=some (.agg xs.toArray)) (hy:evO m y=some (.agg ys.toArray)) (hg:P.eqGuardType P.depth t=false) (h:EqV P (9999+1) t (.agg xs.toArray) (.agg ys.toArray) r):Val P w0 H m ty (.binOp .eql t x y u) (.bool r):=
 ⟨by grind[jm,cov],fun w d pos af g _=>by
  have e1:=run_eqGuard_agg (P:=P) w .eql t x y xs.toArray ys.toArray hg
  have e2:=jdg _ h w
  simp[execOp,evS,hx,hy,e1,binOp,jan,e2]⟩
theorem Val.isB {op:Op} {r b:Bool} (h:Val P w0 H m ty op (.bool r)) (hr:r=b):Val P w0 H m ty op (.bool b):=by rw[hr] at h;exact h
theorem Val.eqlAE {t u:TypeId} {x y:Operand} {xs ys:List Value} {r:Bool} (hx:evO m x=some (.agg xs.toArray)) (hy:evO m y=some (.agg ys.toArray)) (hg:P.eqGuardType P.depth t=false) (h:EqV P (9999+1) t (.agg xs.toArray) (.agg ys.toArray) r) (hr:r=true):Val P w0 H m ty (.binOp .eql t x y u) (.bool true):=
 Val.isB (Val.eqlA hx hy hg h) hr
end
open Go.RowKit Go.ChangeShapes Go.WideShapes
set_option autoImplicit false
theorem ju {G:Prop} (h:G:=by first|((repeat (first|exact jI.head|with_reducible apply jI.tail|apply jI.app))<;>fail)|fail):G:=h
theorem jj {G:Prop} (h:G:=by first|((repeat (first|exact JA.head|exact JA.whole|with_reducible apply JA.tail|apply JA.app))<;>fail)|fail):G:=h
theorem jar {G:Prop} (h:G:=by first|((repeat (first|exact EvL.nil|(apply EvL.cons;(·exact rfl))))<;>fail)|fail):G:=h
theorem jc1 {G:Prop} (h:G:=by first|((repeat (first|exact Seg.nil|apply Seg.cons|apply Seg.next))<;>fail)|fail):G:=h
theorem jdh {G:Prop} (h:G:=by first|((repeat (first|exact jc3.nil|(apply jc3.cons;(·exact rfl))))<;>fail)|fail):G:=h
theorem jeQ {G:Prop} (h:G:=by first|((repeat (first|exact jdS.here|apply jdS.next))<;>fail)|fail):G:=h
theorem byLay {G:Prop} (h:G:=by first|((repeat (first|exact Lay.nil|apply Lay.cons|apply Lay.next))<;>fail)|fail):G:=h
theorem jhx {G:Prop} (h:G:=by first|rfl|(simp only[List.all_cons,List.all_nil,Bool.and_true,Bool.and_eq_true];(repeat' apply And.intro)<;>first|rfl|exact oV_one _ _|exact SlW.one (by assumption)|assumption)):G:=h
theorem jdR {G:Prop} (h:G:=by first|rfl|exact oV_one _ _|exact SlW.one (by assumption)|assumption):G:=h
theorem jdk {G:Prop} (h:G:=by first|((repeat (first|exact Fill.nil|(apply Fill.one;(·exact rfl);(·exact jdR);(·exact jeQ))|(apply Fill.agg;(·exact rfl);(·exact rfl);(·exact byLay))))<;>fail)|fail):G:=h
theorem jF {G:Prop} (h:G:=by first|rfl|assumption|(simp<;>fail)|(simp;omega)|omega):G:=h
theorem jO {G:Prop} (h:G:=by first|assumption|omega):G:=h
theorem jc {G:Prop} (h:G:=by first|((repeat (first|exact trivial|refine And.intro ⟨_,rfl,(by first|rfl|(dsimp only;first|rfl|(congr 1;omega)|(simp<;>fail)|(congr 1;simp<;>fail)|(congr 1;simp;omega)|(congr 2;simp;omega))|(congr 1;omega)|(simp<;>fail)|(congr 1;simp<;>fail)|(congr 1;simp;omega)|(congr 2;simp;omega))⟩ ?_))<;>fail)|fail):G:=h
theorem ja {G:Prop} (h:G:=by first|((repeat (first|exact Part.all|(apply Part.takeA;(·exact jj))|apply Part.assoc|(apply Part.take;(·exact ju))|exact Part.lastA jj|apply Part.drop|apply Part.dropA|exact Part.nil))<;>fail)|fail):G:=h
theorem jab {G:Prop} (h:G:=by first|exact Sli.old (by assumption)|exact Sli.own jj (by assumption) jF|assumption|exact Sli.part (by assumption) ja):G:=h
theorem jer {G:Prop} (h:G:=by first|exact jJ.cell ju rfl|exact jJ.sl jab (by assumption) rfl|exact jJ.sl0 jab (by assumption) rfl|exact jJ.old (by assumption)|assumption):G:=h
theorem jfD {G:Prop} (h:G:=by first|exact jes.own ju jc1|assumption):G:=h
theorem jgr {G:Prop} (h:G:=by first|exact SeesA.sl jab (by assumption)|assumption):G:=h
theorem je {G:Prop} (h:G:=by first|((repeat (first|exact jet.nil|(apply jet.cons;(·exact ju))))<;>fail)|fail):G:=h
theorem jd {G:Prop} (h:G:=by first|((repeat (first|exact jaC.nil|(apply jaC.tmp;(·exact rfl))|(apply jaC.cell;(·exact rfl);(·exact rfl);(·exact jer))|(apply jaC.cellN;(·exact rfl);(·exact rfl);(·exact rfl);(·exact jfD))))<;>fail)|fail):G:=h
theorem je4 {G:Prop} (h:G:=by first|((repeat (first|exact EqF.nil|exact EqV.int rfl|exact EqV.bool rfl|(apply EqV.agg;(·kernel_rfl);(·kernel_rfl);(·exact rfl))|(apply EqF.one;(·exact rfl);(·exact rfl);(·exact rfl);(·exact rfl))|(apply EqF.sub;(·exact rfl);(·exact rfl);(·exact rfl);(·exact jc1);(·exact jc1))))<;>fail)|fail):G:=h
theorem jgs {G G':Prop} (k:G') (h:G'→G:=by intro k;(repeat (first|refine KE.next ?_|refine KE.passX ?_|refine KE.passR ?_|refine KE.blkN ?_|refine KE.blkR ?_|refine KE.blkX ?_|refine KE.blkO rfl ?_|refine K.skip ?_|refine K.exit ?_|refine K.ret ?_|refine K.seq (K.region ?_)|refine K.region ?_|refine K.seq (K.seq (K.region ?_))|refine K.condT rfl ?_|refine K.condF rfl ?_|refine K.seq (K.condT rfl ?_)|refine K.seq (K.condF rfl ?_)));exact k):G:=h k
theorem byCodeD {G G':Prop} (k:G') (h:G'→G:=by intro k;(repeat (first|refine KE.next ?_|refine KE.passX ?_|refine KE.passR ?_|refine KE.blkN ?_|refine KE.blkR ?_|refine KE.blkX ?_|refine KE.blkO rfl ?_|refine K.skip ?_|refine K.exit ?_|refine K.ret ?_|refine K.condT rfl ?_|refine K.condF rfl ?_|refine K.seq (K.condT rfl ?_)|refine K.seq (K.condF rfl ?_)));exact k):G:=h k
open Go.RowKit
set_option autoImplicit false
section
variable {P : Program} {w0 : World} {ro : Option Nat} {n : Nat} {Q : Exit → Act → World → Prop} {ds : List Deferred} {m : jk} {H A A' R : jb}
variable {ops : Array Oper} {rest : List Oper} {op : Op} {ty : TypeId} {pos : String} {af : Array Edge} {ord : Ord}
theorem KL.callq {d:Nat} {f:Operand} {as0:List Operand} {ts:Array TypeId} {fv:Value} {vs:List Value} (hd:Nat.blt d n=true) (hf:evO m f=some fv) (ha:EvL m as0 vs)
  (h:CallV P w0 fv vs H (fun v H'=>KL P w0 ro n ops rest Q ds ((d,v)::m) H')):
  KL P w0 ro n ops (⟨some d, .call {callee:= .value f,args:=as0.toArray,argTypes:=ts},ty,pos,af,none⟩::rest) Q ds m H:=
 KL.callc hd hf ha fun T hT=>h.mono hT
variable {fn : FuncId} {vs : List Value} {v : Value} {T S : Ji}
theorem jp (c:Call P w0 fn vs H (fun r H'=>r=v∧H'=A')) (k:T v A'):CallV P w0 (.func (.func fn) #[] #[]) vs H T:=
 (CallV.fn c).mono fun r H' h=>by obtain⟨rfl,rfl⟩:=h;exact k
theorem jn (c:Call P w0 fn vs A (fun r H'=>r=v∧H'=A')) (hp:Part H A) (k:T v A'):CallV P w0 (.func (.func fn) #[] #[]) vs H T:=
 (CallV.part (CallV.fn c) hp).mono fun r H' h=>by obtain⟨rfl,rfl⟩:=h;exact k
theorem JY (c:Call P w0 fn vs H S) (k: ∀ v H',S v H'→T v H'):CallV P w0 (.func (.func fn) #[] #[]) vs H T:=(CallV.fn c).mono k
theorem jB (c:Call P w0 fn vs A S) (hp:Part H A) (k: ∀ v H',S v H'→T v H'):CallV P w0 (.func (.func fn) #[] #[]) vs H T:=(CallV.part (CallV.fn c) hp).mono k
end
structure ME where
 k:Int
 v:Value
 n:Nat
def ment (e:ME):MapEntry:=⟨.int .i64 e.k,e.v,e.n⟩
def mobj (ms:List ME) (c:Nat):Obj:= .map (ms.map ment).toArray c
def jdo (k:Int):List ME→Nat→Option (Nat × Value)
 | [],_=>none
 |e::r,i=>if k==e.k then some (i,e.v) else jdo k r (i+1)
structure MOk (ms:List ME) (c:Nat):Prop where
 lt: ∀ e∈ms,e.n<c
 nd:(ms.map (·.n)).Nodup
 kd:(ms.map (·.k)).Nodup
def mput (ms:List ME) (c:Nat) (k:Int) (v:Value):List ME:=match jdo k ms 0 with
 |some (i,_)=>ms.modify i fun e=>{e with v:=v}
 |none=>ms++ [⟨k,v,c⟩]
def mclk (ms:List ME) (c:Nat) (k:Int):Nat:=match jdo k ms 0 with
 |some _=>c
 |none=>c+1
theorem jhI (k:Int): ∀ (ms:List ME) (i:Nat),jdo k ms i=(jdo k ms 0).map fun p=>(p.1+i,p.2)
 | [],i=>rfl
 |e::r,i=>by
  simp only[jdo]
  cases h:(k==e.k)
  ·simp only[Bool.false_eq_true,if_false]
   rw[jhI k r (i+1),jhI k r (0+1)]
   cases jdo k r 0<;>simp<;>omega
  grind
theorem jjQ {k:Int}: ∀ {ms:List ME},jdo k ms 0=none→ ∀ e∈ms,e.k≠k
 | [],_,e,he=>by grind
 |x::r,h,e,he=>by
  simp only[jdo] at h
  cases hk:(k==x.k)
  ·rw[hk,jhI] at h
   simp only[Bool.false_eq_true,if_false,Option.map_eq_none_iff] at h
   rcases List.mem_cons.1 he with rfl|he
   ·grind
   ·exact jjQ h e he
  grind
theorem MOk.nil:MOk [] 0:=⟨by simp,by simp,by simp⟩
theorem jhP {α β:Type} (f:α→β) (g:α→α) (h: ∀ x,f (g x)=f x): ∀ (l:List α) (i:Nat),(l.modify i g).map f=l.map f
 | [],i=>by simp
 |x::l,0=>by grind
 |x::l,i+1=>by simpa using jhP f g h l i
theorem MOk.put {ms:List ME} {c:Nat} (h:MOk ms c) (k:Int) (v:Value):MOk (mput ms c k v) (mclk ms c k):=by
 unfold mput mclk
 cases hf:jdo k ms 0 with
 |some p=>
  obtain⟨i,u⟩:=p
  simp only
  have e1:(ms.modify i fun e=>{e with v:=v}).map (·.n)=ms.map (·.n):=jhP (fun e:ME=>e.n) (fun e=>{e with v:=v}) (fun _=>rfl) ms i
  have e2:(ms.modify i fun e=>{e with v:=v}).map (·.k)=ms.map (·.k):=jhP (fun e:ME=>e.k) (fun e=>{e with v:=v}) (fun _=>rfl) ms i
  refine⟨fun e he=>?_,by rw[e1];exact h.nd,by rw[e2];exact h.kd⟩
  have:e.n∈(ms.modify i fun e=>{e with v:=v}).map (·.n):=List.mem_map_of_mem he
  rw[e1] at this
  obtain⟨e',he',hn⟩:=List.mem_map.1 this
  rw[←hn];exact h.lt e' he'
 |none=>
  simp only
  refine⟨fun e he=>?_,?_,?_⟩
  ·rcases List.mem_append.1 he with he|he
   ·exact Nat.lt_succ_of_lt (h.lt e he)
   grind
  ·rw[List.map_append,List.nodup_append]
   refine⟨h.nd,by simp,fun a ha b hb e=>?_⟩
   obtain⟨e',he',rfl⟩:=List.mem_map.1 ha
   simp at hb
   have:=h.lt e' he'
   omega
  ·rw[List.map_append,List.nodup_append]
   refine⟨h.kd,by simp,fun a ha b hb e=>?_⟩
   grind[jjQ]
section
variable {P : Program} {w0 : World} {H F : jb} {m : jk} {ty : TypeId} {ms : List ME} {c b : Nat} {k : Int}
theorem Eff.makeMap {t:TypeId}:Eff P w0 H m ty (.makeMap t none) (fun v H'=> ∃ b,v= .map (some b)∧H'=(b,mobj [] 0)::H):=
 ⟨rfl,fun w d pos af g hw=>by
  have e:(execOp (evS m) ⟨d, .makeMap t none,ty,pos,af,g⟩).run P w= .ok (.value (.map (some w.heap.size))) (w.alloc (mobj [] 0)):=by
   rfl
  rw[e]
  exact⟨_,hw.alloc _,_,rfl,rfl⟩⟩
end
open Go.RowKit
section
variable {P : Program} {w0 : World} {ro : Option Nat} {n : Nat} {Q : Exit → Act → World → Prop} {ds : List Deferred} {m : jk} {H : jb}
theorem K.loopT {σ:Type} {c:Code} (keep:jk) (M:σ→jk→jk) (Hs:σ→jb) (I:σ→Prop) (μ:σ→Nat) (s0:σ) (hs:jen m (M s0 keep)) (hp:Part H (Hs s0)) (hi:I s0)
  (round: ∀ s,I s→K P w0 ro n c (Exit.then (RoundK w0 n ds (fun s=>M s keep) Hs I μ (μ s)) Q) ds (M s keep) (Hs s)):K P w0 ro n (.loop c) Q ds m H:=
 K.loop (fun s=>M s keep) Hs I μ s0 hs hp hi round
theorem K.cutT {σ:Type} {x y:Code} (keep:jk) (hk:jen m keep) (M:σ→jk→jk) (Hs:σ→jb) (I:σ→Prop) (h1:K P w0 ro n x (Exit.then (jhA w0 n ds (fun s=>M s keep) Hs I) Q) ds m H) (h2: ∀ s,I s→K P w0 ro n y Q ds (M s keep) (Hs s)):K P w0 ro n (.seq x y) Q ds m H:=
 K.cut (fun s=>M s keep) Hs I h1 h2
theorem Call.enter0 {f:FuncId} {c:Code} {fn:Func} {R:Ji} (hent:jat P f=true) (hf:P.funcs[f]?=some fn) (hb:fn.body=some c) (hn:fn.ntmps=n) (hsz:Nat.ble 0 n=true)
  (h:K P w0 none n c (bodyPostM (fen none) 0 P fn (JU w0 R)) [] [] H):Call P w0 f [] H R:=Call.enter [] hent hf hb hn hsz trivial h
theorem Call.enter1 {f:FuncId} {c:Code} {fn:Func} {R:Ji} {a0:Value} (hent:jat P f=true) (hf:P.funcs[f]?=some fn) (hb:fn.body=some c) (hn:fn.ntmps=n) (hsz:Nat.ble 1 n=true)
  (h:K P w0 none n c (bodyPostM (fen none) 0 P fn (JU w0 R)) [] [(0,a0)] H):Call P w0 f [a0] H R:=Call.enter [(0,a0)] hent hf hb hn hsz ⟨rfl,trivial⟩ h
theorem Call.enter2 {f:FuncId} {c:Code} {fn:Func} {R:Ji} {a0 a1:Value} (hent:jat P f=true) (hf:P.funcs[f]?=some fn) (hb:fn.body=some c) (hn:fn.ntmps=n) (hsz:Nat.ble 2 n=true)
  (h:K P w0 none n c (bodyPostM (fen none) 0 P fn (JU w0 R)) [] [(0,a0),(1,a1)] H):Call P w0 f [a0,a1] H R:=Call.enter [(0,a0),(1,a1)] hent hf hb hn hsz ⟨rfl,rfl,trivial⟩ h
theorem Call.enter3 {f:FuncId} {c:Code} {fn:Func} {R:Ji} {a0 a1 a2:Value} (hent:jat P f=true) (hf:P.funcs[f]?=some fn) (hb:fn.body=some c) (hn:fn.ntmps=n) (hsz:Nat.ble 3 n=true)
  (h:K P w0 none n c (bodyPostM (fen none) 0 P fn (JU w0 R)) [] [(0,a0),(1,a1),(2,a2)] H):Call P w0 f [a0,a1,a2] H R:=Call.enter [(0,a0),(1,a1),(2,a2)] hent hf hb hn hsz ⟨rfl,rfl,rfl,trivial⟩ h
theorem Call.enter4 {f:FuncId} {c:Code} {fn:Func} {R:Ji} {a0 a1 a2 a3:Value} (hent:jat P f=true) (hf:P.funcs[f]?=some fn) (hb:fn.body=some c) (hn:fn.ntmps=n) (hsz:Nat.ble 4 n=true)
  (h:K P w0 none n c (bodyPostM (fen none) 0 P fn (JU w0 R)) [] [(0,a0),(1,a1),(2,a2),(3,a3)] H):Call P w0 f [a0,a1,a2,a3] H R:=Call.enter [(0,a0),(1,a1),(2,a2),(3,a3)] hent hf hb hn hsz ⟨rfl,rfl,rfl,rfl,trivial⟩ h
theorem Call.enter5 {f:FuncId} {c:Code} {fn:Func} {R:Ji} {a0 a1 a2 a3 a4:Value} (hent:jat P f=true) (hf:P.funcs[f]?=some fn) (hb:fn.body=some c) (hn:fn.ntmps=n) (hsz:Nat.ble 5 n=true)
  (h:K P w0 none n c (bodyPostM (fen none) 0 P fn (JU w0 R)) [] [(0,a0),(1,a1),(2,a2),(3,a3),(4,a4)] H):Call P w0 f [a0,a1,a2,a3,a4] H R:=Call.enter [(0,a0),(1,a1),(2,a2),(3,a3),(4,a4)] hent hf hb hn hsz ⟨rfl,rfl,rfl,rfl,rfl,trivial⟩ h
theorem Call.enter6 {f:FuncId} {c:Code} {fn:Func} {R:Ji} {a0 a1 a2 a3 a4 a5:Value} (hent:jat P f=true) (hf:P.funcs[f]?=some fn) (hb:fn.body=some c) (hn:fn.ntmps=n) (hsz:Nat.ble 6 n=true)
  (h:K P w0 none n c (bodyPostM (fen none) 0 P fn (JU w0 R)) [] [(0,a0),(1,a1),(2,a2),(3,a3),(4,a4),(5,a5)] H):Call P w0 f [a0,a1,a2,a3,a4,a5] H R:=Call.enter [(0,a0),(1,a1),(2,a2),(3,a3),(4,a4),(5,a5)] hent hf hb hn hsz ⟨rfl,rfl,rfl,rfl,rfl,rfl,trivial⟩ h
end
open Go.RowKit
section
variable {P : Program} {w0 : World} {H F : jb} {m : jk} {ty : TypeId} {α : Type} {E : Enc α}
theorem jjr (xs:List α) (i:Nat) (hi:i≤xs.length) (tl:List Value):(jx E xs++tl).take (i*E.sz)=jx E (xs.take i):=by
 have e:jx E xs=jx E (xs.take i)++jx E (xs.drop i):=by rw[←jc4,List.take_append_drop]
 grind[jbT]
theorem jjs (xs:List α) (i:Nat) (hi:i≤xs.length) (tl:List Value):(jx E xs++tl).drop (i*E.sz)=jx E (xs.drop i)++tl:=by
 have e:jx E xs=jx E (xs.take i)++jx E (xs.drop i):=by rw[←jc4,List.take_append_drop]
 grind[jbT]
theorem sub_all (o:Own) (n z:Nat) (h:o=none→n=0):subV (oV o n) 0 n z=oV o n:=by
 cases o with
 |none=>grind[oV,subV]
 |some ob=>
  simp only[oV,subV]
  by_cases hc:ob.c=0
  ·grind
  ·simp[hc,Addr.add]
theorem Part.lit {b c:Nat} {e:TypeId} {l:List Value} {xs:List α} {F' H':jb} (hl:l=jx E xs) (h:Part F' H'):Part ((b,cells l e)::F') (oH E e xs (some ⟨b,c,[]⟩)++H'):=by
 subst hl
 rw[oH_lit]
 exact Part.take jI.head h
def jcx (xs ys:List α) (i:Nat):List α:=xs.take i++ys.take (min ys.length (xs.length-i))++xs.drop (i+min ys.length (xs.length-i))
theorem Eff.copyS {x y:Operand} {t t2 e:TypeId} {xs ys:List α} {o:Own} {i:Nat} {vd v2:Value} (hx:evO m x=some vd) (hvd:vd=subV (oV o xs.length) i xs.length E.sz) (hy:evO m y=some v2) (ht:Ja P t=some e) (hz:JG P e=some E.sz)
  (hi:i≤xs.length) (hT:JA (oH E e xs o) H F) (ok:oOk E xs o) (hs:Sli w0 H E v2 ys):
  Eff P w0 H m ty (.call {callee:= .builtin .copy,args:= #[x,y],argTypes:= #[t,t2]}) (fun v H'=>v= .int .i64 ((min ys.length (xs.length-i):Nat):Int)∧oOk E (jcx xs ys i) o∧H'=oH E e (jcx xs ys i) o++F):=by
 refine⟨by grind[jm,jaI,cov],fun w d pos af g hw0=>?_⟩
 have hw:=hw0.takeL hT
 have hsw:=hs w hw0
 have hu:P.underlying t=some (.slice e):=by grind[Ja]
 obtain⟨a,c,rfl,h1,h2,h3⟩:=hsw.shape
 have hq: ∃ inf,P.info? e=some inf∧inf.size=E.sz:=by
  simp_all[JG]
 obtain⟨inf,hq1,hq2⟩:=hq
 by_cases hn:min ys.length (xs.length-i)=0
 ·have e1:jcx xs ys i=xs:=by simp[jcx,hn]
  rw[e1,hn]
  have e2: ∃ a' c',vd= .slice a' (xs.length-i) c'∧(Nat.min ys.length (xs.length-i)=0):=by
   subst hvd
   cases o with
   |none=>grind[oOk,oV,subV]
   |some ob=>exact⟨_,_,rfl,hn⟩
  obtain⟨a',c',e2,e2'⟩:=e2
  rw[e2] at hx
  have e3:(Builtin.copy_ #[t,t2] ty #[.slice a' (xs.length-i) c', .slice a ys.length c]).run P w= .ok (goInt 0) w:=by
   cases a<;>cases a'<;>simp[Builtin.copy_,jQ w hu,Builtin.lenOf,Builtin.firstCells,sizeOf,typeInfo,hq1,e2',loadCells,loadCellsFrom,storeCells]
  have e4:(execOp (evS m) ⟨d, .call {callee:= .builtin .copy,args:= #[x,y],argTypes:= #[t,t2]},ty,pos,af,g⟩).run P w= .ok (.value (goInt 0)) w:=by
   simp[execOp,resolve,invoke,builtin,evS,hx,hy,e3]
  rw[e4]
  exact⟨_,hw,rfl,ok,rfl⟩
 ·cases o with
  |none=>grind[oOk]
  |some ob=>
   have hys:ys≠ []:=by grind
   obtain⟨b',o',rfl⟩:=h3 hys
   obtain⟨g1,g2,g3⟩:=ok
   have hil:i<xs.length:=by omega
   obtain⟨n,hnn⟩: ∃ n,n=min ys.length (xs.length-i):=⟨_,rfl⟩
   have hny:n≤ys.length:=by omega
   have hnx:i+n≤xs.length:=by omega
   have hcl:(jx E (ys.take n)).length=n*E.sz:=by grind[jbT]
   have e2:vd= .slice (some ⟨ob.b,i*E.sz,none⟩) (xs.length-i) (ob.c-i):=by
    subst hvd
    simp only[oV,subV]
    rw[if_neg (by omega)]
    simp[Addr.add]
    omega
   rw[e2] at hx
   have hfit:i*E.sz+n*E.sz≤xs.length*E.sz:=by rw[←Nat.add_mul];exact Nat.mul_le_mul_right _ hnx
   have hcp:=jlU (P:=P) w t t2 ty e ob.b (i*E.sz) (xs.length-i) (ob.c-i) ⟨b',o',none⟩ ys.length c E.sz (jx E xs++ob.tl).toArray e (jx E (ys.take n)) hu hz (hw.get _ (.head _))
    (by grind)
    (fun j v hj=>by
     have hj':(jx E ys)[j]?=some v:=by
      have e:jx E ys=jx E (ys.take n)++jx E (ys.drop n):=by rw[←jc4,List.take_append_drop]
      grind
     have:=hsw.row hj'
     grind[adr,jbu])
    (by grind[jbT]) (jiP _)
   have e4:(execOp (evS m) ⟨d, .call {callee:= .builtin .copy,args:= #[x,y],argTypes:= #[t,t2]},ty,pos,af,g⟩).run P w= .ok (.value (goInt (Nat.min ys.length (xs.length-i)))) (w.setRow ob.b (over (jx E xs++ob.tl).toArray (i*E.sz) (jx E (ys.take n)))):=by
    simp[execOp,resolve,invoke,builtin,evS,hx,hy,hcp]
   rw[e4]
   refine⟨_,hw.setRow,rfl,?_,?_⟩
   ·grind[jcx,oOk]
   ·simp only[oH,List.cons_append,List.nil_append,cells]
    congr 3
    unfold over jcx
    congr 1
    rw[←hnn]
    simp only[hcl]
    rw[←Nat.add_mul,jjr xs i hi,jjs xs (i+n) hnx,jc4,jc4]
    simp
theorem Eff.copyS0 {x y:Operand} {t t2 e:TypeId} {xs ys:List α} {o:Own} {v2:Value} (hx:evO m x=some (oV o xs.length)) (hy:evO m y=some v2) (ht:Ja P t=some e) (hz:JG P e=some E.sz)
  (hT:JA (oH E e xs o) H F) (ok:oOk E xs o) (hs:Sli w0 H E v2 ys):
  Eff P w0 H m ty (.call {callee:= .builtin .copy,args:= #[x,y],argTypes:= #[t,t2]}) (fun v H'=>v= .int .i64 ((min ys.length (xs.length-0):Nat):Int)∧oOk E (jcx xs ys 0) o∧H'=oH E e (jcx xs ys 0) o++F):=
 Eff.copyS hx (sub_all o xs.length E.sz (fun h=>by grind[oOk])).symm hy ht hz (Nat.zero_le _) hT ok hs
theorem Eff.makeR {t e:TypeId} {x y:Operand} {z:Value} {n bytes:Nat} {x0:α} (hx:evO m x=some (.int .i64 (n:Nat))) (hy:evO m y=some (.int .i64 (n:Nat))) (ht:Ja P t=some e)
  (hinfo:(P.info? e).map (fun i=>(i.zero,i.size,i.bytes))=some (some z,E.sz,bytes)) (hz:z.cells=(E.enc x0).toArray) (hb':Nat.ble bytes 65536=true) (hn':n≤4294967296):
  Eff P w0 H m ty (.makeSlice t x y) (fun v H'=> ∃ o,oOk E (List.replicate n x0) o∧v=oV o (List.replicate n x0).length∧H'=oH E e (List.replicate n x0) o++H):=by
 have h:=Eff.makeS (P:=P) (w0:=w0) (H:=H) (m:=m) (ty:=ty) (E:=E) (x0:=x0) hx hy ht hinfo hz hb' hn'
 refine⟨h.cv,fun w d pos af g hw=>(h.run w d pos af g hw).mono ?_⟩
 rintro v w' ⟨H',hh,b,rfl,rfl⟩
 exact⟨_,hh,some ⟨b,n,[]⟩,⟨by simp,by show n≤maxLen;unfold maxLen;omega,by simp⟩,by simp,rfl⟩
end
section
variable {P : Program} {w0 : World} {m : jk} {H F : jb} {ty : TypeId} {b c : Nat} {ms : List ME} {k : Int}
theorem CallV.extern {f : FuncId} {fn : Func} {e : Array Value → Sem Value} {args : List Value} {v : Value} (hf : P.funcs[f]? = some fn) (hn : (fn.name == "runtime.NumGoroutine") = false) (hb : fn.body.isNone = true) (h0 : (Extern.findNext fn).isNone = true) (he : Extern.find fn = some e)
  (hr: ∀ w,(e args.toArray).run P w= .ok v w):CallV P w0 (.func (.func f) #[] #[]) args H (fun r H'=>r=v∧H'=H):=by
 intro w hw
 have e1:((do let d←Deferred.ofValue (.func (.func f) #[] #[]) args.toArray;invoke d.target d.args:Sem Next).run P w)= .ok (.value v) w:=by
  have h0':Extern.findNext fn=none:=by simp_all
  have hc:=run_callFunc_extern (P:=P) hf hn hb h0' he args.toArray w
  rw[hr w] at hc
  simp only[Deferred.ofValue,invoke,Bind.bind,Sem.bind,Pure.pure]
  simp_all
 rw[e1]
 exact⟨_,hw,rfl,rfl⟩
end
open Go.RowKit Go.Lib
def iE:Enc Int:=⟨fun z=> [.int .i64 z],1,fun _=>rfl,by intro x v hv;simp at hv;subst hv;rfl⟩
open Go.RowKit
def fl (b:Nat):Option Nat:=if (Ieee.double.read b).isNaN then none else some b
def addF:Option Nat→Option Nat→Option Nat
 |some x,some y=>(Ieee.double.add x y).bind fl
 |_,_=>none
theorem jjh {b c:Nat} (h:fl b=some c):c=b:=by
 grind[fl]
theorem add_nan {x y:Nat} (h:fl x=none∨fl y=none):Ieee.double.add x y=none:=by
 unfold fl at h
 unfold Ieee.Format.add
 rcases h with h|h
 ·split at h
  ·rename_i hn
   cases hx:Ieee.double.read x<;>rw [hx] at hn<;>simp[Ieee.Datum.isNaN] at hn
   rfl
  grind
 ·split at h
  ·rename_i hn
   cases hx:Ieee.double.read y<;>rw [hx] at hn<;>simp[Ieee.Datum.isNaN] at hn
   cases Ieee.double.read x<;>simp[Ieee.Datum.sum]
  grind
theorem addF_eq (x y:Nat):addF (fl x) (fl y)=(Ieee.double.add x y).bind fl:=by
 cases hx:fl x with
 |none=>rw [add_nan (.inl hx)];rfl
 |some a=>
  cases hy:fl y with
  |none=>rw [add_nan (.inr hy)];rfl
  |some b=>rw [jjh hx,jjh hy];rfl
theorem read_nan (b:Nat):(Ieee.double.read b).isNaN=decide (9218868437227405312<b%9223372036854775808):=by
 have h1:Ieee.double.signWeight=9223372036854775808:=by decide
 have h2:Ieee.double.infRung=9218868437227405312:=by decide
 have h3:Ieee.double.binade=4503599627370496:=by decide
 unfold Ieee.Format.read
 rw[h1,h2,h3]
 dsimp only
 split
 ·rename_i h;simp[Ieee.Datum.isNaN];omega
 ·split
  ·rename_i h;simp[Ieee.Datum.isNaN];omega
  ·split
   ·rename_i h;simp[Ieee.Datum.isNaN];omega
   ·simp[Ieee.Datum.isNaN];omega
theorem fl_none {b:Nat}:fl b=none↔9218868437227405312<b%9223372036854775808:=by
 grind[fl,read_nan]
theorem jmK (b:Nat):(Ieee.double.order b b==some .eq)=(fl b).isSome:=by
 unfold Ieee.Format.order fl
 cases h:Ieee.double.read b with
 |number s m p=>simp[Ieee.Datum.order,Ieee.Datum.isNaN]
 |infinity s=>simp[Ieee.Datum.order,Ieee.Datum.isNaN]
 |nan s f=>rfl
section
variable {P : Program} {w0 : World} {H F : jb} {m : jk} {ty : TypeId}
theorem Eff.fadd {t u:TypeId} {x y:Operand} {a b:Nat} (hx:evO m x=some (.float .f64 a)) (hy:evO m y=some (.float .f64 b)):
  Eff P w0 H m ty (.binOp .add t x y u) (fun v H'=> ∃ r,r<18446744073709551616∧fl r=addF (fl a) (fl b)∧v= .float .f64 r∧H'=H):=
 ⟨by grind[jm,cov],fun w d pos af g hw=>by
  have hg:eqGuard .add t x y (.float .f64 a) (.float .f64 b)=pure ():=jju (by simp) (by simp)
  rw[addF_eq]
  cases ha:Ieee.double.add a b with
  |some r=>
   have e:(execOp (evS m) ⟨d, .binOp .add t x y u,ty,pos,af,g⟩).run P w= .ok (.value (.float .f64 r)) w:=by
    have h2:FloatKind.f64.format.add a b=some r:=ha
    simp[execOp,evS,hx,hy,hg,binOp,Op.floatArith,h2]
   rw[e]
   exact⟨H,hw,r,Ieee.double.add_lt ha,rfl,rfl,rfl⟩
  |none=>
   obtain⟨t',ht'⟩: ∃ t',t'=w.tape w.drawn (.nanBits .f64 a b):=⟨_,rfl⟩
   have e:(execOp (evS m) ⟨d, .binOp .add t x y u,ty,pos,af,g⟩).run P w= .ok (.value (.float .f64 ((Question.nanBits .f64 a b).cut t'))) w.drew:=by
    have h2:FloatKind.f64.format.add a b=none:=ha
    simp[execOp,evS,hx,hy,hg,binOp,Op.floatArith,h2,Question.forced,ht']
   rw[e]
   refine⟨H,hw.drew,_,?_,?_,rfl,rfl⟩
   ·simp only[Question.cut];omega
   ·simp only[Option.bind_none,fl_none,Question.cut]
    have h1:t'%2<2:=Nat.mod_lt _ (by omega)
    have h2:t'/2%(2^52-1)<2^52-1:=Nat.mod_lt _ (by omega)
    generalize t'/2%(2^52-1)=q at h2
    rcases(by omega:t'%2=0∨t'%2=1) with h|h<;>rw [h]<;>omega⟩
theorem Val.neqFS {t u:TypeId} {x y:Operand} {a:Nat} (hx:evO m x=some (.float .f64 a)) (hy:evO m y=some (.float .f64 a)):Val P w0 H m ty (.binOp .neq t x y u) (.bool (fl a).isNone):=
 Val.binV hx hy (by simp) (by simp) (fun w=>by
  have:=jmK a
  have h2:(FloatKind.f64.format.order a a !=some .eq)=(fl a).isNone:=by
   show(Ieee.double.order a a !=some .eq)=_
   grind[fl]
  simp[binOp,Op.floatCmp,h2])
end
def canonN:Option Nat→Int
 |none=>9221120237041090560
 |some b=>b
def sumP:List Int→Int
 | []=>0
 |x::l=>canonN (l.foldl (fun a w=>addF a (fl w.toNat)) (fl x.toNat))
open Go.RowKit
section
variable {P : Program} {w0 : World} {H F : jb} {m : jk} {ty : TypeId}
def jhw (P:Program) (t:TypeId):Bool:=match P.underlying t with
 |some (.func _ _ _)=>true
 |_=>false
theorem eq_func {t:TypeId} {v:Value} {b:Bool} (w:World) (ht:jhw P t=true) (hv:(v= .nilFunc∧b=true)∨(∃ f a c,v= .func f a c∧b=false)):(Op.equal t v .nilFunc).run P w= .ok b w:=by
 unfold jhw at ht
 split at ht
 ·rename_i q q' q'' hu
  rcases hv with⟨rfl,rfl⟩|⟨f,a,c,rfl,rfl⟩<;>(rw [jan,Op.equalIn.eq_2,Sem.run_bind,jQ w hu];rfl)
 grind
theorem Val.eqlFN {t u:TypeId} {x y:Operand} (hx:evO m x=some .nilFunc) (hy:evO m y=some .nilFunc) (ht:jhw P t=true):Val P w0 H m ty (.binOp .eql t x y u) (.bool true):=
 Val.binV hx hy (by simp) (by simp) fun w=>by
  have:=eq_func (v:= .nilFunc) (b:=true) w ht (.inl ⟨rfl,rfl⟩)
  simp[binOp,this]
theorem Val.eqlFF {t u:TypeId} {x y:Operand} {f:Fn} {a c:Array Value} (hx:evO m x=some (.func f a c)) (hy:evO m y=some .nilFunc) (ht:jhw P t=true):Val P w0 H m ty (.binOp .eql t x y u) (.bool false):=
 Val.binV hx hy (by simp) (by simp) fun w=>by
  have:=eq_func (v:= .func f a c) (b:=false) w ht (.inr ⟨_,_,_,rfl,rfl⟩)
  simp[binOp,this]
end
section
variable {P : Program} {w0 : World} {ro : Option Nat} {n : Nat} {Q : Exit → Act → World → Prop} {ds : List Deferred} {m : jk} {H R : jb} {ops : Array Oper} {op : Op} {ty : TypeId} {pos : String} {af : Array Edge} {ord : Ord}
theorem jP.eN {T:Ji} (he:Eff P w0 H m ty op T) (h: ∀ v H',T v H'→Part H' R∧KD P w0 ro n ops R ord Q ds m H'):jP P w0 ro n ops R ord Q ds m H ⟨none,op,ty,pos,af,none⟩:=
 fun a w ha hw=>⟨by rfl,by
  rw[ha.exec (o:=⟨none,op,ty,pos,af,none⟩) he.cv]
  exact(he.run w _ _ _ _ hw).mono fun v w' ⟨H',hh,hT⟩=>⟨_,H',ha,hh,(h v H' hT).1,(h v H' hT).2⟩⟩
end
end Go.Proofs.YtebiafomiemgbaaGreatDoor
