/-The walker and contracts, part 12.-/
import Derived.Laws.IdiomStrings
import Derived.Laws.StructEq
import Derived.Maps.RangeRun
import Derived.Test.YtciaccbemnpipaaGreatDoorProg
import Derived.Test.YtciaccbemnpipaaGreatDoorJ11
set_option linter.all false
namespace Go.Proofs.YtciaccbemnpipaaGreatDoor
open Go.RowKit
def strB (l:List UInt8):ByteArray:=⟨l.toArray⟩
theorem ji7 {a b:List UInt8}:strB a=strB b↔a=b:=by
 constructor
 ·intro h
  have:=congrArg (fun s=>s.data.toList) h
  simpa [strB] using this
 ·rintro rfl;rfl
def bE:Enc Int:=⟨fun z=> [.int .u8 z],1,fun _=>rfl,by intro x v hv;simp at hv;subst hv;rfl⟩
section
variable {P : Program} {w0 : World} {m : jo} {H F : jb} {ty : TypeId} {v : Value}
theorem Val.eqlBs {x y:Operand} {t u:TypeId} {a b:List UInt8} (hx:evO m x=some (.string (strB a))) (hy:evO m y=some (.string (strB b))):Val P w0 H m ty (.binOp .eql t x y u) (.bool (decide (a=b))):=by
 have:=Val.eqlS (P:=P) (w0:=w0) (H:=H) (ty:=ty) (t:=t) (u:=u) hx hy
 simpa [ji7] using this
theorem Val.neqBs {x y:Operand} {t u:TypeId} {a b:List UInt8} (hx:evO m x=some (.string (strB a))) (hy:evO m y=some (.string (strB b))):Val P w0 H m ty (.binOp .neq t x y u) (.bool (decide (a≠b))):=by
 have:=Val.neqS (P:=P) (w0:=w0) (H:=H) (ty:=ty) (t:=t) (u:=u) hx hy
 simpa [ji7] using this
theorem Val.sliceLZ {α:Type} {E:Enc α} {xs:List α} {t e:TypeId} {x y:Operand} {z:Int} (hx:evO m x=some v) (hy:evO m y=some (.int .i64 z)) (ht:Jw P t=some e) (hs:Sli w0 H E v xs) (hz:Ju P e=some E.sz) (hl:0<=z/\z<=xs.length):
  Val P w0 H m ty (.slice t x (some y) none none) (j9 v z.toNat xs.length E.sz):=by
 obtain⟨l,rfl⟩:=Int.eq_ofNat_of_zero_le hl.1
 exact Val.sliceL hx hy ht hs hz (by omega)
theorem Val.shr {x y:Operand} {t u:TypeId} {k k':IntKind} {a b:Int} (hx:evO m x=some (.int k a)) (hy:evO m y=some (.int k' b)) (hb:0<=b):Val P w0 H m ty (.binOp .shr t x y u) (.int k (a.fdiv (2^(min b.toNat k.bits)))):=
 Val.bin hx hy (by simp[binOp,Op.shift,show ¬b<0 by omega])
theorem Val.shl {x y:Operand} {t u:TypeId} {k k':IntKind} {a b:Int} (hx:evO m x=some (.int k a)) (hy:evO m y=some (.int k' b)) (hb:0<=b):Val P w0 H m ty (.binOp .shl t x y u) (.int k (k.wrap (a*2^(min b.toNat k.bits)))):=
 Val.bin hx hy (by simp[binOp,Op.shift,show ¬b<0 by omega])
def jaq (o:BinOp) (k:IntKind) (a b:Int):Int:=match o with
 | .and=>k.wrap (BitVec.ofInt k.bits a&&&BitVec.ofInt k.bits b).toNat
 | .or=>k.wrap (BitVec.ofInt k.bits a|||BitVec.ofInt k.bits b).toNat
 | .xor=>k.wrap (BitVec.ofInt k.bits a^^^BitVec.ofInt k.bits b).toNat
 |_=>k.wrap (BitVec.ofInt k.bits a&&& ~~~(BitVec.ofInt k.bits b)).toNat
theorem Val.or {x y:Operand} {t u:TypeId} {k:IntKind} {a b:Int} (hx:evO m x=some (.int k a)) (hy:evO m y=some (.int k b)):Val P w0 H m ty (.binOp .or t x y u) (.int k (jaq .or k a b)):=
 Val.bin hx hy (by simp[binOp,Op.intBits,jaq])
theorem Val.and {x y:Operand} {t u:TypeId} {k:IntKind} {a b:Int} (hx:evO m x=some (.int k a)) (hy:evO m y=some (.int k b)):Val P w0 H m ty (.binOp .and t x y u) (.int k (jaq .and k a b)):=
 Val.bin hx hy (by simp[binOp,Op.intBits,jaq])
theorem Val.xor {x y:Operand} {t u:TypeId} {k:IntKind} {a b:Int} (hx:evO m x=some (.int k a)) (hy:evO m y=some (.int k b)):Val P w0 H m ty (.binOp .xor t x y u) (.int k (jaq .xor k a b)):=
 Val.bin hx hy (by simp[binOp,Op.intBits,jaq])
theorem Val.andNot {x y:Operand} {t u:TypeId} {k:IntKind} {a b:Int} (hx:evO m x=some (.int k a)) (hy:evO m y=some (.int k b)):Val P w0 H m ty (.binOp .andNot t x y u) (.int k (jaq .andNot k a b)):=
 Val.bin hx hy (by simp[binOp,Op.intBits,jaq])
theorem Val.min {x y:Operand} {ts:Array TypeId} {k k':IntKind} {a b:Int} (hx:evO m x=some (.int k a)) (hy:evO m y=some (.int k' b)):Val P w0 H m ty (.call {callee:= .builtin .min,args:= #[x,y],argTypes:=ts}) (.int k (if b<a then b else a)):=
 ⟨by simp[jB,jbz,cov,hx,hy],fun w d pos af g _=>by
  simp[execOp,resolve,invoke,builtin,evS,hx,hy,Builtin.min_,Builtin.min2]⟩
theorem Val.max {x y:Operand} {ts:Array TypeId} {k k':IntKind} {a b:Int} (hx:evO m x=some (.int k a)) (hy:evO m y=some (.int k' b)):Val P w0 H m ty (.call {callee:= .builtin .max,args:= #[x,y],argTypes:=ts}) (.int k (if a<b then b else a)):=
 ⟨by simp[jB,jbz,cov,hx,hy],fun w d pos af g _=>by
  simp[execOp,resolve,invoke,builtin,evS,hx,hy,Builtin.max_,Builtin.max2]⟩
def intTy (P:Program) (t:TypeId):Bool:=match P.underlying t with
 |some (.int _)=>true
 |_=>false
mutual
inductive EqV (P:Program):Nat->TypeId->Value->Value->Bool->Prop
 |int {d:Nat} {t:TypeId} {k:IntKind} {a b:Int}:intTy P t=true->EqV P (d+1) t (.int k a) (.int k b) (decide (a=b))
 |bool {d:Nat} {t:TypeId} {a b:Bool}:jdQ P t=true->EqV P (d+1) t (.bool a) (.bool b) (a==b)
 |agg {d:Nat} {t:TypeId} {xs ys:List Value} {fs:List Field} {r:Bool}:P.underlying t=some (.struct (P.fieldsOf t))->P.stoodInHeld t=false->(P.fieldsOf t).toList=fs->EqF P d xs ys fs r->EqV P (d+1) t (.agg xs.toArray) (.agg ys.toArray) r
inductive EqF (P:Program):Nat->List Value->List Value->List Field->Bool->Prop
 |nil {d:Nat} {xs ys:List Value}:EqF P d xs ys [] true
 | one {d : Nat} {xs ys : List Value} {f : Field} {fs : List Field} {a b : Value} {r s : Bool} : decide (f.name ≠ "_") = true -> oneB P f.type = true -> xs[f.offset]? = some a -> ys[f.offset]? = some b -> EqV P d f.type a b r -> EqF P d xs ys fs s -> EqF P d xs ys (f :: fs) (r && s)
 | sub {d z : Nat} {xs ys as0 bs : List Value} {f : Field} {fs : List Field} {r s : Bool} : decide (f.name ≠ "_") = true -> jbI P f.type = true -> Ju P f.type = some z -> Seg xs f.offset z as0 -> Seg ys f.offset z bs -> EqV P d f.type (.agg as0.toArray) (.agg bs.toArray) r -> EqF P d xs ys fs s -> EqF P d xs ys (f :: fs) (r && s)
end
theorem eqF_run {d:Nat} (ih: ∀ {t:TypeId} {a b:Value} {r:Bool},EqV P d t a b r-> ∀ w,(Op.equalIn d t a b).run P w= .ok r w) {xs ys:List Value}: ∀ {fs:List Field} {r:Bool},EqF P d xs ys fs r-> ∀ w,(Op.eqFields d xs.toArray ys.toArray fs).run P w= .ok r w:=by
 intro fs
 induction fs with
 |nil=>intro r h w;cases h;simp[Op.eqFields]
 |cons f fs ihf=>
  intro r h w
  cases h with
  | @one _ _ _ _ _ a b r s hn h1 ha hb hv hr=>
   have hn' : f.name ≠ "_" := by simpa using hn
   have p1:=jez (P:=P) w (cs:=xs.toArray) (off:=f.offset) h1 (by simpa using ha)
   have p2:=jez (P:=P) w (cs:=ys.toArray) (off:=f.offset) h1 (by simpa using hb)
   have p3:=ih hv w
   have p4:=ihf hr w
   simp only[Op.eqFields,hn',ne_eq,not_false_eq_true,if_true,Sem.run_bind,p1,p2,p3,Result.andThen]
   cases r<;>simp[p4]
  | @sub _ z _ _ as0 bs _ _ r s hn h1 hz hs1 hs2 hv hr=>
   have hn' : f.name ≠ "_" := by simpa using hn
   have e1:xs.toArray.extract f.offset (f.offset+z)=as0.toArray:=by
    have:=hs1.eq.1
    simp[List.extract_eq_take_drop,<-this]
   have e2:ys.toArray.extract f.offset (f.offset+z)=bs.toArray:=by
    have:=hs2.eq.1
    simp[List.extract_eq_take_drop,<-this]
   have p1:=jf6 (P:=P) w (cs:=xs.toArray) (off:=f.offset) h1 hz
   have p2:=jf6 (P:=P) w (cs:=ys.toArray) (off:=f.offset) h1 hz
   rw[e1] at p1
   rw[e2] at p2
   have p3:=ih hv w
   have p4:=ihf hr w
   simp only[Op.eqFields,hn',ne_eq,not_false_eq_true,if_true,Sem.run_bind,p1,p2,p3,Result.andThen]
   cases r<;>simp[p4]
theorem eqV_run: ∀ (d:Nat) {t:TypeId} {a b:Value} {r:Bool},EqV P d t a b r-> ∀ w,(Op.equalIn d t a b).run P w= .ok r w:=by
 intro d
 induction d with
 |zero=>intro t a b r h;cases h
 |succ d ih=>
  intro t a b r h w
  cases h with
  |int ht=>
   unfold intTy at ht
   split at ht
   ·rename_i k' hu
    rw[Op.equalIn.eq_2,Sem.run_bind,JG w hu]
    simp[Result.andThen,jhn]
   ·cases ht
  |bool ht=>
   unfold jdQ at ht
   split at ht
   ·rename_i hu
    rw[Op.equalIn.eq_2,Sem.run_bind,JG w hu];rfl
   ·cases ht
  |agg hu hs hf hr=>
   rw[run_equalIn_struct w d t _ _ hu hs,hf]
   exact eqF_run ih hr w
theorem Val.neqA {t u:TypeId} {x y:Operand} {xs ys:List Value} {r:Bool} (hx:evO m x=some (.agg xs.toArray)) (hy:evO m y=some (.agg ys.toArray)) (hg:P.eqGuardType P.depth t=false) (h:EqV P (9999+1) t (.agg xs.toArray) (.agg ys.toArray) r):Val P w0 H m ty (.binOp .neq t x y u) (.bool (!r)):=
 ⟨by simp[jB,cov,hx,hy],fun w d pos af g _=>by
  have e1:=run_eqGuard_agg (P:=P) w .neq t x y xs.toArray ys.toArray hg
  have e2:=eqV_run _ h w
  simp[execOp,evS,hx,hy,e1,binOp,jcB,e2]⟩
theorem Val.eqlA {t u:TypeId} {x y:Operand} {xs ys:List Value} {r:Bool} (hx:evO m x=some (.agg xs.toArray)) (hy:evO m y=some (.agg ys.toArray)) (hg:P.eqGuardType P.depth t=false) (h:EqV P (9999+1) t (.agg xs.toArray) (.agg ys.toArray) r):Val P w0 H m ty (.binOp .eql t x y u) (.bool r):=
 ⟨by simp[jB,cov,hx,hy],fun w d pos af g _=>by
  have e1:=run_eqGuard_agg (P:=P) w .eql t x y xs.toArray ys.toArray hg
  have e2:=eqV_run _ h w
  simp[execOp,evS,hx,hy,e1,binOp,jcB,e2]⟩
theorem Val.isB {op:Op} {r b:Bool} (h:Val P w0 H m ty op (.bool r)) (hr:r=b):Val P w0 H m ty op (.bool b):=by rw[hr] at h;exact h
theorem Val.neqAE {t u:TypeId} {x y:Operand} {xs ys:List Value} {r:Bool} (hx:evO m x=some (.agg xs.toArray)) (hy:evO m y=some (.agg ys.toArray)) (hg:P.eqGuardType P.depth t=false) (h:EqV P (9999+1) t (.agg xs.toArray) (.agg ys.toArray) r) (hr:r=true):Val P w0 H m ty (.binOp .neq t x y u) (.bool false):=
 Val.isB (Val.neqA hx hy hg h) (by rw[hr];rfl)
theorem Val.neqAN {t u:TypeId} {x y:Operand} {xs ys:List Value} {r:Bool} (hx:evO m x=some (.agg xs.toArray)) (hy:evO m y=some (.agg ys.toArray)) (hg:P.eqGuardType P.depth t=false) (h:EqV P (9999+1) t (.agg xs.toArray) (.agg ys.toArray) r) (hr:r=false):Val P w0 H m ty (.binOp .neq t x y u) (.bool true):=
 Val.isB (Val.neqA hx hy hg h) (by rw[hr];rfl)
theorem Val.eqlAE {t u:TypeId} {x y:Operand} {xs ys:List Value} {r:Bool} (hx:evO m x=some (.agg xs.toArray)) (hy:evO m y=some (.agg ys.toArray)) (hg:P.eqGuardType P.depth t=false) (h:EqV P (9999+1) t (.agg xs.toArray) (.agg ys.toArray) r) (hr:r=true):Val P w0 H m ty (.binOp .eql t x y u) (.bool true):=
 Val.isB (Val.eqlA hx hy hg h) hr
end
open Go.RowKit Go.ChangeShapes Go.WideShapes
set_option autoImplicit false
theorem jK {G:Prop} (h:G:=by first|((repeat (first|exact jx.head|with_reducible apply jx.tail|apply jx.app))<;>fail)|fail):G:=h
theorem jt {G:Prop} (h:G:=by first|((repeat (first|exact jE.head|exact jE.whole|with_reducible apply jE.tail|apply jE.app))<;>fail)|fail):G:=h
theorem Ja {G:Prop} (h:G:=by first|((repeat (first|exact EvL.nil|(apply EvL.cons;(·exact rfl))))<;>fail)|fail):G:=h
theorem jbS {G:Prop} (h:G:=by first|((repeat (first|exact Seg.nil|apply Seg.cons|apply Seg.next))<;>fail)|fail):G:=h
theorem jdJ {G:Prop} (h:G:=by first|((repeat (first|exact jbU.nil|(apply jbU.cons;(·exact rfl))))<;>fail)|fail):G:=h
theorem jeg {G:Prop} (h:G:=by first|((repeat (first|exact jct.here|apply jct.next))<;>fail)|fail):G:=h
theorem byLay {G:Prop} (h:G:=by first|((repeat (first|exact Lay.nil|apply Lay.cons|apply Lay.next))<;>fail)|fail):G:=h
theorem byOnes {G:Prop} (h:G:=by first|rfl|(simp only[List.all_cons,List.all_nil,Bool.and_true,Bool.and_eq_true];(repeat' apply And.intro)<;>first|rfl|exact jJ _ _|exact SlW.one (by assumption)|assumption)):G:=h
theorem jdl {G:Prop} (h:G:=by first|rfl|exact jJ _ _|exact SlW.one (by assumption)|assumption):G:=h
theorem jdM {G:Prop} (h:G:=by first|((repeat (first|exact jbu.nil|(apply jbu.one;(·exact rfl);(·exact jdl);(·exact jeg))|(apply jbu.agg;(·exact rfl);(·exact rfl);(·exact byLay))))<;>fail)|fail):G:=h
theorem jcs {G:Prop} (h:G:=by first|rfl|assumption|(simp<;>fail)|(simp;omega)|omega):G:=h
theorem J1 {G:Prop} (h:G:=by first|assumption|omega):G:=h
theorem jg {G:Prop} (h:G:=by first|((repeat (first|exact trivial|refine And.intro ⟨_,rfl,(by first|rfl|(dsimp only;first|rfl|(congr 1;omega)|(simp<;>fail)|(congr 1;simp<;>fail)|(congr 1;simp;omega)|(congr 2;simp;omega))|(congr 1;omega)|(simp<;>fail)|(congr 1;simp<;>fail)|(congr 1;simp;omega)|(congr 2;simp;omega))⟩ ?_))<;>fail)|fail):G:=h
theorem ja {G:Prop} (h:G:=by first|((repeat (first|exact Part.all|(apply Part.takeA;(·exact jt))|apply Part.assoc|(apply Part.take;(·exact jK))|exact Part.lastA jt|apply Part.drop|apply Part.dropA|exact Part.nil))<;>fail)|fail):G:=h
theorem jce {G:Prop} (h:G:=by first|exact Sli.old (by assumption)|exact Sli.own jt (by assumption) jcs|assumption|exact Sli.part (by assumption) ja):G:=h
theorem bySee {G:Prop} (h:G:=by first|exact j7.cell jK rfl|exact j7.sl jce (by assumption) rfl|exact j7.sl0 jce (by assumption) rfl|exact j7.old (by assumption)|assumption):G:=h
theorem bySeeN {G:Prop} (h:G:=by first|exact jcW.own jK jbS|assumption):G:=h
theorem bySeeA {G:Prop} (h:G:=by first|exact SeesA.sl jce (by assumption)|assumption):G:=h
theorem jd {G:Prop} (h:G:=by first|((repeat (first|exact jcX.nil|(apply jcX.cons;(·exact jK))))<;>fail)|fail):G:=h
theorem jc {G:Prop} (h:G:=by first|((repeat (first|exact jaN.nil|(apply jaN.tmp;(·exact rfl))|(apply jaN.cell;(·exact rfl);(·exact rfl);(·exact bySee))|(apply jaN.cellN;(·exact rfl);(·exact rfl);(·exact rfl);(·exact bySeeN))))<;>fail)|fail):G:=h
theorem byEqv {G:Prop} (h:G:=by first|((repeat (first|exact EqF.nil|exact EqV.int rfl|exact EqV.bool rfl|(apply EqV.agg;(·kernel_rfl);(·kernel_rfl);(·exact rfl))|(apply EqF.one;(·exact rfl);(·exact rfl);(·exact rfl);(·exact rfl))|(apply EqF.sub;(·exact rfl);(·exact rfl);(·exact rfl);(·exact jbS);(·exact jbS))))<;>fail)|fail):G:=h
theorem jep {G G':Prop} (k:G') (h:G'->G:=by intro k;(repeat (first|refine KE.next ?_|refine KE.passX ?_|refine KE.passR ?_|refine KE.blkN ?_|refine KE.blkR ?_|refine KE.blkX ?_|refine KE.blkO rfl ?_|refine K.skip ?_|refine K.exit ?_|refine K.ret ?_|refine K.seq (K.region ?_)|refine K.region ?_|refine K.seq (K.seq (K.region ?_))|refine K.condT rfl ?_|refine K.condF rfl ?_|refine K.seq (K.condT rfl ?_)|refine K.seq (K.condF rfl ?_)));exact k):G:=h k
theorem byCodeD {G G':Prop} (k:G') (h:G'->G:=by intro k;(repeat (first|refine KE.next ?_|refine KE.passX ?_|refine KE.passR ?_|refine KE.blkN ?_|refine KE.blkR ?_|refine KE.blkX ?_|refine KE.blkO rfl ?_|refine K.skip ?_|refine K.exit ?_|refine K.ret ?_|refine K.condT rfl ?_|refine K.condF rfl ?_|refine K.seq (K.condT rfl ?_)|refine K.seq (K.condF rfl ?_)));exact k):G:=h k
structure ME where
 k:Int
 v:Value
 n:Nat
def ment (e:ME):MapEntry:=⟨.int .i64 e.k,e.v,e.n⟩
def mobj (ms:List ME) (c:Nat):Obj:= .map (ms.map ment).toArray c
def jcb (k:Int):List ME->Nat->Option (Nat × Value)
 | [],_=>none
 |e::r,i=>if k==e.k then some (i,e.v) else jcb k r (i+1)
structure MOk (ms:List ME) (c:Nat):Prop where
 lt: ∀ e∈ms,e.n<c
 nd:(ms.map (·.n)).Nodup
 kd:(ms.map (·.k)).Nodup
def mput (ms:List ME) (c:Nat) (k:Int) (v:Value):List ME:=match jcb k ms 0 with
 |some (i,_)=>ms.modify i fun e=>{e with v:=v}
 |none=>ms++ [⟨k,v,c⟩]
def mclk (ms:List ME) (c:Nat) (k:Int):Nat:=match jcb k ms 0 with
 |some _=>c
 |none=>c+1
theorem jfL (k:Int): ∀ (ms:List ME) (i:Nat),jcb k ms i=(jcb k ms 0).map fun p=>(p.1+i,p.2)
 | [],i=>rfl
 |e::r,i=>by
  simp only[jcb]
  cases h:(k==e.k)
  ·simp only[Bool.false_eq_true,if_false]
   rw[jfL k r (i+1),jfL k r (0+1)]
   cases jcb k r 0<;>simp<;>omega
  ·simp
theorem jh1 {k:Int}: ∀ {ms:List ME},jcb k ms 0=none-> ∀ e∈ms,e.k≠k
 | [],_,e,he=>by cases he
 |x::r,h,e,he=>by
  simp only[jcb] at h
  cases hk:(k==x.k)
  ·rw[hk,jfL] at h
   simp only[Bool.false_eq_true,if_false,Option.map_eq_none_iff] at h
   rcases List.mem_cons.1 he with rfl|he
   ·intro e';simp[e'] at hk
   ·exact jh1 h e he
  ·rw[hk] at h;simp at h
theorem MOk.nil:MOk [] 0:=⟨by simp,by simp,by simp⟩
theorem jfS {α β:Type} (f:α->β) (g:α->α) (h: ∀ x,f (g x)=f x): ∀ (l:List α) (i:Nat),(l.modify i g).map f=l.map f
 | [],i=>by simp
 |x::l,0=>by simp[h]
 |x::l,i+1=>by simpa using jfS f g h l i
theorem MOk.put {ms:List ME} {c:Nat} (h:MOk ms c) (k:Int) (v:Value):MOk (mput ms c k v) (mclk ms c k):=by
 unfold mput mclk
 cases hf:jcb k ms 0 with
 |some p=>
  obtain⟨i,u⟩:=p
  simp only
  have e1:(ms.modify i fun e=>{e with v:=v}).map (·.n)=ms.map (·.n):=jfS (fun e:ME=>e.n) (fun e=>{e with v:=v}) (fun _=>rfl) ms i
  have e2:(ms.modify i fun e=>{e with v:=v}).map (·.k)=ms.map (·.k):=jfS (fun e:ME=>e.k) (fun e=>{e with v:=v}) (fun _=>rfl) ms i
  refine⟨fun e he=>?_,by rw[e1];exact h.nd,by rw[e2];exact h.kd⟩
  have:e.n∈(ms.modify i fun e=>{e with v:=v}).map (·.n):=List.mem_map_of_mem he
  rw[e1] at this
  obtain⟨e',he',hn⟩:=List.mem_map.1 this
  rw[<-hn];exact h.lt e' he'
 |none=>
  simp only
  refine⟨fun e he=>?_,?_,?_⟩
  ·rcases List.mem_append.1 he with he|he
   ·exact Nat.lt_succ_of_lt (h.lt e he)
   ·rw[List.mem_singleton.1 he];exact Nat.lt_succ_self _
  ·rw[List.map_append,List.nodup_append]
   refine⟨h.nd,by simp,fun a ha b hb e=>?_⟩
   obtain⟨e',he',rfl⟩:=List.mem_map.1 ha
   simp at hb
   have:=h.lt e' he'
   omega
  ·rw[List.map_append,List.nodup_append]
   refine⟨h.kd,by simp,fun a ha b hb e=>?_⟩
   obtain⟨e',he',rfl⟩:=List.mem_map.1 ha
   simp at hb
   exact jh1 hf e' he' (e.trans hb)
section
variable {P : Program} {w0 : World} {H F : jb} {m : jo} {ty : TypeId} {ms : List ME} {c b : Nat} {k : Int}
theorem Eff.makeMap {t:TypeId}:Eff P w0 H m ty (.makeMap t none) (fun v H'=> ∃ b,v= .map (some b)/\H'=(b,mobj [] 0)::H):=
 ⟨rfl,fun w d pos af g hw=>by
  have e:(execOp (evS m) ⟨d, .makeMap t none,ty,pos,af,g⟩).run P w= .ok (.value (.map (some w.heap.size))) (w.alloc (mobj [] 0)):=by
   simp[execOp,Instr.makeMap,newObj,Sem.run,Bind.bind,Sem.bind,Pure.pure,mobj]
  rw[e]
  exact⟨_,hw.alloc _,_,rfl,rfl⟩⟩
end
section
variable {P : Program} {w0 : World} {ro : Option Nat} {n : Nat} {Q : Exit -> Act -> World -> Prop} {ds : List Deferred} {m : jo} {H : jb}
theorem K.loopT {σ:Type} {c:Code} (keep:jo) (M:σ->jo->jo) (Hs:σ->jb) (I:σ->Prop) (μ:σ->Nat) (s0:σ) (hs:jcS m (M s0 keep)) (hp:Part H (Hs s0)) (hi:I s0)
  (round: ∀ s,I s->K P w0 ro n c (Exit.then (RoundK w0 n ds (fun s=>M s keep) Hs I μ (μ s)) Q) ds (M s keep) (Hs s)):K P w0 ro n (.loop c) Q ds m H:=
 K.loop (fun s=>M s keep) Hs I μ s0 hs hp hi round
theorem K.cutT {σ:Type} {x y:Code} (keep:jo) (hk:jcS m keep) (M:σ->jo->jo) (Hs:σ->jb) (I:σ->Prop) (h1:K P w0 ro n x (Exit.then (jfG w0 n ds (fun s=>M s keep) Hs I) Q) ds m H) (h2: ∀ s,I s->K P w0 ro n y Q ds (M s keep) (Hs s)):K P w0 ro n (.seq x y) Q ds m H:=
 K.cut (fun s=>M s keep) Hs I h1 h2
theorem KD.fork3 {ops:Array Oper} {R:jb} {ord:Ord} {i x y z:Nat} {ox oy oz:Oper} {o1 o2 o3:Ord} (hr:Region.ready .any ops (lst ops.size (jI ((i,3)::ord)))=[x,y,z]) (hx:ops[x]?=some ox) (hy:ops[y]?=some oy) (hz:ops[z]?=some oz)
  (f1:jdk ops ((i,3)::ord) x o1=true) (f2:jdk ops ((i,3)::ord) y o2=true) (f3:jdk ops ((i,3)::ord) z o3=true) (h1:jR P w0 ro n ops R o1 Q ds m H ox) (h2:jR P w0 ro n ops R o2 Q ds m H oy) (h3:jR P w0 ro n ops R o3 Q ds m H oz):KD P w0 ro n ops R ((i,3)::ord) Q ds m H:=
 KD.forks [x,y,z] hr (by simp) fun q hq=>by
  simp only[List.mem_cons,List.not_mem_nil,or_false] at hq
  rcases hq with rfl|rfl|rfl
  ·exact⟨ox,o1,hx,f1,h1⟩
  ·exact⟨oy,o2,hy,f2,h2⟩
  ·exact⟨oz,o3,hz,f3,h3⟩
theorem Call.enter0 {f:FuncId} {c:Code} {fn:Func} {R:Jc} (hent:jay P f=true) (hf:P.funcs[f]?=some fn) (hb:fn.body=some c) (hn:fn.ntmps=n) (hsz:Nat.ble 0 n=true)
  (h:K P w0 none n c (bodyPostM (fen none) 0 P fn (jaa w0 R)) [] [] H):Call P w0 f [] H R:=Call.enter [] hent hf hb hn hsz trivial h
theorem Call.enter1 {f:FuncId} {c:Code} {fn:Func} {R:Jc} {a0:Value} (hent:jay P f=true) (hf:P.funcs[f]?=some fn) (hb:fn.body=some c) (hn:fn.ntmps=n) (hsz:Nat.ble 1 n=true)
  (h:K P w0 none n c (bodyPostM (fen none) 0 P fn (jaa w0 R)) [] [(0,a0)] H):Call P w0 f [a0] H R:=Call.enter [(0,a0)] hent hf hb hn hsz ⟨rfl,trivial⟩ h
theorem Call.enter2 {f:FuncId} {c:Code} {fn:Func} {R:Jc} {a0 a1:Value} (hent:jay P f=true) (hf:P.funcs[f]?=some fn) (hb:fn.body=some c) (hn:fn.ntmps=n) (hsz:Nat.ble 2 n=true)
  (h:K P w0 none n c (bodyPostM (fen none) 0 P fn (jaa w0 R)) [] [(0,a0),(1,a1)] H):Call P w0 f [a0,a1] H R:=Call.enter [(0,a0),(1,a1)] hent hf hb hn hsz ⟨rfl,rfl,trivial⟩ h
theorem Call.enter3 {f:FuncId} {c:Code} {fn:Func} {R:Jc} {a0 a1 a2:Value} (hent:jay P f=true) (hf:P.funcs[f]?=some fn) (hb:fn.body=some c) (hn:fn.ntmps=n) (hsz:Nat.ble 3 n=true)
  (h:K P w0 none n c (bodyPostM (fen none) 0 P fn (jaa w0 R)) [] [(0,a0),(1,a1),(2,a2)] H):Call P w0 f [a0,a1,a2] H R:=Call.enter [(0,a0),(1,a1),(2,a2)] hent hf hb hn hsz ⟨rfl,rfl,rfl,trivial⟩ h
theorem Call.enter4 {f:FuncId} {c:Code} {fn:Func} {R:Jc} {a0 a1 a2 a3:Value} (hent:jay P f=true) (hf:P.funcs[f]?=some fn) (hb:fn.body=some c) (hn:fn.ntmps=n) (hsz:Nat.ble 4 n=true)
  (h:K P w0 none n c (bodyPostM (fen none) 0 P fn (jaa w0 R)) [] [(0,a0),(1,a1),(2,a2),(3,a3)] H):Call P w0 f [a0,a1,a2,a3] H R:=Call.enter [(0,a0),(1,a1),(2,a2),(3,a3)] hent hf hb hn hsz ⟨rfl,rfl,rfl,rfl,trivial⟩ h
theorem Call.enter5 {f:FuncId} {c:Code} {fn:Func} {R:Jc} {a0 a1 a2 a3 a4:Value} (hent:jay P f=true) (hf:P.funcs[f]?=some fn) (hb:fn.body=some c) (hn:fn.ntmps=n) (hsz:Nat.ble 5 n=true)
  (h:K P w0 none n c (bodyPostM (fen none) 0 P fn (jaa w0 R)) [] [(0,a0),(1,a1),(2,a2),(3,a3),(4,a4)] H):Call P w0 f [a0,a1,a2,a3,a4] H R:=Call.enter [(0,a0),(1,a1),(2,a2),(3,a3),(4,a4)] hent hf hb hn hsz ⟨rfl,rfl,rfl,rfl,rfl,trivial⟩ h
theorem Call.enter6 {f:FuncId} {c:Code} {fn:Func} {R:Jc} {a0 a1 a2 a3 a4 a5:Value} (hent:jay P f=true) (hf:P.funcs[f]?=some fn) (hb:fn.body=some c) (hn:fn.ntmps=n) (hsz:Nat.ble 6 n=true)
  (h:K P w0 none n c (bodyPostM (fen none) 0 P fn (jaa w0 R)) [] [(0,a0),(1,a1),(2,a2),(3,a3),(4,a4),(5,a5)] H):Call P w0 f [a0,a1,a2,a3,a4,a5] H R:=Call.enter [(0,a0),(1,a1),(2,a2),(3,a3),(4,a4),(5,a5)] hent hf hb hn hsz ⟨rfl,rfl,rfl,rfl,rfl,rfl,trivial⟩ h
end
section
variable {P : Program} {w0 : World} {H F : jb} {m : jo} {ty : TypeId} {α : Type} {E : Enc α}
theorem jhC (xs:List α) (i:Nat) (hi:i<=xs.length) (tl:List Value):(jC E xs++tl).take (i*E.sz)=jC E (xs.take i):=by
 have e:jC E xs=jC E (xs.take i)++jC E (xs.drop i):=by rw[<-jbZ,List.take_append_drop]
 have hl:(jC E (xs.take i)).length=i*E.sz:=by rw[ja8,List.length_take,Nat.min_eq_left hi]
 rw[e,List.append_assoc,<-hl,List.take_left']
 rfl
theorem jhD (xs:List α) (i:Nat) (hi:i<=xs.length) (tl:List Value):(jC E xs++tl).drop (i*E.sz)=jC E (xs.drop i)++tl:=by
 have e:jC E xs=jC E (xs.take i)++jC E (xs.drop i):=by rw[<-jbZ,List.take_append_drop]
 have hl:(jC E (xs.take i)).length=i*E.sz:=by rw[ja8,List.length_take,Nat.min_eq_left hi]
 rw[e,List.append_assoc,<-hl,List.drop_left']
 rfl
theorem jkl (o:Own) (n z:Nat) (h:o=none->n=0):j9 (oV o n) 0 n z=oV o n:=by
 cases o with
 |none=>simp only[oV,j9,h rfl];simp
 |some ob=>
  simp only[oV,j9]
  by_cases hc:ob.c=0
  ·simp[hc]
  ·simp[hc,Addr.add]
theorem Part.lit {b c:Nat} {e:TypeId} {l:List Value} {xs:List α} {F' H':jb} (hl:l=jC E xs) (h:Part F' H'):Part ((b,cells l e)::F') (oH E e xs (some ⟨b,c,[]⟩)++H'):=by
 subst hl
 rw[oH_lit]
 exact Part.take jx.head h
def jbb (xs ys:List α) (i:Nat):List α:=xs.take i++ys.take (min ys.length (xs.length-i))++xs.drop (i+min ys.length (xs.length-i))
theorem Eff.copyS {x y:Operand} {t t2 e:TypeId} {xs ys:List α} {o:Own} {i:Nat} {vd v2:Value} (hx:evO m x=some vd) (hvd:vd=j9 (oV o xs.length) i xs.length E.sz) (hy:evO m y=some v2) (ht:Jw P t=some e) (hz:Ju P e=some E.sz)
  (hi:i<=xs.length) (hT:jE (oH E e xs o) H F) (ok:oOk E xs o) (hs:Sli w0 H E v2 ys):
  Eff P w0 H m ty (.call {callee:= .builtin .copy,args:= #[x,y],argTypes:= #[t,t2]}) (fun v H'=>v= .int .i64 ((min ys.length (xs.length-i):Nat):Int)/\oOk E (jbb xs ys i) o/\H'=oH E e (jbb xs ys i) o++F):=by
 refine⟨by simp[jB,jbz,cov,hx,hy],fun w d pos af g hw0=>?_⟩
 have hw:=hw0.takeL hT
 have hsw:=hs w hw0
 have hu:P.underlying t=some (.slice e):=by unfold Jw at ht;split at ht<;>simp_all
 obtain⟨a,c,rfl,h1,h2,h3⟩:=hsw.shape
 have hq: ∃ inf,P.info? e=some inf/\inf.size=E.sz:=by
  unfold Ju at hz;exact Option.map_eq_some_iff.1 hz
 obtain⟨inf,hq1,hq2⟩:=hq
 by_cases hn:min ys.length (xs.length-i)=0
 ·have e1:jbb xs ys i=xs:=by simp[jbb,hn]
  rw[e1,hn]
  have e2: ∃ a' c',vd= .slice a' (xs.length-i) c'/\(Nat.min ys.length (xs.length-i)=0):=by
   subst hvd
   cases o with
   |none=>simp only[oOk] at ok;subst ok;exact⟨none,0-i,by cases i<;>simp[oV,j9],hn⟩
   |some ob=>exact⟨_,_,rfl,hn⟩
  obtain⟨a',c',e2,e2'⟩:=e2
  rw[e2] at hx
  have e3:(Builtin.copy_ #[t,t2] ty #[.slice a' (xs.length-i) c', .slice a ys.length c]).run P w= .ok (goInt 0) w:=by
   cases a<;>cases a'<;>simp[Builtin.copy_,JG w hu,Builtin.lenOf,Builtin.firstCells,sizeOf,typeInfo,hq1,e2',loadCells,loadCellsFrom,storeCells]
  have e4:(execOp (evS m) ⟨d, .call {callee:= .builtin .copy,args:= #[x,y],argTypes:= #[t,t2]},ty,pos,af,g⟩).run P w= .ok (.value (goInt 0)) w:=by
   simp[execOp,resolve,invoke,builtin,evS,hx,hy,e3]
  rw[e4]
  exact⟨_,hw,rfl,ok,rfl⟩
 ·cases o with
  |none=>simp only[oOk] at ok;subst ok;simp at hn
  |some ob=>
   have hys:ys≠ []:=by intro h;subst h;simp at hn
   obtain⟨b',o',rfl⟩:=h3 hys
   obtain⟨g1,g2,g3⟩:=ok
   have hil:i<xs.length:=by omega
   obtain⟨n,hnn⟩: ∃ n,n=min ys.length (xs.length-i):=⟨_,rfl⟩
   have hny:n<=ys.length:=by omega
   have hnx:i+n<=xs.length:=by omega
   have hcl:(jC E (ys.take n)).length=n*E.sz:=by rw[ja8,List.length_take,Nat.min_eq_left hny]
   have e2:vd= .slice (some ⟨ob.b,i*E.sz,none⟩) (xs.length-i) (ob.c-i):=by
    subst hvd
    simp only[oV,j9]
    rw[if_neg (by omega)]
    simp[Addr.add]
    try omega
   rw[e2] at hx
   have hfit:i*E.sz+n*E.sz<=xs.length*E.sz:=by rw[<-Nat.add_mul];exact Nat.mul_le_mul_right _ hnx
   have hcp:=jkO (P:=P) w t t2 ty e ob.b (i*E.sz) (xs.length-i) (ob.c-i) ⟨b',o',none⟩ ys.length c E.sz (jC E xs++ob.tl).toArray e (jC E (ys.take n)) hu hz (hw.get _ (.head _))
    (by rw[hcl,hnn])
    (fun j v hj=>by
     have hj':(jC E ys)[j]?=some v:=by
      have e:jC E ys=jC E (ys.take n)++jC E (ys.drop n):=by rw[<-jbZ,List.take_append_drop]
      rw[e,List.getElem?_append_left (List.getElem?_eq_some_iff.1 hj).1];exact hj
     have:=hsw.row hj'
     rw[jbq]
     simpa [adr] using this)
    (by rw[hcl];simp only[List.size_toArray,List.length_append,ja8];omega) (jgL _)
   have e4:(execOp (evS m) ⟨d, .call {callee:= .builtin .copy,args:= #[x,y],argTypes:= #[t,t2]},ty,pos,af,g⟩).run P w= .ok (.value (goInt (Nat.min ys.length (xs.length-i)))) (w.setRow ob.b (over (jC E xs++ob.tl).toArray (i*E.sz) (jC E (ys.take n)))):=by
    simp[execOp,resolve,invoke,builtin,evS,hx,hy,hcp]
   rw[e4]
   refine⟨_,hw.setRow,rfl,?_,?_⟩
   ·have hlen:(jbb xs ys i).length=xs.length:=by
     simp only[jbb,List.length_append,List.length_take,List.length_drop];omega
    simp only[oOk,hlen]
    exact⟨g1,g2,g3⟩
   ·simp only[oH,List.cons_append,List.nil_append,cells]
    congr 3
    unfold over jbb
    congr 1
    rw[<-hnn]
    simp only[hcl]
    rw[<-Nat.add_mul,jhC xs i hi,jhD xs (i+n) hnx,jbZ,jbZ]
    simp
theorem Eff.copyS0 {x y:Operand} {t t2 e:TypeId} {xs ys:List α} {o:Own} {v2:Value} (hx:evO m x=some (oV o xs.length)) (hy:evO m y=some v2) (ht:Jw P t=some e) (hz:Ju P e=some E.sz)
  (hT:jE (oH E e xs o) H F) (ok:oOk E xs o) (hs:Sli w0 H E v2 ys):
  Eff P w0 H m ty (.call {callee:= .builtin .copy,args:= #[x,y],argTypes:= #[t,t2]}) (fun v H'=>v= .int .i64 ((min ys.length (xs.length-0):Nat):Int)/\oOk E (jbb xs ys 0) o/\H'=oH E e (jbb xs ys 0) o++F):=
 Eff.copyS hx (jkl o xs.length E.sz (fun h=>by subst h;simp only[oOk] at ok;subst ok;rfl)).symm hy ht hz (Nat.zero_le _) hT ok hs
theorem Eff.makeR {t e:TypeId} {x y:Operand} {z:Value} {n bytes:Nat} {x0:α} (hx:evO m x=some (.int .i64 (n:Nat))) (hy:evO m y=some (.int .i64 (n:Nat))) (ht:Jw P t=some e)
  (hinfo:(P.info? e).map (fun i=>(i.zero,i.size,i.bytes))=some (some z,E.sz,bytes)) (hz:z.cells=(E.enc x0).toArray) (hb':Nat.ble bytes 65536=true) (hn':n<=4294967296):
  Eff P w0 H m ty (.makeSlice t x y) (fun v H'=> ∃ o,oOk E (List.replicate n x0) o/\v=oV o (List.replicate n x0).length/\H'=oH E e (List.replicate n x0) o++H):=by
 have h:=Eff.makeS (P:=P) (w0:=w0) (H:=H) (m:=m) (ty:=ty) (E:=E) (x0:=x0) hx hy ht hinfo hz hb' hn'
 refine⟨h.cv,fun w d pos af g hw=>(h.run w d pos af g hw).mono ?_⟩
 rintro v w' ⟨H',hh,b,rfl,rfl⟩
 exact⟨_,hh,some ⟨b,n,[]⟩,⟨by simp,by show n<=maxLen;unfold maxLen;omega,by simp⟩,by simp,rfl⟩
end
set_option autoImplicit false
section
variable {P : Program} {w0 : World} {ro : Option Nat} {n : Nat} {Q : Exit -> Act -> World -> Prop} {ds : List Deferred} {m : jo} {H A A' R : jb}
variable {ops : Array Oper} {rest : List Oper} {op : Op} {ty : TypeId} {pos : String} {af : Array Edge} {ord : Ord}
theorem KL.callq {d:Nat} {f:Operand} {az:List Operand} {ts:Array TypeId} {fv:Value} {vs:List Value} (hd:Nat.blt d n=true) (hf:evO m f=some fv) (ha:EvL m az vs)
  (h:CallV P w0 fv vs H (fun v H'=>KL P w0 ro n ops rest Q ds ((d,v)::m) H')):
  KL P w0 ro n ops (⟨some d, .call {callee:= .value f,args:=az.toArray,argTypes:=ts},ty,pos,af,none⟩::rest) Q ds m H:=
 KL.callc hd hf ha fun T hT=>h.mono hT
theorem KD.callq {i d:Nat} {f:Operand} {az:List Operand} {ts:Array TypeId} {fv:Value} {vs:List Value} (hi:ops[i]?=some ⟨some d, .call {callee:= .value f,args:=az.toArray,argTypes:=ts},ty,pos,af,none⟩) (hd:Nat.blt d n=true) (hf:evO m f=some fv) (ha:EvL m az vs)
  (h:CallV P w0 fv vs H (fun v H'=>Part H' R/\KD P w0 ro n ops R ord Q ds ((d,v)::m) H')):KD P w0 ro n ops R ((i,2)::ord) Q ds m H:=
 KD.callc hi hd hf ha fun T hT=>h.mono fun v H' k=>hT v H' k.1 k.2
theorem KD.callqM {i d:Nat} {f:Operand} {az:List Operand} {ts:Array TypeId} {fv:Value} {vs:List Value} (hi:ops[i]?=some ⟨some d, .call {callee:= .value f,args:=az.toArray,argTypes:=ts},ty,pos,af,none⟩) (hd:Nat.blt d n=true) (hf:evO m f=some fv) (ha:EvL m az vs)
  (h:CallV P w0 fv vs H (fun v H'=>Part H' H/\KD P w0 ro n ops R ord Q ds ((d,v)::m) H')):KD P w0 ro n ops R ((i,5)::ord) Q ds m H:=
 KD.callcM hi hd hf ha fun T hT=>h.mono fun v H' k=>hT v H' k.1 k.2
theorem KD.callqX {i d:Nat} {f:Operand} {az:List Operand} {ts:Array TypeId} {fv:Value} {vs:List Value} (hi:ops[i]?=some ⟨some d, .call {callee:= .value f,args:=az.toArray,argTypes:=ts},ty,pos,af,none⟩) (hd:Nat.blt d n=true) (hf:evO m f=some fv) (ha:EvL m az vs)
  (h:CallV P w0 fv vs H (fun v H'=>KD P w0 ro n ops R ord Q ds ((d,v)::m) H')):KD P w0 ro n ops R ((i,4)::ord) Q ds m H:=
 KD.callcX hi hd hf ha fun T hT=>h.mono fun v H' k=>hT v H' Part.all k
variable {fn : FuncId} {vs : List Value} {v : Value} {T S : Jc}
theorem jj (c:Call P w0 fn vs H (fun r H'=>r=v/\H'=A')) (k:T v A'):CallV P w0 (.func (.func fn) #[] #[]) vs H T:=
 (CallV.fn c).mono fun r H' h=>by obtain⟨rfl,rfl⟩:=h;exact k
theorem ji (c:Call P w0 fn vs A (fun r H'=>r=v/\H'=A')) (hp:Part H A) (k:T v A'):CallV P w0 (.func (.func fn) #[] #[]) vs H T:=
 (CallV.part (CallV.fn c) hp).mono fun r H' h=>by obtain⟨rfl,rfl⟩:=h;exact k
theorem Jx (c:Call P w0 fn vs H S) (k: ∀ v H',S v H'->T v H'):CallV P w0 (.func (.func fn) #[] #[]) vs H T:=(CallV.fn c).mono k
theorem je (c:Call P w0 fn vs A S) (hp:Part H A) (k: ∀ v H',S v H'->T v H'):CallV P w0 (.func (.func fn) #[] #[]) vs H T:=(CallV.part (CallV.fn c) hp).mono k
end
section
variable {P : Program} {w0 : World} {n : Nat} {H : jb} {f : FuncId} {c : Code} {fn : Func} {R : Jc}
variable {a0 a1 a2 a3 a4 a5 a6 a7 a8 a9 a10 a11 : Value}
theorem en0 (n:Nat) (hf:P.funcs[f]?=some fn) (h:K P w0 none n c (bodyPostM (fen none) 0 P fn (jaa w0 R)) [] [] H) (hent:jay P f=true:=by kernel_rfl) (hb:fn.body=some c:=by rfl) (hn:fn.ntmps=n:=by rfl) (hsz:Nat.ble 0 n=true:=by rfl):Call P w0 f [] H R:=Call.enter0 hent hf hb hn hsz h
theorem en1 (n:Nat) (hf:P.funcs[f]?=some fn) (h:K P w0 none n c (bodyPostM (fen none) 0 P fn (jaa w0 R)) [] [(0,a0)] H) (hent:jay P f=true:=by kernel_rfl) (hb:fn.body=some c:=by rfl) (hn:fn.ntmps=n:=by rfl) (hsz:Nat.ble 1 n=true:=by rfl):Call P w0 f [a0] H R:=Call.enter1 hent hf hb hn hsz h
theorem en2 (n:Nat) (hf:P.funcs[f]?=some fn) (h:K P w0 none n c (bodyPostM (fen none) 0 P fn (jaa w0 R)) [] [(0,a0),(1,a1)] H) (hent:jay P f=true:=by kernel_rfl) (hb:fn.body=some c:=by rfl) (hn:fn.ntmps=n:=by rfl) (hsz:Nat.ble 2 n=true:=by rfl):Call P w0 f [a0,a1] H R:=Call.enter2 hent hf hb hn hsz h
theorem en3 (n:Nat) (hf:P.funcs[f]?=some fn) (h:K P w0 none n c (bodyPostM (fen none) 0 P fn (jaa w0 R)) [] [(0,a0),(1,a1),(2,a2)] H) (hent:jay P f=true:=by kernel_rfl) (hb:fn.body=some c:=by rfl) (hn:fn.ntmps=n:=by rfl) (hsz:Nat.ble 3 n=true:=by rfl):Call P w0 f [a0,a1,a2] H R:=Call.enter3 hent hf hb hn hsz h
theorem en4 (n:Nat) (hf:P.funcs[f]?=some fn) (h:K P w0 none n c (bodyPostM (fen none) 0 P fn (jaa w0 R)) [] [(0,a0),(1,a1),(2,a2),(3,a3)] H) (hent:jay P f=true:=by kernel_rfl) (hb:fn.body=some c:=by rfl) (hn:fn.ntmps=n:=by rfl) (hsz:Nat.ble 4 n=true:=by rfl):Call P w0 f [a0,a1,a2,a3] H R:=Call.enter4 hent hf hb hn hsz h
theorem en5 (n:Nat) (hf:P.funcs[f]?=some fn) (h:K P w0 none n c (bodyPostM (fen none) 0 P fn (jaa w0 R)) [] [(0,a0),(1,a1),(2,a2),(3,a3),(4,a4)] H) (hent:jay P f=true:=by kernel_rfl) (hb:fn.body=some c:=by rfl) (hn:fn.ntmps=n:=by rfl) (hsz:Nat.ble 5 n=true:=by rfl):Call P w0 f [a0,a1,a2,a3,a4] H R:=Call.enter5 hent hf hb hn hsz h
theorem en6 (n:Nat) (hf:P.funcs[f]?=some fn) (h:K P w0 none n c (bodyPostM (fen none) 0 P fn (jaa w0 R)) [] [(0,a0),(1,a1),(2,a2),(3,a3),(4,a4),(5,a5)] H) (hent:jay P f=true:=by kernel_rfl) (hb:fn.body=some c:=by rfl) (hn:fn.ntmps=n:=by rfl) (hsz:Nat.ble 6 n=true:=by rfl):Call P w0 f [a0,a1,a2,a3,a4,a5] H R:=Call.enter6 hent hf hb hn hsz h
variable {ro : Option Nat} {Q : Exit -> Act -> World -> Prop} {ds : List Deferred} {m : jo}
def od:Nat->List Nat->Ord
 |_,[]=> []
 |i,k::l=>(i,k)::od (i+1) l
theorem K.dr (R:jb) (ord:Ord) {id:Nat} {l:List Oper} (hp:Part H R) (h:KD P w0 ro n l.toArray R ord Q ds m H) (hm:P.follows .mixedOrders=true:=by kernel_rfl) (hpl:jc4 l.toArray=true:=by kernel_rfl) (hok:okB l.toArray ord=true:=by kernel_rfl) (hn:ord.length=l.length:=by kernel_rfl) (h0:lst l.toArray.size (jI ord)=Array.replicate l.toArray.size false:=by kernel_rfl) (hfr:frB l.toArray ord=true:=by kernel_rfl):K P w0 ro n (.region id l.toArray true) Q ds m H:=K.drawn R ord hm hpl hok hn h0 hfr hp h
end
section
variable {P : Program} {w0 : World} {ro : Option Nat} {n : Nat} {Q : Exit -> Act -> World -> Prop} {ds : List Deferred} {m : jo} {H R : jb} {ops : Array Oper} {ord : Ord} {i k d q e : Nat} {b : Bool} {dst : Option Nat} {op : Op} {ty : TypeId} {pos : String} {af : Array Edge} {g : Option (Nat × Bool)} {v : Value} {T : Jc}
structure KDo (P:Program) (w0:World) (ro:Option Nat) (n:Nat) (ops:Array Oper) (R:jb) (i k:Nat) (dst:Option Nat) (op:Op) (ty:TypeId) (pos:String) (af:Array Edge) (g:Option (Nat × Bool)) (ord:Ord) (Q:Exit->Act->World->Prop) (ds:List Deferred) (m:jo) (H:jb):Prop where
 out:ops[i]?=some ⟨dst,op,ty,pos,af,g⟩->KD P w0 ro n ops R ((i,k)::ord) Q ds m H
theorem KD.at (hi:ops[i]?=some ⟨dst,op,ty,pos,af,g⟩) (h:KDo P w0 ro n ops R i k dst op ty pos af g ord Q ds m H):KD P w0 ro n ops R ((i,k)::ord) Q ds m H:=h.out hi
theorem KDo.v0 (hd:Nat.blt d n=true) (hv:Val P w0 H m ty op v) (h:KD P w0 ro n ops R ord Q ds ((d,v)::m) H):KDo P w0 ro n ops R i 0 (some d) op ty pos af none ord Q ds m H:=⟨fun hi=>KD.v0 hi hd hv h⟩
theorem KDo.v1 (hd:Nat.blt d n=true) (hv:Val P w0 R m ty op v) (h:KD P w0 ro n ops R ord Q ds ((d,v)::m) H):KDo P w0 ro n ops R i 1 (some d) op ty pos af none ord Q ds m H:=⟨fun hi=>KD.v1 hi hd hv h⟩
theorem KDo.y0 (he:(ops[q]?).bind (·.dst)=some e) (hg:look m e=some (.bool b)) (hd:Nat.blt d n=true) (hv:Val P w0 H m ty op v) (h:KD P w0 ro n ops R ord Q ds ((d,v)::m) H):KDo P w0 ro n ops R i 0 (some d) op ty pos af (some (q,b)) ord Q ds m H:=⟨fun hi=>KD.y0 hi he hg hd hv h⟩
theorem KDo.y1 (he:(ops[q]?).bind (·.dst)=some e) (hg:look m e=some (.bool b)) (hd:Nat.blt d n=true) (hv:Val P w0 R m ty op v) (h:KD P w0 ro n ops R ord Q ds ((d,v)::m) H):KDo P w0 ro n ops R i 1 (some d) op ty pos af (some (q,b)) ord Q ds m H:=⟨fun hi=>KD.y1 hi he hg hd hv h⟩
theorem KDo.no (hk:Nat.ble 2 k=false) (he:(ops[q]?).bind (·.dst)=some e) (hg:look m e=some (.bool (!b))) (hd:Nat.blt d n=true) (h:KD P w0 ro n ops R ord Q ds ((d,undef)::m) H):KDo P w0 ro n ops R i k (some d) op ty pos af (some (q,b)) ord Q ds m H:=⟨fun hi=>KD.no hi hk he hg hd h⟩
theorem KDo.noU (hk:Nat.ble 2 k=false) (he:(ops[q]?).bind (·.dst)=some e) (hg:look m e=some undef) (hd:Nat.blt d n=true) (h:KD P w0 ro n ops R ord Q ds ((d,undef)::m) H):KDo P w0 ro n ops R i k (some d) op ty pos af (some (q,b)) ord Q ds m H:=⟨fun hi=>KD.noU hi hk he hg hd h⟩
theorem KDo.noA (he:(ops[q]?).bind (·.dst)=some e) (hg:look m e=some (.bool (!b))) (hd:Nat.blt d n=true) (h:KD P w0 ro n ops R ord Q ds ((d,undef)::m) H):KDo P w0 ro n ops R i 2 (some d) op ty pos af (some (q,b)) ord Q ds m H:=⟨fun hi=>KD.noA hi he hg hd h⟩
theorem KDo.ef (hd:Nat.blt d n=true) (he:Eff P w0 H m ty op T) (h: ∀ v H',T v H'->Part H' R/\KD P w0 ro n ops R ord Q ds ((d,v)::m) H'):KDo P w0 ro n ops R i 2 (some d) op ty pos af none ord Q ds m H:=⟨fun hi=>KD.e hi hd he h⟩
theorem KDo.efN (he:Eff P w0 H m ty op T) (h: ∀ v H',T v H'->Part H' R/\KD P w0 ro n ops R ord Q ds m H'):KDo P w0 ro n ops R i 2 none op ty pos af none ord Q ds m H:=⟨fun hi=>KD.eN hi he h⟩
variable {f : Operand} {az : List Operand} {ts : Array TypeId} {fv : Value} {vs : List Value}
theorem KDo.callq (hd:Nat.blt d n=true) (hf:evO m f=some fv) (ha:EvL m az vs) (h:CallV P w0 fv vs H (fun v H'=>Part H' R/\KD P w0 ro n ops R ord Q ds ((d,v)::m) H')):KDo P w0 ro n ops R i 2 (some d) (.call {callee:= .value f,args:=az.toArray,argTypes:=ts}) ty pos af none ord Q ds m H:=⟨fun hi=>KD.callq hi hd hf ha h⟩
theorem KDo.callqM (hd:Nat.blt d n=true) (hf:evO m f=some fv) (ha:EvL m az vs) (h:CallV P w0 fv vs H (fun v H'=>Part H' H/\KD P w0 ro n ops R ord Q ds ((d,v)::m) H')):KDo P w0 ro n ops R i 5 (some d) (.call {callee:= .value f,args:=az.toArray,argTypes:=ts}) ty pos af none ord Q ds m H:=⟨fun hi=>KD.callqM hi hd hf ha h⟩
theorem KDo.callqX (hd:Nat.blt d n=true) (hf:evO m f=some fv) (ha:EvL m az vs) (h:CallV P w0 fv vs H (fun v H'=>KD P w0 ro n ops R ord Q ds ((d,v)::m) H')):KDo P w0 ro n ops R i 4 (some d) (.call {callee:= .value f,args:=az.toArray,argTypes:=ts}) ty pos af none ord Q ds m H:=⟨fun hi=>KD.callqX hi hd hf ha h⟩
end
abbrev pt (b:Nat):Value:= .pointer (some ⟨b,0,none⟩)
abbrev Cs (w0:World) (f:FuncId) (a:List Value) (H:jb) (v:Value):Prop:=Call Tryz.prog w0 f a H fun r H'=>r=v/\H'=H
