/-The walker and the contracts that the law needs,part 12. -/
import Derived.Laws.IdiomStrings
import Derived.Laws.StructEq
import Derived.Maps.RangeRun
import Derived.Laws.Externs
import Derived.Laws.FloatArith
import Derived.Laws.NewFold
import Derived.RecoverIn
import Derived.SizedLaws
import Derived.Lib.SmallJoins
import Derived.ChangeMaps5
import Derived.Test.YtldomapkmopomaaGreatDoorJ1
import Derived.Test.YtldomapkmopomaaGreatDoorJ11
set_option linter.unusedVariables false set_option linter.unusedSimpArgs false namespace Go.Proofs.YtldomapkmopomaaGreatDoor
open Go.RowKit
set_option linter.unusedVariables false
set_option linter.unusedSimpArgs false
def strB (l:List UInt8):ByteArray:=⟨l.toArray⟩
theorem strB_inj {a b:List UInt8}:strB a=strB b↔a=b:=by
 constructor
 ·intro h
  have:=congrArg (fun s=>s.data.toList) h
  simpa [strB] using this
 ·rintro rfl;rfl
def bE:Enc Int:=⟨fun z=> [.int .u8 z],1,fun _=>rfl,by intro x v hv;simp at hv;subst hv;rfl⟩
section
variable {P : Program} {w0 : World} {m : jo} {H F : jb} {ty : TypeId} {v : Value}
theorem Val.eqlBs {x y:Operand} {t u:TypeId} {a b:List UInt8} (hx:evO m x=some (.string (strB a))) (hy:evO m y=some (.string (strB b))):Val P w0 H m ty (.binOp .eql t x y u) (.bool (decide (a=b))):=by
 have:=Val.eqlS (P:=P) (w0:=w0) (H:=H) (ty:=ty) (t:=t) (u:=u) hx hy
 simpa [strB_inj] using this
theorem Val.neqBs {x y:Operand} {t u:TypeId} {a b:List UInt8} (hx:evO m x=some (.string (strB a))) (hy:evO m y=some (.string (strB b))):Val P w0 H m ty (.binOp .neq t x y u) (.bool (decide (a≠b))):=by
 have:=Val.neqS (P:=P) (w0:=w0) (H:=H) (ty:=ty) (t:=t) (u:=u) hx hy
 simpa [strB_inj] using this
theorem Val.sliceLZ {α:Type} {E:Enc α} {xs:List α} {t e:TypeId} {x y:Operand} {z:Int} (hx:evO m x=some v) (hy:evO m y=some (.int .i64 z)) (ht:Ji P t=some e) (hs:Sli w0 H E v xs) (hz:Jj P e=some E.sz) (hl:0≤z∧z≤xs.length):
  Val P w0 H m ty (.slice t x (some y) none none) (j5 v z.toNat xs.length E.sz):=by
 obtain⟨l,rfl⟩:=Int.eq_ofNat_of_zero_le hl.1
 exact Val.sliceL hx hy ht hs hz (by omega)
theorem Val.shr {x y:Operand} {t u:TypeId} {k k':IntKind} {a b:Int} (hx:evO m x=some (.int k a)) (hy:evO m y=some (.int k' b)) (hb:0≤b):Val P w0 H m ty (.binOp .shr t x y u) (.int k (a.fdiv (2^(min b.toNat k.bits)))):=
 Val.bin hx hy (by simp[binOp,Op.shift,show ¬b<0 by omega])
theorem Val.shl {x y:Operand} {t u:TypeId} {k k':IntKind} {a b:Int} (hx:evO m x=some (.int k a)) (hy:evO m y=some (.int k' b)) (hb:0≤b):Val P w0 H m ty (.binOp .shl t x y u) (.int k (k.wrap (a*2^(min b.toNat k.bits)))):=
 Val.bin hx hy (by simp[binOp,Op.shift,show ¬b<0 by omega])
def jaa (o:BinOp) (k:IntKind) (a b:Int):Int:=match o with
 | .and=>k.wrap (BitVec.ofInt k.bits a&&&BitVec.ofInt k.bits b).toNat
 | .or=>k.wrap (BitVec.ofInt k.bits a|||BitVec.ofInt k.bits b).toNat
 | .xor=>k.wrap (BitVec.ofInt k.bits a^^^BitVec.ofInt k.bits b).toNat
 |_=>k.wrap (BitVec.ofInt k.bits a&&& ~~~(BitVec.ofInt k.bits b)).toNat
theorem Val.or {x y:Operand} {t u:TypeId} {k:IntKind} {a b:Int} (hx:evO m x=some (.int k a)) (hy:evO m y=some (.int k b)):Val P w0 H m ty (.binOp .or t x y u) (.int k (jaa .or k a b)):=
 Val.bin hx hy (by simp[binOp,Op.intBits,jaa])
theorem Val.and {x y:Operand} {t u:TypeId} {k:IntKind} {a b:Int} (hx:evO m x=some (.int k a)) (hy:evO m y=some (.int k b)):Val P w0 H m ty (.binOp .and t x y u) (.int k (jaa .and k a b)):=
 Val.bin hx hy (by simp[binOp,Op.intBits,jaa])
theorem Val.xor {x y:Operand} {t u:TypeId} {k:IntKind} {a b:Int} (hx:evO m x=some (.int k a)) (hy:evO m y=some (.int k b)):Val P w0 H m ty (.binOp .xor t x y u) (.int k (jaa .xor k a b)):=
 Val.bin hx hy (by simp[binOp,Op.intBits,jaa])
theorem Val.andNot {x y:Operand} {t u:TypeId} {k:IntKind} {a b:Int} (hx:evO m x=some (.int k a)) (hy:evO m y=some (.int k b)):Val P w0 H m ty (.binOp .andNot t x y u) (.int k (jaa .andNot k a b)):=
 Val.bin hx hy (by simp[binOp,Op.intBits,jaa])
theorem Val.min {x y:Operand} {ts:Array TypeId} {k k':IntKind} {a b:Int} (hx:evO m x=some (.int k a)) (hy:evO m y=some (.int k' b)):Val P w0 H m ty (.call {callee:= .builtin .min,args:= #[x,y],argTypes:=ts}) (.int k (if b<a then b else a)):=
 ⟨by simp[jE,ja1,cov,hx,hy],fun w d pos af g _=>by
  simp[execOp,resolve,invoke,builtin,evS,hx,hy,Builtin.min_,Builtin.min2]⟩
theorem Val.max {x y:Operand} {ts:Array TypeId} {k k':IntKind} {a b:Int} (hx:evO m x=some (.int k a)) (hy:evO m y=some (.int k' b)):Val P w0 H m ty (.call {callee:= .builtin .max,args:= #[x,y],argTypes:=ts}) (.int k (if a<b then b else a)):=
 ⟨by simp[jE,ja1,cov,hx,hy],fun w d pos af g _=>by
  simp[execOp,resolve,invoke,builtin,evS,hx,hy,Builtin.max_,Builtin.max2]⟩
def intTy (P:Program) (t:TypeId):Bool:=match P.underlying t with
 |some (.int _)=>true
 |_=>false
mutual
inductive EqV (P:Program):Nat→TypeId→Value→Value→Bool→Prop
 |int {d:Nat} {t:TypeId} {k:IntKind} {a b:Int}:intTy P t=true→EqV P (d+1) t (.int k a) (.int k b) (decide (a=b))
 |bool {d:Nat} {t:TypeId} {a b:Bool}:boolB P t=true→EqV P (d+1) t (.bool a) (.bool b) (a==b)
 |agg {d:Nat} {t:TypeId} {xs ys:List Value} {fs:List Field} {r:Bool}:P.underlying t=some (.struct (P.fieldsOf t))→P.stoodInHeld t=false→(P.fieldsOf t).toList=fs→EqF P d xs ys fs r→EqV P (d+1) t (.agg xs.toArray) (.agg ys.toArray) r
inductive EqF (P:Program):Nat→List Value→List Value→List Field→Bool→Prop
 |nil {d:Nat} {xs ys:List Value}:EqF P d xs ys [] true
 | one {d : Nat} {xs ys : List Value} {f : Field} {fs : List Field} {a b : Value} {r s : Bool} : decide (f.name ≠ "_") = true → oneB P f.type = true → xs[f.offset]? = some a → ys[f.offset]? = some b → EqV P d f.type a b r → EqF P d xs ys fs s → EqF P d xs ys (f :: fs) (r && s)
 | sub {d z : Nat} {xs ys as0 bs : List Value} {f : Field} {fs : List Field} {r s : Bool} : decide (f.name ≠ "_") = true → aggB P f.type = true → Jj P f.type = some z → Seg xs f.offset z as0 → Seg ys f.offset z bs → EqV P d f.type (.agg as0.toArray) (.agg bs.toArray) r → EqF P d xs ys fs s → EqF P d xs ys (f :: fs) (r && s)
end
end
open Go.RowKit Go.ChangeShapes Go.WideShapes
set_option autoImplicit false
theorem jq {G:Prop} (h:G:=by first|((repeat (first|exact jH.head|with_reducible apply jH.tail|apply jH.app))<;>fail)|fail):G:=h
theorem jh {G:Prop} (h:G:=by first|((repeat (first|exact jP.head|exact jP.whole|with_reducible apply jP.tail|apply jP.app))<;>fail)|fail):G:=h
theorem js {G:Prop} (h:G:=by first|((repeat (first|exact EvL.nil|(apply EvL.cons;(·exact rfl))))<;>fail)|fail):G:=h
theorem jbJ {G:Prop} (h:G:=by first|((repeat (first|exact Seg.nil|apply Seg.cons|apply Seg.next))<;>fail)|fail):G:=h
theorem jbZ {G:Prop} (h:G:=by first|((repeat (first|exact jbg.nil|(apply jbg.cons;(·exact rfl))))<;>fail)|fail):G:=h
theorem jcZ {G:Prop} (h:G:=by first|((repeat (first|exact jbK.here|apply jbK.next))<;>fail)|fail):G:=h
theorem jbf {G:Prop} (h:G:=by first|((repeat (first|exact Lay.nil|apply Lay.cons|apply Lay.next))<;>fail)|fail):G:=h
theorem jbp {G:Prop} (h:G:=by first|rfl|(simp only[List.all_cons,List.all_nil,Bool.and_true,Bool.and_eq_true];(repeat' apply And.intro)<;>first|rfl|exact jK _ _|exact SlW.one (by assumption)|assumption)):G:=h
theorem jcb {G:Prop} (h:G:=by first|rfl|exact jK _ _|exact SlW.one (by assumption)|assumption):G:=h
theorem jb5 {G:Prop} (h:G:=by first|((repeat (first|exact Fill.nil|(apply Fill.one;(·exact rfl);(·exact jcb);(·exact jcZ))|(apply Fill.agg;(·exact rfl);(·exact rfl);(·exact jbf))))<;>fail)|fail):G:=h
theorem jG {G:Prop} (h:G:=by first|rfl|assumption|(simp<;>fail)|(simp;omega)|omega):G:=h
theorem jr {G:Prop} (h:G:=by first|assumption|omega):G:=h
theorem jg {G:Prop} (h:G:=by first|((repeat (first|exact trivial|refine And.intro ⟨_,rfl,(by first|rfl|(dsimp only;first|rfl|(congr 1;omega)|(simp<;>fail)|(congr 1;simp<;>fail)|(congr 1;simp;omega)|(congr 2;simp;omega))|(congr 1;omega)|(simp<;>fail)|(congr 1;simp<;>fail)|(congr 1;simp;omega)|(congr 2;simp;omega))⟩ ?_))<;>fail)|fail):G:=h
theorem ja {G:Prop} (h:G:=by first|((repeat (first|exact Part.all|(apply Part.takeA;(·exact jh))|apply Part.assoc|(apply Part.take;(·exact jq))|exact Part.lastA jh|apply Part.drop|apply Part.dropA|exact Part.nil))<;>fail)|fail):G:=h
theorem Jm {G:Prop} (h:G:=by first|exact Sli.old (by assumption)|exact Sli.own jh (by assumption) jG|assumption|exact Sli.part (by assumption) ja):G:=h
theorem jaW {G:Prop} (h:G:=by first|exact jA.cell jq rfl|exact jA.sl Jm (by assumption) rfl|exact jA.sl0 Jm (by assumption) rfl|exact jA.old (by assumption)|assumption):G:=h
theorem J1 {G:Prop} (h:G:=by first|exact jcc.own jq jbJ|assumption):G:=h
theorem jc4 {G:Prop} (h:G:=by first|exact SeesA.sl Jm (by assumption)|assumption):G:=h
theorem jd {G:Prop} (h:G:=by first|((repeat (first|exact jcd.nil|(apply jcd.cons;(·exact jq))))<;>fail)|fail):G:=h
theorem jc {G:Prop} (h:G:=by first|((repeat (first|exact jas.nil|(apply jas.tmp;(·exact rfl))|(apply jas.cell;(·exact rfl);(·exact rfl);(·exact jaW))|(apply jas.cellN;(·exact rfl);(·exact rfl);(·exact rfl);(·exact J1))))<;>fail)|fail):G:=h
theorem jdM {G G':Prop} (k:G') (h:G'→G:=by intro k;(repeat (first|refine KE.next ?_|refine KE.passX ?_|refine KE.passR ?_|refine KE.blkN ?_|refine KE.blkR ?_|refine KE.blkX ?_|refine KE.blkO rfl ?_|refine K.skip ?_|refine K.exit ?_|refine K.ret ?_|refine K.seq (K.region ?_)|refine K.region ?_|refine K.seq (K.seq (K.region ?_))|refine K.condT rfl ?_|refine K.condF rfl ?_|refine K.seq (K.condT rfl ?_)|refine K.seq (K.condF rfl ?_)));exact k):G:=h k
theorem byCodeD {G G':Prop} (k:G') (h:G'→G:=by intro k;(repeat (first|refine KE.next ?_|refine KE.passX ?_|refine KE.passR ?_|refine KE.blkN ?_|refine KE.blkR ?_|refine KE.blkX ?_|refine KE.blkO rfl ?_|refine K.skip ?_|refine K.exit ?_|refine K.ret ?_|refine K.condT rfl ?_|refine K.condF rfl ?_|refine K.seq (K.condT rfl ?_)|refine K.seq (K.condF rfl ?_)));exact k):G:=h k
open Go.RowKit
structure ME where
 k:Int
 v:Value
 n:Nat
def ment (e:ME):MapEntry:=⟨.int .i64 e.k,e.v,e.n⟩
def mobj (ms:List ME) (c:Nat):Obj:= .map (ms.map ment).toArray c
def jbs (k:Int):List ME→Nat→Option (Nat × Value)
 | [],_=>none
 |e::r,i=>if k==e.k then some (i,e.v) else jbs k r (i+1)
structure MOk (ms:List ME) (c:Nat):Prop where
 lt: ∀ e∈ms,e.n<c
 nd:(ms.map (·.n)).Nodup
 kd:(ms.map (·.k)).Nodup
def mput (ms:List ME) (c:Nat) (k:Int) (v:Value):List ME:=match jbs k ms 0 with
 |some (i,_)=>ms.modify i fun e=>{e with v:=v}
 |none=>ms++ [⟨k,v,c⟩]
def mclk (ms:List ME) (c:Nat) (k:Int):Nat:=match jbs k ms 0 with
 |some _=>c
 |none=>c+1
theorem jeM (k:Int): ∀ (ms:List ME) (i:Nat),jbs k ms i=(jbs k ms 0).map fun p=>(p.1+i,p.2)
 | [],i=>rfl
 |e::r,i=>by
  simp only[jbs]
  cases h:(k==e.k)
  ·simp only[Bool.false_eq_true,if_false]
   rw[jeM k r (i+1),jeM k r (0+1)]
   cases jbs k r 0<;>simp<;>omega
  ·simp
theorem jgD {k:Int}: ∀ {ms:List ME},jbs k ms 0=none→ ∀ e∈ms,e.k≠k
 | [],_,e,he=>by cases he
 |x::r,h,e,he=>by
  simp only[jbs] at h
  cases hk:(k==x.k)
  ·rw[hk,jeM] at h
   simp only[Bool.false_eq_true,if_false,Option.map_eq_none_iff] at h
   rcases List.mem_cons.1 he with rfl|he
   ·intro e';simp[e'] at hk
   ·exact jgD h e he
  ·rw[hk] at h;simp at h
theorem MOk.nil:MOk [] 0:=⟨by simp,by simp,by simp⟩
theorem jeR {α β:Type} (f:α→β) (g:α→α) (h: ∀ x,f (g x)=f x): ∀ (l:List α) (i:Nat),(l.modify i g).map f=l.map f
 | [],i=>by simp
 |x::l,0=>by simp[h]
 |x::l,i+1=>by simpa using jeR f g h l i
theorem MOk.put {ms:List ME} {c:Nat} (h:MOk ms c) (k:Int) (v:Value):MOk (mput ms c k v) (mclk ms c k):=by
 unfold mput mclk
 cases hf:jbs k ms 0 with
 |some p=>
  obtain⟨i,u⟩:=p
  simp only
  have e1:(ms.modify i fun e=>{e with v:=v}).map (·.n)=ms.map (·.n):=jeR (fun e:ME=>e.n) (fun e=>{e with v:=v}) (fun _=>rfl) ms i
  have e2:(ms.modify i fun e=>{e with v:=v}).map (·.k)=ms.map (·.k):=jeR (fun e:ME=>e.k) (fun e=>{e with v:=v}) (fun _=>rfl) ms i
  refine⟨fun e he=>?_,by rw[e1];exact h.nd,by rw[e2];exact h.kd⟩
  have:e.n∈(ms.modify i fun e=>{e with v:=v}).map (·.n):=List.mem_map_of_mem he
  rw[e1] at this
  obtain⟨e',he',hn⟩:=List.mem_map.1 this
  rw[←hn];exact h.lt e' he'
 |none=>
  simp only
  refine⟨fun e he=>?_,?_,?_⟩
  ·rcases List.mem_append.1 he with he|he
   ·exact Nat.lt_succ_of_lt (h.lt e he)
   ·rw[List.mem_singleton.1 he];exact Nat.lt_succ_self _
  ·rw[List.map_append,List.nodup_append]
   refine⟨h.nd,by simp,fun a ha b hb e=>?_⟩
   obtain⟨e',he',rfl⟩:=List.mem_map.1 ha
   simp at hb
   have:=h.lt e' he'
   omega
  ·rw[List.map_append,List.nodup_append]
   refine⟨h.kd,by simp,fun a ha b hb e=>?_⟩
   obtain⟨e',he',rfl⟩:=List.mem_map.1 ha
   simp at hb
   exact jgD hf e' he' (e.trans hb)
section
variable {P : Program} {w0 : World} {H F : jb} {m : jo} {ty : TypeId} {ms : List ME} {c b : Nat} {k : Int}
theorem Eff.makeMap {t:TypeId}:Eff P w0 H m ty (.makeMap t none) (fun v H'=> ∃ b,v= .map (some b)∧H'=(b,mobj [] 0)::H):=
 ⟨rfl,fun w d pos af g hw=>by
  have e:(execOp (evS m) ⟨d, .makeMap t none,ty,pos,af,g⟩).run P w= .ok (.value (.map (some w.heap.size))) (w.alloc (mobj [] 0)):=by
   simp[execOp,Instr.makeMap,newObj,Sem.run,Bind.bind,Sem.bind,Pure.pure,mobj]
  rw[e]
  exact⟨_,hw.alloc _,_,rfl,rfl⟩⟩
end
open Go.RowKit
section
variable {P : Program} {w0 : World} {ro : Option Nat} {n : Nat} {Q : Exit → Act → World → Prop} {ds : List Deferred} {m : jo} {H : jb}
theorem K.loopT {σ:Type} {c:Code} (keep:jo) (M:σ→jo→jo) (Hs:σ→jb) (I:σ→Prop) (μ:σ→Nat) (s0:σ) (hs:jb6 m (M s0 keep)) (hp:Part H (Hs s0)) (hi:I s0)
  (round: ∀ s,I s→K P w0 ro n c (Exit.then (RoundK w0 n ds (fun s=>M s keep) Hs I μ (μ s)) Q) ds (M s keep) (Hs s)):K P w0 ro n (.loop c) Q ds m H:=
 K.loop (fun s=>M s keep) Hs I μ s0 hs hp hi round
theorem K.cutT {σ:Type} {x y:Code} (keep:jo) (hk:jb6 m keep) (M:σ→jo→jo) (Hs:σ→jb) (I:σ→Prop) (h1:K P w0 ro n x (Exit.then (MeetsK w0 n ds (fun s=>M s keep) Hs I) Q) ds m H) (h2: ∀ s,I s→K P w0 ro n y Q ds (M s keep) (Hs s)):K P w0 ro n (.seq x y) Q ds m H:=
 K.cut (fun s=>M s keep) Hs I h1 h2
theorem KD.fork3 {ops:Array Oper} {R:jb} {ord:Ord} {i x y z:Nat} {ox oy oz:Oper} {o1 o2 o3:Ord} (hr:Region.ready .any ops (lst ops.size (jM ((i,3)::ord)))=[x,y,z]) (hx:ops[x]?=some ox) (hy:ops[y]?=some oy) (hz:ops[z]?=some oz)
  (f1:jcx ops ((i,3)::ord) x o1=true) (f2:jcx ops ((i,3)::ord) y o2=true) (f3:jcx ops ((i,3)::ord) z o3=true) (h1:j3 P w0 ro n ops R o1 Q ds m H ox) (h2:j3 P w0 ro n ops R o2 Q ds m H oy) (h3:j3 P w0 ro n ops R o3 Q ds m H oz):KD P w0 ro n ops R ((i,3)::ord) Q ds m H:=
 KD.forks [x,y,z] hr (by simp) fun q hq=>by
  simp only[List.mem_cons,List.not_mem_nil,or_false] at hq
  rcases hq with rfl|rfl|rfl
  ·exact⟨ox,o1,hx,f1,h1⟩
  ·exact⟨oy,o2,hy,f2,h2⟩
  ·exact⟨oz,o3,hz,f3,h3⟩
theorem Call.enter0 {f:FuncId} {c:Code} {fn:Func} {R:Je} (hent:jaT P f=true) (hf:P.funcs[f]?=some fn) (hb:fn.body=some c) (hn:fn.ntmps=n) (hsz:Nat.ble 0 n=true)
  (h:K P w0 none n c (bodyPostM (fen none) 0 P fn (jav w0 R)) [] [] H):Call P w0 f [] H R:=Call.enter [] hent hf hb hn hsz trivial h
theorem Call.enter1 {f:FuncId} {c:Code} {fn:Func} {R:Je} {a0:Value} (hent:jaT P f=true) (hf:P.funcs[f]?=some fn) (hb:fn.body=some c) (hn:fn.ntmps=n) (hsz:Nat.ble 1 n=true)
  (h:K P w0 none n c (bodyPostM (fen none) 0 P fn (jav w0 R)) [] [(0,a0)] H):Call P w0 f [a0] H R:=Call.enter [(0,a0)] hent hf hb hn hsz ⟨rfl,trivial⟩ h
theorem Call.enter2 {f:FuncId} {c:Code} {fn:Func} {R:Je} {a0 a1:Value} (hent:jaT P f=true) (hf:P.funcs[f]?=some fn) (hb:fn.body=some c) (hn:fn.ntmps=n) (hsz:Nat.ble 2 n=true)
  (h:K P w0 none n c (bodyPostM (fen none) 0 P fn (jav w0 R)) [] [(0,a0),(1,a1)] H):Call P w0 f [a0,a1] H R:=Call.enter [(0,a0),(1,a1)] hent hf hb hn hsz ⟨rfl,rfl,trivial⟩ h
theorem Call.enter3 {f:FuncId} {c:Code} {fn:Func} {R:Je} {a0 a1 a2:Value} (hent:jaT P f=true) (hf:P.funcs[f]?=some fn) (hb:fn.body=some c) (hn:fn.ntmps=n) (hsz:Nat.ble 3 n=true)
  (h:K P w0 none n c (bodyPostM (fen none) 0 P fn (jav w0 R)) [] [(0,a0),(1,a1),(2,a2)] H):Call P w0 f [a0,a1,a2] H R:=Call.enter [(0,a0),(1,a1),(2,a2)] hent hf hb hn hsz ⟨rfl,rfl,rfl,trivial⟩ h
theorem Call.enter4 {f:FuncId} {c:Code} {fn:Func} {R:Je} {a0 a1 a2 a3:Value} (hent:jaT P f=true) (hf:P.funcs[f]?=some fn) (hb:fn.body=some c) (hn:fn.ntmps=n) (hsz:Nat.ble 4 n=true)
  (h:K P w0 none n c (bodyPostM (fen none) 0 P fn (jav w0 R)) [] [(0,a0),(1,a1),(2,a2),(3,a3)] H):Call P w0 f [a0,a1,a2,a3] H R:=Call.enter [(0,a0),(1,a1),(2,a2),(3,a3)] hent hf hb hn hsz ⟨rfl,rfl,rfl,rfl,trivial⟩ h
theorem Call.enter5 {f:FuncId} {c:Code} {fn:Func} {R:Je} {a0 a1 a2 a3 a4:Value} (hent:jaT P f=true) (hf:P.funcs[f]?=some fn) (hb:fn.body=some c) (hn:fn.ntmps=n) (hsz:Nat.ble 5 n=true)
  (h:K P w0 none n c (bodyPostM (fen none) 0 P fn (jav w0 R)) [] [(0,a0),(1,a1),(2,a2),(3,a3),(4,a4)] H):Call P w0 f [a0,a1,a2,a3,a4] H R:=Call.enter [(0,a0),(1,a1),(2,a2),(3,a3),(4,a4)] hent hf hb hn hsz ⟨rfl,rfl,rfl,rfl,rfl,trivial⟩ h
theorem Call.enter6 {f:FuncId} {c:Code} {fn:Func} {R:Je} {a0 a1 a2 a3 a4 a5:Value} (hent:jaT P f=true) (hf:P.funcs[f]?=some fn) (hb:fn.body=some c) (hn:fn.ntmps=n) (hsz:Nat.ble 6 n=true)
  (h:K P w0 none n c (bodyPostM (fen none) 0 P fn (jav w0 R)) [] [(0,a0),(1,a1),(2,a2),(3,a3),(4,a4),(5,a5)] H):Call P w0 f [a0,a1,a2,a3,a4,a5] H R:=Call.enter [(0,a0),(1,a1),(2,a2),(3,a3),(4,a4),(5,a5)] hent hf hb hn hsz ⟨rfl,rfl,rfl,rfl,rfl,rfl,trivial⟩ h
end
open Go.RowKit
section
variable {P : Program} {w0 : World} {H F : jb} {m : jo} {ty : TypeId} {α : Type} {E : Enc α}
theorem jgf (xs:List α) (i:Nat) (hi:i≤xs.length) (tl:List Value):(jD E xs++tl).take (i*E.sz)=jD E (xs.take i):=by
 have e:jD E xs=jD E (xs.take i)++jD E (xs.drop i):=by rw[←jbh,List.take_append_drop]
 have hl:(jD E (xs.take i)).length=i*E.sz:=by rw[jaH,List.length_take,Nat.min_eq_left hi]
 rw[e,List.append_assoc,←hl,List.take_left']
 rfl
theorem jgg (xs:List α) (i:Nat) (hi:i≤xs.length) (tl:List Value):(jD E xs++tl).drop (i*E.sz)=jD E (xs.drop i)++tl:=by
 have e:jD E xs=jD E (xs.take i)++jD E (xs.drop i):=by rw[←jbh,List.take_append_drop]
 have hl:(jD E (xs.take i)).length=i*E.sz:=by rw[jaH,List.length_take,Nat.min_eq_left hi]
 rw[e,List.append_assoc,←hl,List.drop_left']
 rfl
theorem sub_all (o:Own) (n z:Nat) (h:o=none→n=0):j5 (oV o n) 0 n z=oV o n:=by
 cases o with
 |none=>simp only[oV,j5,h rfl];simp
 |some ob=>
  simp only[oV,j5]
  by_cases hc:ob.c=0
  ·simp[hc]
  ·simp[hc,Addr.add]
theorem Part.lit {b c:Nat} {e:TypeId} {l:List Value} {xs:List α} {F' H':jb} (hl:l=jD E xs) (h:Part F' H'):Part ((b,cells l e)::F') (oH E e xs (some ⟨b,c,[]⟩)++H'):=by
 subst hl
 rw[oH_lit]
 exact Part.take jH.head h
def jaJ (xs ys:List α) (i:Nat):List α:=xs.take i++ys.take (min ys.length (xs.length-i))++xs.drop (i+min ys.length (xs.length-i))
theorem Eff.copyS {x y:Operand} {t t2 e:TypeId} {xs ys:List α} {o:Own} {i:Nat} {vd v2:Value} (hx:evO m x=some vd) (hvd:vd=j5 (oV o xs.length) i xs.length E.sz) (hy:evO m y=some v2) (ht:Ji P t=some e) (hz:Jj P e=some E.sz)
  (hi:i≤xs.length) (hT:jP (oH E e xs o) H F) (ok:oOk E xs o) (hs:Sli w0 H E v2 ys):
  Eff P w0 H m ty (.call {callee:= .builtin .copy,args:= #[x,y],argTypes:= #[t,t2]}) (fun v H'=>v= .int .i64 ((min ys.length (xs.length-i):Nat):Int)∧oOk E (jaJ xs ys i) o∧H'=oH E e (jaJ xs ys i) o++F):=by
 refine⟨by simp[jE,ja1,cov,hx,hy],fun w d pos af g hw0=>?_⟩
 have hw:=hw0.takeL hT
 have hsw:=hs w hw0
 have hu:P.underlying t=some (.slice e):=by unfold Ji at ht;split at ht<;>simp_all
 obtain⟨a,c,rfl,h1,h2,h3⟩:=hsw.shape
 have hq: ∃ inf,P.info? e=some inf∧inf.size=E.sz:=by
  unfold Jj at hz;exact Option.map_eq_some_iff.1 hz
 obtain⟨inf,hq1,hq2⟩:=hq
 by_cases hn:min ys.length (xs.length-i)=0
 ·have e1:jaJ xs ys i=xs:=by simp[jaJ,hn]
  rw[e1,hn]
  have e2: ∃ a' c',vd= .slice a' (xs.length-i) c'∧(Nat.min ys.length (xs.length-i)=0):=by
   subst hvd
   cases o with
   |none=>simp only[oOk] at ok;subst ok;exact⟨none,0-i,by cases i<;>simp[oV,j5],hn⟩
   |some ob=>exact⟨_,_,rfl,hn⟩
  obtain⟨a',c',e2,e2'⟩:=e2
  rw[e2] at hx
  have e3:(Builtin.copy_ #[t,t2] ty #[.slice a' (xs.length-i) c', .slice a ys.length c]).run P w= .ok (goInt 0) w:=by
   cases a<;>cases a'<;>simp[Builtin.copy_,JK w hu,Builtin.lenOf,Builtin.firstCells,sizeOf,typeInfo,hq1,e2',loadCells,loadCellsFrom,storeCells]
  have e4:(execOp (evS m) ⟨d, .call {callee:= .builtin .copy,args:= #[x,y],argTypes:= #[t,t2]},ty,pos,af,g⟩).run P w= .ok (.value (goInt 0)) w:=by
   simp[execOp,resolve,invoke,builtin,evS,hx,hy,e3]
  rw[e4]
  exact⟨_,hw,rfl,ok,rfl⟩
 ·cases o with
  |none=>simp only[oOk] at ok;subst ok;simp at hn
  |some ob=>
   have hys:ys≠ []:=by intro h;subst h;simp at hn
   obtain⟨b',o',rfl⟩:=h3 hys
   obtain⟨g1,g2,g3⟩:=ok
   have hil:i<xs.length:=by omega
   obtain⟨n,hnn⟩: ∃ n,n=min ys.length (xs.length-i):=⟨_,rfl⟩
   have hny:n≤ys.length:=by omega
   have hnx:i+n≤xs.length:=by omega
   have hcl:(jD E (ys.take n)).length=n*E.sz:=by rw[jaH,List.length_take,Nat.min_eq_left hny]
   have e2:vd= .slice (some ⟨ob.b,i*E.sz,none⟩) (xs.length-i) (ob.c-i):=by
    subst hvd
    simp only[oV,j5]
    rw[if_neg (by omega)]
    simp[Addr.add]
    try omega
   rw[e2] at hx
   have hfit:i*E.sz+n*E.sz≤xs.length*E.sz:=by rw[←Nat.add_mul];exact Nat.mul_le_mul_right _ hnx
   have hcp:=jhq (P:=P) w t t2 ty e ob.b (i*E.sz) (xs.length-i) (ob.c-i) ⟨b',o',none⟩ ys.length c E.sz (jD E xs++ob.tl).toArray e (jD E (ys.take n)) hu hz (hw.get _ (.head _))
    (by rw[hcl,hnn])
    (fun j v hj=>by
     have hj':(jD E ys)[j]?=some v:=by
      have e:jD E ys=jD E (ys.take n)++jD E (ys.drop n):=by rw[←jbh,List.take_append_drop]
      rw[e,List.getElem?_append_left (List.getElem?_eq_some_iff.1 hj).1];exact hj
     have:=hsw.row hj'
     rw[jaV]
     simpa [adr] using this)
    (by rw[hcl];simp only[List.size_toArray,List.length_append,jaH];omega) (jfF _)
   have e4:(execOp (evS m) ⟨d, .call {callee:= .builtin .copy,args:= #[x,y],argTypes:= #[t,t2]},ty,pos,af,g⟩).run P w= .ok (.value (goInt (Nat.min ys.length (xs.length-i)))) (w.setRow ob.b (over (jD E xs++ob.tl).toArray (i*E.sz) (jD E (ys.take n)))):=by
    simp[execOp,resolve,invoke,builtin,evS,hx,hy,hcp]
   rw[e4]
   refine⟨_,hw.setRow,rfl,?_,?_⟩
   ·have hlen:(jaJ xs ys i).length=xs.length:=by
     simp only[jaJ,List.length_append,List.length_take,List.length_drop];omega
    simp only[oOk,hlen]
    exact⟨g1,g2,g3⟩
   ·simp only[oH,List.cons_append,List.nil_append,cells]
    congr 3
    unfold over jaJ
    congr 1
    rw[←hnn]
    simp only[hcl]
    rw[←Nat.add_mul,jgf xs i hi,jgg xs (i+n) hnx,jbh,jbh]
    simp
theorem Eff.copyS0 {x y:Operand} {t t2 e:TypeId} {xs ys:List α} {o:Own} {v2:Value} (hx:evO m x=some (oV o xs.length)) (hy:evO m y=some v2) (ht:Ji P t=some e) (hz:Jj P e=some E.sz)
  (hT:jP (oH E e xs o) H F) (ok:oOk E xs o) (hs:Sli w0 H E v2 ys):
  Eff P w0 H m ty (.call {callee:= .builtin .copy,args:= #[x,y],argTypes:= #[t,t2]}) (fun v H'=>v= .int .i64 ((min ys.length (xs.length-0):Nat):Int)∧oOk E (jaJ xs ys 0) o∧H'=oH E e (jaJ xs ys 0) o++F):=
 Eff.copyS hx (sub_all o xs.length E.sz (fun h=>by subst h;simp only[oOk] at ok;subst ok;rfl)).symm hy ht hz (Nat.zero_le _) hT ok hs
theorem Eff.makeR {t e:TypeId} {x y:Operand} {z:Value} {n bytes:Nat} {x0:α} (hx:evO m x=some (.int .i64 (n:Nat))) (hy:evO m y=some (.int .i64 (n:Nat))) (ht:Ji P t=some e)
  (hinfo:(P.info? e).map (fun i=>(i.zero,i.size,i.bytes))=some (some z,E.sz,bytes)) (hz:z.cells=(E.enc x0).toArray) (hb':Nat.ble bytes 65536=true) (hn':n≤4294967296):
  Eff P w0 H m ty (.makeSlice t x y) (fun v H'=> ∃ o,oOk E (List.replicate n x0) o∧v=oV o (List.replicate n x0).length∧H'=oH E e (List.replicate n x0) o++H):=by
 have h:=Eff.makeS (P:=P) (w0:=w0) (H:=H) (m:=m) (ty:=ty) (E:=E) (x0:=x0) hx hy ht hinfo hz hb' hn'
 refine⟨h.cv,fun w d pos af g hw=>(h.run w d pos af g hw).mono ?_⟩
 rintro v w' ⟨H',hh,b,rfl,rfl⟩
 exact⟨_,hh,some ⟨b,n,[]⟩,⟨by simp,by show n≤maxLen;unfold maxLen;omega,by simp⟩,by simp,rfl⟩
end
section
variable {P : Program} {w0 : World} {m : jo} {H F : jb} {ty : TypeId} {b c : Nat} {ms : List ME} {k : Int}
end
open Go.RowKit Go.Lib
def iE:Enc Int:=⟨fun z=> [.int .i64 z],1,fun _=>rfl,by intro x v hv;simp at hv;subst hv;rfl⟩
open Go.RowKit
def fl (b:Nat):Option Nat:=if (Ieee.double.read b).isNaN then none else some b
section
variable {P : Program} {w0 : World} {H F : jb} {m : jo} {ty : TypeId}
end
section
variable {P : Program} {w0 : World} {H F : jb} {m : jo} {ty : TypeId}
end
section
variable {P : Program} {w0 : World} {ro : Option Nat} {n : Nat} {Q : Exit → Act → World → Prop} {ds : List Deferred} {m : jo} {H R : jb} {ops : Array Oper} {op : Op} {ty : TypeId} {pos : String} {af : Array Edge} {ord : Ord}
theorem j3.eN {T:Je} (he:Eff P w0 H m ty op T) (h: ∀ v H',T v H'→Part H' R∧KD P w0 ro n ops R ord Q ds m H'):j3 P w0 ro n ops R ord Q ds m H ⟨none,op,ty,pos,af,none⟩:=
 fun a w ha hw=>⟨by simp[Region.wanted],by
  rw[ha.exec (o:=⟨none,op,ty,pos,af,none⟩) he.cv]
  exact(he.run w _ _ _ _ hw).mono fun v w' ⟨H',hh,hT⟩=>⟨_,H',ha,hh,(h v H' hT).1,(h v H' hT).2⟩⟩
end
section
variable {P : Program} {w0 : World} {n : Nat} {Q : Exit → Act → World → Prop} {ds : List Deferred} {m : jo} {H F : jb} {ops : Array Oper} {rest : List Oper} {ty : TypeId} {pos : String} {af : Array Edge}
theorem KL.deferC {f:Operand} {g:FuncId} {cap:Array Value} (hf:evO m f=some (.func (.func g) #[] cap))
  (h:KL P w0 none n ops rest Q ({target:= .fn (.func g) cap,args:= #[]}::ds) m H):
  KL P w0 none n ops (⟨none, .defer {callee:= .value f,args:= #[],argTypes:= #[]},ty,pos,af,none⟩::rest) Q ds m H:= .mk fun a w ha hw=>
 wpListIn_plain rfl fun Kf hK=>by
  unfold Oper.wpIn
  refine⟨fun _ _=>trivial,?_⟩
  have e:((Oper.semAt (fen none).round a.eval ⟨none, .defer {callee:= .value f,args:= #[],argTypes:= #[]},ty,pos,af,none⟩).run P w)= .ok (.defer {target:= .fn (.func g) cap,args:= #[]}) w:=by
   rw[show(fen none).round=none from rfl,Oper.semAt_none]
   simp[execOp,resolve,ha.eval hf,Deferred.ofValue]
  rw[e,Oper.uponIn_defer]
  exact hK _ _ (h.out {a with defers:={target:= .fn (.func g) cap,args:= #[]}::a.defers} w ⟨by rw[ha.1],ha.2.1,ha.2.2⟩ hw)
theorem KE.finD {fn:Func} {R:Je} {g:FuncId} {cap:Array Value} {H':jb} {rs:List ResultVar} {vs:List Value}
  (hc: ∀ w,HF w0 H w→CallsDIn (fen none) 0 P g cap .returning w (fun e u' w'=>(∃ v,e= .returned v)∧u'= .returning∧HF w0 H w'))
  (he:jaT P g=true) (hr:fn.results=rs.toArray) (hv:jas P w0 m H rs vs) (hp:Part H H') (h:R (jbm vs) H'):
  KE w0 n .ret (bodyPostM (fen none) 0 P fn (jav w0 R)) [{target:= .fn (.func g) cap,args:= #[]}] m H:=
 .mk fun a w ha hw=>by
  show LeavesInM (fen none) 0 P fn a.tmps (jav w0 R) a.defers .returning w
  rw[ha.1]
  refine⟨by simp, .inr ⟨fun hh=>by simp[fen,Fence.wide] at hh, .func g,cap,g,cap,rfl,?_,fun _ _=>trivial,?_⟩⟩
  ·have:=jeX he cap w
   show(callFunc g (#[]++cap)).run P w=_
   rw[Array.empty_append]
   exact this
  ·refine(hc w hw).mono ?_
   rintro e u' w' ⟨⟨v,rfl⟩,rfl,hw'⟩
   show LeavesInM (fen none) 0 P fn a.tmps (jav w0 R) [] (settle .returning) w'
   exact⟨jbm vs,hv.results hr hw' ha.2.2,jbm vs,H',rfl,hw'.part hp,h⟩
end
section
variable {P : Program} {w0 : World} {H F : jb} {m : jo} {ty : TypeId} {α : Type} {E : Enc α}
theorem Val.negW {t:TypeId} {x:Operand} {k:IntKind} {a:Int} (hx:evO m x=some (.int k a)):Val P w0 H m ty (.unOp .neg t x) (.int k (k.wrap (-a))):=
 ⟨by simp[jE,cov,hx],fun w d pos af g _=>by simp[execOp,evS,hx,Op.unary,Op.intArith]⟩
def cleared (xs:List α) (i h:Nat) (x0:α):List α:=xs.take i++List.replicate (h-i) x0++xs.drop h
theorem jcz {xs:List α} {i h:Nat} {x0:α} (hi:i≤h) (hh:h≤xs.length):(cleared xs i h x0).length=xs.length:=by
 simp only[cleared,List.length_append,List.length_take,List.length_replicate,List.length_drop];omega
theorem jgh {xs:List α} {i:Nat} {x0:α}:cleared xs i i x0=xs:=by simp[cleared]
theorem clr_all {xs:List α} {o:Own} (ok:oOk E xs o):oV o xs.length=j5 (oV o xs.length) 0 xs.length E.sz:=(sub_all o xs.length E.sz (fun h=>by subst h;simp only[oOk] at ok;subst ok;rfl)).symm
theorem jgp {xs:List α} {x0:α}:cleared xs 0 xs.length x0=List.replicate xs.length x0:=by simp[cleared]
theorem Eff.clearS {x:Operand} {t e:TypeId} {xs:List α} {o:Own} {i h:Nat} {vd:Value} {x0:α} (hx:evO m x=some vd) (hvd:vd=j5 (oV o xs.length) i h E.sz) (ht:Ji P t=some e)
  (hz0:jdE P e=some (E.enc x0)) (hi:i≤h) (hh:h≤xs.length) (hT:jP (oH E e xs o) H F) (ok:oOk E xs o):
  Eff P w0 H m ty (.call {callee:= .builtin .clear,args:= #[x],argTypes:= #[t]}) (fun v H'=>v= .tuple #[]∧oOk E (cleared xs i h x0) o∧H'=oH E e (cleared xs i h x0) o++F):=by
 refine⟨by simp[jE,ja1,cov,hx],fun w d pos af g hw0=>?_⟩
 have hw:=hw0.takeL hT
 have hu:P.underlying t=some (.slice e):=by unfold Ji at ht;split at ht<;>simp_all
 by_cases hn:h-i=0
 ·have hie:i=h:=by omega
  subst hie
  rw[jgh]
  have e3:(Builtin.clear_ #[t] ty #[vd]).run P w= .ok (.tuple #[]) w:=by
   subst hvd
   cases o with
   |none=>simp[Builtin.clear_,JK w hu,oV,j5]
   |some ob=>
    simp only[oV,j5,hn]
    split<;>simp[Builtin.clear_,JK w hu]
  have e4:(execOp (evS m) ⟨d, .call {callee:= .builtin .clear,args:= #[x],argTypes:= #[t]},ty,pos,af,g⟩).run P w= .ok (.value (.tuple #[])) w:=by
   simp[execOp,resolve,invoke,builtin,evS,hx,e3]
  rw[e4]
  exact⟨_,hw,rfl,ok,rfl⟩
 ·cases o with
  |none=>simp only[oOk] at ok;subst ok;simp at hh;omega
  |some ob=>
   obtain⟨g1,g2,g3⟩:=ok
   obtain⟨k,hk⟩: ∃ k,h-i=k+1:=⟨h-i-1,by omega⟩
   have e2:vd= .slice (some ⟨ob.b,i*E.sz,none⟩) (k+1) (ob.c-i):=by
    subst hvd
    simp only[oV,j5]
    rw[if_neg (by omega),hk]
    simp[Addr.add]
    try omega
   rw[e2] at hx
   obtain⟨zv,hz1,hz2⟩:=jfw w hz0
   have hcl:(jD E (List.replicate (k+1) x0)).length=(k+1)*E.sz:=by rw[jaH,List.length_replicate]
   have hfit:i*E.sz+(k+1)*E.sz≤xs.length*E.sz:=by rw[←Nat.add_mul];exact Nat.mul_le_mul_right _ (by omega)
   have hst:=run_storeCells_at P ob.b (i*E.sz) e (jD E (List.replicate (k+1) x0)) 0 (jD E xs++ob.tl).toArray w (hw.get _ (.head _))
    (by rw[hcl];simp only[List.size_toArray,List.length_append,jaH];omega) (jfF _)
   simp only[Nat.add_zero] at hst
   have hzc:(Builtin.zeroCells zv.cells (k+1)).toList=jD E (List.replicate (k+1) x0):=by
    rw[hz2]
    have:=je6 (E.enc x0) (k+1)
    simp only[List.size_toArray,E.len] at this
    simp only[Builtin.zeroCells,List.size_toArray,E.len]
    rw[this,←jg2]
   have e4:(execOp (evS m) ⟨d, .call {callee:= .builtin .clear,args:= #[x],argTypes:= #[t]},ty,pos,af,g⟩).run P w= .ok (.value (.tuple #[])) (w.setRow ob.b (over (jD E xs++ob.tl).toArray (i*E.sz) (jD E (List.replicate (k+1) x0)))):=by
    have:(Builtin.clear_ #[t] ty #[.slice (some ⟨ob.b,i*E.sz,none⟩) (k+1) (ob.c-i)]).run P w= .ok (.tuple #[]) (w.setRow ob.b (over (jD E xs++ob.tl).toArray (i*E.sz) (jD E (List.replicate (k+1) x0)))):=by
     simp[Builtin.clear_,JK w hu,hz1,hzc,hst,over,Result.andThen]
    simp[execOp,resolve,invoke,builtin,evS,hx,this]
   rw[e4]
   refine⟨_,hw.setRow,rfl,?_,?_⟩
   ·simp only[oOk,jcz hi hh]
    exact⟨g1,g2,g3⟩
   ·simp only[oH,List.cons_append,List.nil_append,cells]
    congr 3
    unfold over cleared
    congr 1
    simp only[hcl]
    rw[←Nat.add_mul,jgf xs i (by omega),show i+(k+1)=h by omega,jgg xs h hh,jbh,jbh,hk]
    simp
end
open Go.RowKit Go.ChangeShapes Go.WideShapes Go.ChangeAt Go.Deep Go.Joins
set_option maxRecDepth 100000
def jcp (w:World) (e:Ending) (w':World):Prop:=e= .returned (.bool true)∧jQ [] w w'
def i64ok (z:Int):Prop:= -9223372036854775808≤z∧z≤9223372036854775807
def u8ok (z:Int):Prop:=0≤z∧z≤255
theorem wf_i64 {z:Int} (h:(Lit.int .i64 z).wf=true):i64ok z:=by simpa [Lit.wf,IntKind.min,IntKind.max,IntKind.signed,IntKind.bits,i64ok] using h
theorem wf_u8 {z:Int} (h:(Lit.int .u8 z).wf=true):u8ok z:=by simpa [Lit.wf,IntKind.min,IntKind.max,IntKind.signed,IntKind.bits,u8ok] using h
theorem jft {P:Program} {α:Type} {E:Enc α} {H:Type} {enc:TypeId × Value→H} {W:World} {t e:TypeId} (ht:P.underlying t=some (.slice e)) (hk:P.cellsOf e=E.sz) (hk0:0<E.sz) {fuel:Nat} {cs:List Value} {x:DataW H × List MemPlace}
  (hf:DataW.trod enc P W 0 (fun _=>true) true fuel t cs=some x) (Ok:α→Prop)
  (hR: ∀ fuel cs x,DataW.trod enc P W 0 (fun _=>true) true fuel e cs=some x→cs.length=E.sz→ ∃ y,cs=E.enc y∧Ok y):
  ∃ a n c ys,cs=[.slice a n c]∧SlW W E (.slice a n c) ys∧ ∀ y∈ys,Ok y:=by
 rcases open_slice ht hf with⟨hcs,_⟩|⟨a',len',cap',m,n,D,Pl,hcs,_,hl,hm,hmm,_,hx⟩
 ·exact⟨none,0,0,[],hcs,SlW.nil W E,fun y hy=>by cases hy⟩
 ·simp only[if_true] at hmm
  subst hmm
  have key: ∀ i,i<len'→ ∃ y,Ok y∧ ∀ j,j<E.sz→W.cell? (a'.add (i*E.sz+j))=(E.enc y)[j]? :=by
   intro i hi
   obtain⟨cs',h1,h2⟩:=hx i (by omega)
   rw[hk] at h1
   obtain⟨_,hlen,hat⟩:=World.cells?_some h1
   obtain⟨y,rfl,hy⟩:=hR _ _ _ h2 hlen
   exact⟨y,hy,fun j hj=>by rw[←add_add];exact hat j hj⟩
  obtain⟨ys,hys,hall⟩:=jgl len' (fun i y=>Ok y∧ ∀ j,j<E.sz→W.cell? (a'.add (i*E.sz+j))=(E.enc y)[j]?) key
  subst hys
  have hspot:0<ys.length→ ∃ b off,a'=⟨b,off,none⟩:=by
   intro hpos
   obtain⟨b,off,spot⟩:=a'
   obtain⟨y0,_,hc0⟩:=key 0 hpos
   have h1:=hc0 0 hk0
   rw[List.getElem?_eq_getElem (by rw[E.len];exact hk0)] at h1
   have hsp:spot=none:=by simpa [Addr.add] using World.cell?_spot h1
   subst hsp
   exact⟨b,off,rfl⟩
  refine⟨some a',ys.length,_,ys,hcs,⟨⟨some a',_,rfl,hl,hm,fun hne=>?_⟩,?_⟩,?_⟩
  ·obtain⟨b,off,rfl⟩:=hspot (List.length_pos_iff.2 hne)
   exact⟨b,off,rfl⟩
  ·intro i y hy j u hu
   have hi:=(List.getElem?_eq_some_iff.1 hy).1
   obtain⟨b,off,rfl⟩:=hspot (by omega)
   have hj:j<E.sz:=by have:=(List.getElem?_eq_some_iff.1 hu).1;rwa[E.len] at this
   have:=(hall i y hy).2 j hj
   rw[jaV,hu] at this
   simpa [adr] using this
  ·intro y hy
   obtain⟨i,hi⟩:=List.getElem?_of_mem hy
   exact(hall i y hi).1
section
variable {H : Type} {enc : TypeId × Value → H} {W : World}
theorem int_in {fuel:Nat} {cs:List Value} {x:DataW H × List MemPlace} (hx:DataW.trod enc Tryz.prog W 0 (fun _=>true) true fuel 3 cs=some x): ∃ y:Int,cs=iE.enc y∧i64ok y:=by
 obtain⟨a0,e0,-,w0⟩:=DataW.trod_int Tryz.underlying3 hx
 exact⟨a0,e0,wf_i64 w0⟩
end
end Go.Proofs.YtldomapkmopomaaGreatDoor
namespace Go.Proofs.YtldomapkmopomaaGreatDoor.Sw
open Go.Proofs.YtldomapkmopomaaGreatDoor renaming lo → qL, hi → qH
open Go.RowKit
set_option maxRecDepth 10000
def uE:Enc Int:=⟨fun z=> [.int .u64 z],1,fun _=>rfl,by intro x v hv;simp at hv;subst hv;rfl⟩
def boE:Enc Bool:=⟨fun z=> [.bool z],1,fun _=>rfl,by intro x v hv;simp at hv;subst hv;rfl⟩
theorem jl {α:Type} {l:List α} {k:Nat} {x:α} (h:l[k]?=some x):k<l.length:=(List.getElem?_eq_some_iff.1 h).1
theorem jn {α:Type} {l:List α} {k:Nat} (h:k<l.length): ∃ x,l[k]?=some x:=⟨l[k],List.getElem?_eq_getElem h⟩
theorem jaP {α:Type} {l:List α} {k:Nat} {x:α} (h:l[k]?=some x):l.take (k+1)=l.take k++ [x]:=by rw[List.take_add_one,h];rfl
theorem on1_D {w0 w:World} {H:jb} {b:Nat} (hw:HF w0 H w):CallsDIn (fen none) 0 Tryz.prog 251 #[.pointer (some ⟨b,0,none⟩)] .returning w (fun e u' w'=>(∃ v,e= .returned v)∧u'= .returning∧HF w0 H w'):=by
 refine callsDIn_of_wpSIn Tryz.func251 rfl trivial fun c₀ cs hu=>?_
 refine wpSIn_seq ?_
 refine wpSIn_region ?_
 have hrec:recoverD (c₀::cs)=none:=by simp[recoverD,hu]
 have e1 : ∀ ρ : Operand → Value, (execOp ρ ⟨some 4, .call { callee := .builtin .recover, args := #[], argTypes := #[] }, 20, "mem.go:58", #[], none⟩).run Tryz.prog w = .ok .recover w := by
  intro ρ
  simp[execOp,resolve,invoke,builtin]
 have hr:List.range 1=[0]:=rfl
 simp only[List.size_toArray,List.length_cons,List.length_nil,Nat.zero_add,hr,wpOpsSIn,List.getElem?_toArray,List.getElem?_cons_zero,Region.wanted,if_true,e1,hrec,Exit.thenS]
 refine⟨fun _ _=>trivial,?_⟩
 refine wpSIn_of_wpIn rfl ?_
 refine K.out (P:=Tryz.prog) (w0:=w0) (n:=11) (m:=[(4,Value.nilIface)]) (H:=H) (ds:=[]) ?_ _ _ (FitK.put (m:=[]) (ds:=[]) (n:=11) ⟨rfl,rfl,fun t v ht=>by simp[look] at ht⟩ rfl _) hw
 ·refine K.block ?_
  refine K.seq (K.region ?_)
  have e: ∀ w,(Op.equal 20 .nilIface .nilIface).run Tryz.prog w= .ok true w:=fun w=>by
   rw[jdi,Op.equalIn.eq_2,Sem.run_bind,JK w Tryz.underlying20];rfl
  refine KL.v (v:= .bool true) rfl ⟨rfl,fun w d pos af g _=>?_⟩ ?_
  ·have e2:(execOp (evS [(4,Value.nilIface)]) ⟨d, .binOp .eql 20 (.tmp 4) (.const .nilIface) 20,4,pos,af,g⟩).run Tryz.prog w= .ok (.value (.bool true)) w:=by
    simp[execOp,evS,evO,look,eqGuard,binOp,e]
   exact e2
  refine KL.nil (KE.next (K.condT rfl (K.region ?_)))
  refine KL.v rfl (Val.assign rfl) ?_
  refine KL.nil ?_
  refine KE.blkN ?_
  refine .mk fun a w' ha hw'=>?_
  exact⟨ha.1, .returning,by rw[←hu], .tuple #[],by simp[results,Tryz.f251],⟨_,rfl⟩,rfl,hw'⟩
theorem on_K {w0:World} {H:jb} {fv:Value} {R:jb→Prop} (h: ∀ b,CallV Tryz.prog w0 fv [] ((b,cells [.int .i64 0] 61)::H) (fun r H'=> ∃ H1,R H1∧Part H' ((b,cells [.int .i64 0] 61)::H1))):
  Call Tryz.prog w0 192 [fv] H (fun r H'=>r= .int .i64 0∧R H'):=by
 refine Call.enter1 (n:=6) (by kernel_rfl) Tryz.func192 rfl rfl rfl ?_
 refine jdM ?_
 refine KL.e rfl (Eff.alloc rfl) ?_;rintro _ _ ⟨b2,rfl,rfl⟩
 refine KL.nil (KE.next (K.seq (K.region ?_)))
 refine jdM ?_
 refine KL.v rfl (Val.makeFunc js js) ?_
 refine KL.deferC rfl ?_
 refine KL.nil (KE.next (K.seq (K.region ?_)))
 refine jdM ?_
 refine KL.v rfl (Val.move rfl) ?_
 refine KL.callc rfl rfl js fun T hT=>?_
 refine(h b2).mono ?_
 rintro _ _ ⟨H1,hR,hp⟩
 refine hT _ _ ?_;clear hT T
 refine KL.nil (KE.next ?_)
 refine K.part _ hp ?_
 refine K.seq (K.region ?_)
 refine jdM ?_
 (first|(refine KL.eN (Eff.storeL rfl rfl jcb rfl jq jcZ) ?_;rintro _ _ rfl)|(refine KL.eN (Eff.stSl rfl rfl rfl rfl jh (by assumption) (by assumption) rfl rfl) ?_;rintro _ _ rfl)|(refine KL.eN (Eff.stSl0 rfl rfl rfl rfl jh (by assumption) (by assumption) rfl rfl) ?_;rintro _ _ rfl))
 refine KL.nil (KE.next ?_)
 refine K.ret ?_
 exact KE.finD (fun w hw=>on1_D hw) (by kernel_rfl) rfl jc (Part.drop Part.all) ⟨rfl,hR⟩
end Go.Proofs.YtldomapkmopomaaGreatDoor.Sw
