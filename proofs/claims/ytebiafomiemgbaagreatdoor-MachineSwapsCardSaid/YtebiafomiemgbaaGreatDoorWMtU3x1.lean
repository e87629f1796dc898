/-What the law needs of its own,part 1. -/
import Derived.Test.YtebiafomiemgbaaGreatDoorWMtU3d
import Derived.Test.YtebiafomiemgbaaGreatDoorJ39
set_option linter.unusedVariables false
set_option linter.unusedSimpArgs false
namespace Go.Proofs.YtebiafomiemgbaaGreatDoor
set_option maxHeartbeats 8000000
open Go.RowKit
section
variable {P : Program} {w0 : World} {ro : Option Nat} {n : Nat} {Q : Exit → Act → World → Prop} {ds : List Deferred} {m : jk} {H : jb}
theorem K.fact {c:Code} {p:Prop} (hp: ∀ w,HF w0 H w→p) (h:p→K P w0 ro n c Q ds m H):K P w0 ro n c Q ds m H:= .mk fun a w ha hw=>(h (hp w hw)).out a w ha hw
theorem KL.fact {ops:Array Oper} {l:List Oper} {p:Prop} (hp: ∀ w,HF w0 H w→p) (h:p→KL P w0 ro n ops l Q ds m H):KL P w0 ro n ops l Q ds m H:= .mk fun a w ha hw=>(h (hp w hw)).out a w ha hw
variable {ops : Array Oper} {rest : List Oper} {op : Op} {ty : TypeId} {pos : String} {af : Array Edge}
end
def strB (l:List UInt8):ByteArray:=⟨l.toArray⟩
theorem strB_size (l:List UInt8):(strB l).size=l.length:=by rfl
theorem jfY (l:List UInt8) (i:Nat):(strB l)[i]?=l[i]? :=by
 rw[show(strB l)[i]?=(strB l).data[i]? from ?_]
 ·simp[strB]
 rfl
theorem jdx (a b:List UInt8):strB a++strB b=strB (a++b):=by
 rfl
theorem jd1 (l:List UInt8) (a b:Nat):(strB l).extract a b=strB ((l.take b).drop a):=by
 apply ByteArray.ext
 rw[ByteArray.data_extract]
 grind[strB]
section
variable {P : Program} {w0 : World} {m : jk} {H F : jb} {ty : TypeId} {v : Value}
def JD (P:Program) (t:TypeId):Bool:=match P.underlying t with
 |some .string=>true
 |_=>false
theorem jas {t:TypeId} (h:JD P t=true):P.underlying t=some .string:=by
 grind[JD]
theorem Val.lenB {x:Operand} {t:TypeId} {l:List UInt8} (hx:evO m x=some (.string (strB l))) (ht:JD P t=true):Val P w0 H m ty (.call {callee:= .builtin .len,args:= #[x],argTypes:= #[t]}) (.int .i64 (l.length:Nat)):=
 ⟨by grind[jm,jaI,cov],fun w d pos af g _=>by
  simp[execOp,resolve,invoke,builtin,evS,hx,Builtin.len_,jQ w (jas ht),goInt,strB_size]⟩
theorem Val.idxB {x y:Operand} {t:TypeId} {l:List UInt8} {i:Nat} {c:UInt8} {k:IntKind} (hx:evO m x=some (.string (strB l))) (hy:evO m y=some (.int k (i:Nat))) (ht:JD P t=true) (hc:l[i]?=some c):
  Val P w0 H m ty (.index t x y) (.int .u8 (c.toNat:Nat)):=
 ⟨by grind[jm,cov],fun w d pos af g _=>by
  have e:(strB l)[i]?=some c:=by grind[jfY]
  simp[execOp,evS,hx,hy,Instr.index,asIntOf,jQ w (jas ht),e]⟩
theorem Val.subB {x y z:Operand} {t:TypeId} {l:List UInt8} {a b:Nat} (hx:evO m x=some (.string (strB l))) (hy:evO m y=some (.int .i64 (a:Nat))) (hz:evO m z=some (.int .i64 (b:Nat))) (ht:JD P t=true) (hab:a≤b) (hb:b≤l.length):
  Val P w0 H m ty (.slice t x (some y) (some z) none) (.string (strB ((l.take b).drop a))):=
 ⟨by grind[jm,jbs,cov],fun w d pos af g _=>by
  have e1:=jco (P:=P) (w:=w) (i:=b) (y:=l.length) (c:= .sliceAlen) hb
  have e2:=jco (P:=P) (w:=w) (i:=a) (y:=b) (c:= .sliceB) hab
  simp[execOp,evS,hx,hy,hz,Instr.sliceAt,Instr.slice,Instr.sliceBounds,jQ w (jas ht),e1,e2,strB_size,jd1]⟩
theorem Val.subBZ {x y z:Operand} {t:TypeId} {l:List UInt8} {a b:Int} (hx:evO m x=some (.string (strB l))) (hy:evO m y=some (.int .i64 a)) (hz:evO m z=some (.int .i64 b)) (ht:JD P t=true) (hab:0≤a∧a≤b∧b≤l.length):
  Val P w0 H m ty (.slice t x (some y) (some z) none) (.string (strB ((l.take b.toNat).drop a.toNat))):=by
 obtain⟨h1,h2,h3⟩:=hab
 obtain⟨a',rfl⟩:=Int.eq_ofNat_of_zero_le h1
 obtain⟨b',rfl⟩:=Int.eq_ofNat_of_zero_le (show 0≤b by omega)
 exact Val.subB hx hy hz ht (by omega) (by omega)
theorem Val.subBLZ {x y:Operand} {t:TypeId} {l:List UInt8} {a:Int} (hx:evO m x=some (.string (strB l))) (hy:evO m y=some (.int .i64 a)) (ht:JD P t=true) (ha:0≤a∧a≤l.length):
  Val P w0 H m ty (.slice t x (some y) none none) (.string (strB (l.drop a.toNat))):=by
 obtain⟨a',rfl⟩:=Int.eq_ofNat_of_zero_le ha.1
 exact⟨by grind[jm,jbs,cov],fun w d pos af g _=>by
  have e2:=jco (P:=P) (w:=w) (i:=a') (y:=l.length) (c:= .sliceB) (by omega)
  simp[execOp,evS,hx,hy,Instr.sliceAt,Instr.slice,Instr.sliceBounds,jQ w (jas ht),e2,strB_size,jd1]⟩
theorem Val.addB {x y:Operand} {t u:TypeId} {a b:List UInt8} (hx:evO m x=some (.string (strB a))) (hy:evO m y=some (.string (strB b))) (hl:a.length+b.length≤9223372036854775807):Val P w0 H m ty (.binOp .add t x y u) (.string (strB (a++b))):=
 Val.binV hx hy (by simp) (by simp) (fun w=>by
  have: ¬(((strB a).size+(strB b).size:Nat):Int)>IntKind.i64.max:=by rw[strB_size,strB_size];simp[IntKind.max,IntKind.signed,IntKind.bits];omega
  simp only[binOp,Op.stringOp];rw[if_neg this,jdx]
  rfl)
def jaX (P:Program) (t:TypeId):Bool:=match Ja P t with
 |some e=>match P.underlying e with
  |some (.int .u8)=>true
  |_=>false
 |none=>false
theorem jc5 {t:TypeId} (h:jaX P t=true): ∃ e,P.underlying t=some (.slice e)∧P.underlying e=some (.int .u8)∧Ja P t=some e:=by
 grind[jaX,Ja]
theorem Val.neqA {t u:TypeId} {x y:Operand} {xs ys:List Value} {r:Bool} (hx:evO m x=some (.agg xs.toArray)) (hy:evO m y=some (.agg ys.toArray)) (hg:P.eqGuardType P.depth t=false) (h:EqV P (9999+1) t (.agg xs.toArray) (.agg ys.toArray) r):Val P w0 H m ty (.binOp .neq t x y u) (.bool (!r)):=
 ⟨by grind[jm,cov],fun w d pos af g _=>by
  have e1:=run_eqGuard_agg (P:=P) w .neq t x y xs.toArray ys.toArray hg
  have e2:=jdg _ h w
  simp[execOp,evS,hx,hy,e1,binOp,jan,e2]⟩
theorem Val.neqAE {t u:TypeId} {x y:Operand} {xs ys:List Value} {r:Bool} (hx:evO m x=some (.agg xs.toArray)) (hy:evO m y=some (.agg ys.toArray)) (hg:P.eqGuardType P.depth t=false) (h:EqV P (9999+1) t (.agg xs.toArray) (.agg ys.toArray) r) (hr:r=true):Val P w0 H m ty (.binOp .neq t x y u) (.bool false):=
 Val.isB (Val.neqA hx hy hg h) (by grind)
end
section
variable {P : Program} {w0 : World} {H F : jb} {m : jk} {ty : TypeId}
def jau (P:Program) (t:TypeId):Bool:=match P.underlying t with
 |some (.interface _)=>false
 |some _=>true
 |none=>false
theorem Val.mkIface {t:TypeId} {x:Operand} {v:Value} (hx:evO m x=some v) (ht:jau P t=true):Val P w0 H m ty (.makeInterface t x) (.iface t v):=
 ⟨by grind[jm,cov],fun w d pos af g hw=>by
  unfold jau at ht
  split at ht
  ·grind
  ·rename_i d' hne hu
   have:(Instr.makeInterface t v).run P w= .ok (Value.iface t v) w:=by
    simp only[Instr.makeInterface,Sem.run_bind,jQ w hu,Result.andThen]
    rfl
   simp[execOp,evS,hx,this]
  grind⟩
end
open Go.ChangeShapes Go.WideShapes Go.ChangeAt Go.Deep Go.Joins
set_option maxRecDepth 100000
def u8ok (z:Int):Prop:=0≤z∧z≤255
theorem jfG {z:Int} (h:(Lit.int .u8 z).wf=true):u8ok z:=by simpa [Lit.wf,IntKind.min,IntKind.max,IntKind.signed,IntKind.bits,u8ok] using h
end Go.Proofs.YtebiafomiemgbaaGreatDoor
namespace Go.Proofs.YtebiafomiemgbaaGreatDoor.Sw
open Go.Proofs.YtebiafomiemgbaaGreatDoor renaming lo → qL, hi → qH
open Go.RowKit
set_option maxRecDepth 10000
section
variable {w0 : World} {f : FmM} {F : jb} {nf t : Nat} {q : TnM}
theorem jeO:Call Tryz.prog w0 24 [.pointer (some ⟨f.b,0,none⟩)] (fmH f++F) (fun r H'=>r= .pointer (some ⟨f.m.b,0,none⟩)∧H'=fmH f++F):=by
 refine zmj ?_;refine zeb ?_;refine zny ?_;refine zbn ?_;refine zm ?_;exact zdw
end
section
variable {w0 : World} {F : jb} {b nf t : Nat} {c : Cfg} {hs : List HpP} {f : FmM} {h : HpP}
theorem FmZ.mok (z:FmZ b c hs nf f):jak f.m:=by
 obtain⟨ok,_,rfl,rfl⟩:=z
 obtain⟨q,hq,hk⟩:=ok.at_ (t:=0) (by have:=(Jf ok.cfg).tn;omega)
 have:=hk.R.p.p.bo.m
 rw[hk.em] at this
 omega
theorem zMem (z:FmZ b c hs nf f):Call Tryz.prog w0 24 [.pointer (some ⟨b,0,none⟩)] (fmH f++F) (fun r H'=>r= .pointer (some ⟨f.m.b,0,none⟩)∧H'=fmH f++F):=by
 obtain⟨ok,rfl,rfl,rfl⟩:=z
 exact jeO
theorem jeP {fn:FuncId} {args:List Value} {f:FmM} {P:Value→jb→Prop} (hc: ∀ A,Call Tryz.prog w0 fn args (jy f.m++A) (fun r H'=> ∃ D,P r D∧H'=D++(jy f.m++A))):
  Call Tryz.prog w0 fn args (fmH f++F) (fun r H'=> ∃ D,P r D∧H'=D++(fmH f++F)):=by
 refine Call.at_ (hc ((f.b,cells [oV f.oc f.c.cl.length, .int .i64 f.c.page,oV f.ot f.c.tn.length, .int .i64 f.c.workers, .int .i64 f.c.grey, .int .i64 f.c.gens, .pointer (some ⟨f.m.b,0,none⟩),oV f.o f.ps.length] 71)::(oH iE 3 f.c.cl f.oc++(oH tnE 55 f.c.tn f.ot++(oH pbE 64 f.ps f.o++(JH f.L++F)))))) ?_ ?_
 ·rw[fmH_app];exact ja
 ·rintro r _ ⟨D,hP,rfl⟩;exact zo4
theorem zAll (z:FmZ b c hs nf f):Call Tryz.prog w0 43 [.pointer (some ⟨f.m.b,0,none⟩)] (fmH f++F) (fun r H'=> ∃ o,oOk uE (hs.map (·.s.W.x)).flatten o∧r=oV o (hs.map (·.s.W.x)).flatten.length∧H'=oH uE 34 (hs.map (·.s.W.x)).flatten o++(fmH f++F)):=by
 have hr:=z.R
 refine(jeP (P:=fun r D=> ∃ o,oOk uE (hs.map (·.s.W.x)).flatten o∧r=oV o (hs.map (·.s.W.x)).flatten.length∧D=oH uE 34 (hs.map (·.s.W.x)).flatten o) fun A=>?_).mono ?_
 ·refine(All_K (w0:=w0) z.mok).mono ?_
  grind
 grind
end
theorem jeG {α:Type} {l m:List α} {k:Nat} (hl:l.length=m.length) (h:l.take k=m.take k) (hk:l.length≤k):l=m:=by
 rwa[List.take_of_length_le hk,List.take_of_length_le (by omega)] at h
theorem ftake_eq {l m:List Int} {k:Nat} {a:Int} (h:l.take k=m.take k) (h1:l[k]?=some a) (h2:m[k]?=some a):l.take (k+1)=m.take (k+1):=by
 rw[J2 h1,J2 h2,h]
structure FqK where
 k:Nat
theorem fSame_K {w0:World} {H:jb} {va vb:Value} {l m:List Int} (h1:Sli w0 H uE va l) (h2:Sli w0 H uE vb m) (hl:l.length≤4294967296):
  Call Tryz.prog w0 26 [va,vb] H (fun r H'=>r= .bool (decide (l=m))∧H'=H):=by
 refine zo5 ?_
 by_cases hlm:l.length=m.length
 ·have hne: ¬((l.length:Nat):Int)≠((m.length:Nat):Int):=by omega
  refine zfu ?_;refine zaj ?_;refine zfm ?_;refine zo6 ?_;rintro⟨k⟩ ⟨hk,he⟩;dsimp only at hk he⊢
  by_cases hlt:k<l.length
  ·obtain⟨x,hx⟩:=jh hlt
   obtain⟨y,hy⟩:=jh (l:=m) (k:=k) (by omega)
   by_cases hxy:x=y
   ·have hxy2: ¬x≠y:=fun h=>h hxy
    refine ziI ?_;refine zfK ?_;refine zhl ?_;refine zcj ?_;subst hxy;exact zo7
   ·have hne2:l≠m:=fun h=>hxy (by grind)
    refine ziI ?_;refine zkS ?_;refine zcV ?_;refine zda ?_;exact zh2
  ·have heq:l=m:=jeG hlm he (by omega)
   refine zcR ?_;refine zdf ?_;exact zo8
 ·have hne:((l.length:Nat):Int)≠((m.length:Nat):Int):=by omega
  have hne2:l≠m:=fun h=>hlm (by rw[h])
  refine zfu ?_;refine zM ?_;refine zgx ?_;exact zh2
theorem jcs (l:List UInt8) (c:UInt8):nb (l++ [c])=nb l*256+c.toNat:=by simp[nb]
theorem jbU (z:Int):IntKind.u64.wrap z=z%18446744073709551616:=by
 rfl
theorem jdE (z:Int):IntKind.i32.wrap z=(z+2147483648)%4294967296-2147483648:=by
 simp[IntKind.wrap,IntKind.bits,IntKind.signed]
 omega
end Go.Proofs.YtebiafomiemgbaaGreatDoor.Sw
namespace Go.Proofs.YtebiafomiemgbaaGreatDoor
def jbb (w0:World) (v:Value) (R:jb→Prop) (e:Ending) (w':World):Prop:=e= .panicked (chP v)∧ ∃ H',HF w0 H' w'∧R H'
section
variable {P : Program} {w0 : World} {n : Nat} {Q : Exit → Act → World → Prop} {ds : List Deferred} {m : jk} {H F : jb} {ops : Array Oper} {rest : List Oper} {ty : TypeId} {pos : String} {af : Array Edge} {v : Value} {R R' : jb → Prop} {fn : Func} {ch : List PanicEntry}
theorem KE.passP {X:Act→World→Prop} (h:KE w0 n (.panic ch) Q ds m H):KE w0 n (.panic ch) (Exit.then X Q) ds m H:=⟨fun a w ha hw=>h.out a w ha hw⟩
theorem KE.blkP {id:Nat} (h:KE w0 n (.panic ch) Q ds m H):KE w0 n (.panic ch) (Exit.inBlock id Q) ds m H:=⟨fun a w ha hw=>h.out a w ha hw⟩
theorem KE.finP {H':jb} (hp:Part H H') (h:R H'):KE w0 n (.panic (chP v)) (bodyPostM (fen none) 0 P fn (jbb w0 v R)) [] m H:=
 .mk fun a w ha hw=>by
  show LeavesInM (fen none) 0 P fn a.tmps (jbb w0 v R) a.defers (.panicking (chP v)) w
  exact znK
theorem Call.enterP {f:FuncId} {c:Code} {args:List Value} (m:jk) (hent:jat P f=true) (hf:P.funcs[f]?=some fn) (hb:fn.body=some c) (hn:fn.ntmps=n) (hsz:Nat.ble args.length n=true) (hm:jb3 args.toArray m)
  (h:K P w0 none n c (bodyPostM (fen none) 0 P fn (jbb w0 v R)) [] m H):Jx P w0 f args H v R:=by
 refine⟨hent,fun w hw=>jdv.1 (callsIn_of_wp_marks hf hb trivial (h.out _ w ⟨rfl,?_,?_⟩ hw) rfl)⟩
 ·simp_all
 ·intro t v ht
  have:=jcj hm ht
  grind
theorem KL.callP {d:Option Nat} {f:Operand} {as0:List Operand} {ts:Array TypeId} {g:FuncId} {vs:List Value} (hf:evO m f=some (.func (.func g) #[] #[])) (ha:EvL m as0 vs)
  (hc:Jx P w0 g vs H v R) (h: ∀ H',R H'→KE w0 n (.panic (chP v)) Q ds m H'):
  KL P w0 none n ops (⟨d, .call {callee:= .value f,args:=as0.toArray,argTypes:=ts},ty,pos,af,none⟩::rest) Q ds m H:= .mk fun a w ha' hw=>
 wpListIn_plain rfl fun Kf hK=>by
  unfold Oper.wpIn;refine zfN ?_
  have hcov:jm m (.call {callee:= .value f,args:=as0.toArray,argTypes:=ts})=true:=by simp only[jm,jaI,ha.cov,Bool.and_true];grind[Proofs.YtebiafomiemgbaaGreatDoor.cov]
  have e:((Oper.semAt (fen none).round a.eval ⟨d, .call {callee:= .value f,args:=as0.toArray,argTypes:=ts},ty,pos,af,none⟩).run P w)= .ok (.enter g vs.toArray) w:=by
   rw[Oper.semAt_eq _ _ _ (jcE hcov),ha'.exec (o:=⟨d, .call {callee:= .value f,args:=as0.toArray,argTypes:=ts},ty,pos,af,none⟩) hcov]
   have e1:evS m f= .func (.func g) #[] #[]:=by grind[evS]
   have e2:=jck hc.ent vs.toArray w
   simp only[execOp,resolve,List.map_toArray,ha.map,e1,Deferred.ofValue,invoke,Bind.bind,Sem.bind,Pure.pure]
   grind
  refine znS ?_;rintro _ w' ⟨rfl,H',hw',hR⟩;exact(h H' hR).out a w' ha' hw'
theorem jdC {args:List Value} {k:Nat} (hk:k=n) (hsz:Nat.ble args.length n=true) (hm:jb3 args.toArray m):FitK n [] m {tmps:=args.toArray++Array.replicate (k-args.toArray.size) undef,defers:=[]}:=by
 subst hk;refine⟨rfl,?_,?_⟩
 ·simp_all
 ·intro t v ht
  have:=jcj hm ht
  grind
theorem KL.panicI {x:Operand} {t:TypeId} (hx:evO m x=some (.iface t v)) (hk:KE w0 n (.panic (chP (.iface t v))) Q ds m H):
  KL P w0 none n ops (⟨none, .panic x,ty,pos,af,none⟩::rest) Q ds m H:= .mk fun a w ha hw=>
 wpListIn_plain rfl fun Kf hK=>by
  unfold Oper.wpIn;refine zfN ?_
  have hcov:jm m (.panic x)=true:=by grind[jm,cov]
  have e:((Oper.semAt (fen none).round a.eval ⟨none, .panic x,ty,pos,af,none⟩).run P w)= .halt (.panic (.iface t v)) w:=by
   rw[Oper.semAt_eq _ _ _ (jcE hcov),ha.exec (o:=⟨none, .panic x,ty,pos,af,none⟩) hcov]
   simp[execOp,evS,hx,run_panic_iface]
  exact znI
theorem Val.assertOk {t xT:TypeId} {x:Operand} (hx:evO m x=some (.iface t v)) (ht:jau P t=true):Val P w0 H m ty (.typeAssert x xT t true) (.tuple #[v, .bool true]):=
 ⟨by grind[jm,cov],fun w d pos af g hw=>by
  unfold jau at ht
  split at ht
  ·grind
  ·rename_i d' hne hu
   have:(Instr.typeAssert (.iface t v) xT t true).run P w= .ok (.tuple #[v, .bool true]) w:=by
    simp only[Instr.typeAssert,Sem.run_bind,jQ w hu,Result.andThen]
    rfl
   simp[execOp,evS,hx,this]
  grind⟩
theorem Val.eqlIN {t u ti:TypeId} {x y:Operand} (hx:evO m x=some (.iface ti v)) (hy:evO m y=some .nilIface) (ht:(match P.underlying t with|some (.interface _)=>true|_=>false)=true):Val P w0 H m ty (.binOp .eql t x y u) (.bool false):=
 Val.binV hx hy (by simp) (by simp) fun w=>by
  split at ht
  ·rename_i q hu
   have:(Op.equal t (.iface ti v) .nilIface).run P w= .ok false w:=by
    rw[jan,Op.equalIn.eq_2,Sem.run_bind,jQ w hu];rfl
   simp[binOp,this]
  grind
theorem Val.eqlNN {t u:TypeId} {x:Operand} (hx:evO m x=some .nilIface) (ht:(match P.underlying t with|some (.interface _)=>true|_=>false)=true):Val P w0 H m ty (.binOp .eql t x (.const .nilIface) u) (.bool true):=
 ⟨by
  have c1:cov m x=true:=by grind[cov]
  have c2:cov m (.const .nilIface)=true:=rfl
  grind[jm],fun w d pos af g _=>by
  split at ht
  ·rename_i q hu
   have e:(Op.equal t .nilIface .nilIface).run P w= .ok true w:=by
    rw[jan,Op.equalIn.eq_2,Sem.run_bind,jQ w hu];rfl
   have e2:evS m (.const .nilIface)= .nilIface:=rfl
   have e3:evS m x= .nilIface:=by grind[evS]
   simp[execOp,e2,e3,eqGuard,binOp,e]
  grind⟩
theorem Eff.convSB1 {s t:TypeId} {x:Operand} {l:List UInt8} (hx:evO m x=some (.string (strB l))) (hs:JD P s=true) (ht:jaX P t=true) (hl:l.length≤maxLen):Eff P w0 H m ty (.convert s t x) (fun v H'=> ∃ b arr e fr a n c,v= .slice a n c∧H'=(b, .cells arr e fr)::H∧Sli w0 [(b, .cells arr e fr)] bE v (ofB l)):=by
 refine⟨by grind[jm,cov],fun w d pos af g hw=>?_⟩
 obtain⟨e,h1,h2,_⟩:=jc5 ht
 have key:=run_bytes_of_string (P:=P) w s t e (strB l) (jas hs) h1 h2
 have e1:(execOp (evS m) ⟨d, .convert s t x,ty,pos,af,g⟩).run P w= .ok (.value (.slice (some ⟨w.heap.size,0,none⟩) (strB l).size (grownCap w (strB l).size 0 e)))
   (w.drew.alloc (.cells (bytesRow (strB l) (grownCap w (strB l).size 0 e)) e ((bytesRow (strB l) (grownCap w (strB l).size 0 e)).size,(bytesRow (strB l) (grownCap w (strB l).size 0 e)).size+1))):=by
  simp[execOp,evS,hx,key]
 rw[e1]
 have hcap:grownCap w (strB l).size 0 e≤maxLen:=grownCap_le_maxLen w _ _ e (by grind[strB_size])
 have hge:(strB l).size≤grownCap w (strB l).size 0 e:=by unfold grownCap Question.cut;grind
 refine⟨_,hw.drew.alloc _,w.drew.heap.size,_,e,_,_,_,_,rfl,rfl,fun w' hw'=>?_⟩
 have hb:=hw'.get _ (.head _)
 refine zmk ?_;intro i z hz j u hu
 have hj:j=0:=by grind[bE]
 subst hj
 have hu':u= .int .u8 z:=by grind[bE]
 subst hu'
 have hb':w'.heap[w.heap.size]?=some (.cells (bytesRow (strB l) (grownCap w (strB l).size 0 e)) e ((bytesRow (strB l) (grownCap w (strB l).size 0 e)).size,(bytesRow (strB l) (grownCap w (strB l).size 0 e)).size+1)):=hb
 simp only[adr,World.cell?,hb']
 obtain⟨c,hc,rfl⟩: ∃ c,l[i]?=some c∧z=(c.toNat:Int):=by
  grind[ofB]
 have hi:=(List.getElem?_eq_some_iff.1 hc).1
 simp only[bytesRow,Option.isSome_none,Bool.false_eq_true,if_false]
 grind[strB,bE,hi]
theorem KL.halt {o:Oper} (h: ∀ a w,FitK n ds m a→HF w0 H w→(∀ f,o.about P w a.eval=some f→(fen none).fn f)∧ ∃ w',((o.semAt (fen none).round a.eval).run P w)= .halt (.panic v) w'∧HF w0 F w')
  (hg:o.guard=none) (hk:KE w0 n (.panic (chP v)) Q ds m F):KL P w0 none n ops (o::rest) Q ds m H:= .mk fun a w ha hw=>
 wpListIn_plain hg fun Kf hK=>by
  unfold Oper.wpIn
  obtain⟨h1,w',e,hw'⟩:=h a w ha hw
  refine⟨h1,?_⟩;exact znH
theorem KE.finDP {Rp:Ji} {g:FuncId} {cap:Array Value} {H1 H':jb} {rs:List ResultVar} {vs:List Value}
  (hc: ∀ w,HF w0 H w→CallsDIn (fen none) 0 P g cap (.panicking (chP v)) w (fun e u' w'=>(∃ x,e= .returned x)∧settle u'= .returning∧HF w0 H1 w'))
  (he:jat P g=true) (hr:fn.results=rs.toArray) (hv:jaC P w0 m H1 rs vs) (hp:Part H1 H') (h:Rp (jbF vs) H'):
  KE w0 n (.panic (chP v)) (bodyPostM (fen none) 0 P fn (JU w0 Rp)) [{target:= .fn (.func g) cap,args:= #[]}] m H:=
 .mk fun a w ha hw=>by
  show LeavesInM (fen none) 0 P fn a.tmps (JU w0 Rp) a.defers (.panicking (chP v)) w
  rw[ha.1];refine⟨by simp, .inr ⟨fun hh=>by simp[fen,Fence.wide] at hh, .func g,cap,g,cap,rfl,?_,fun _ _=>trivial,?_⟩⟩
  ·have:=jck he cap w
   show(callFunc g (#[]++cap)).run P w=_
   grind
  ·refine(hc w hw).mono ?_;rintro e u' w' ⟨⟨x,rfl⟩,hu,hw'⟩
   show LeavesInM (fen none) 0 P fn a.tmps (JU w0 Rp) [] (settle u') w'
   rw[hu];exact zml
end
end Go.Proofs.YtebiafomiemgbaaGreatDoor
namespace Go.Proofs.YtebiafomiemgbaaGreatDoor.Sw
open Go.Proofs.YtebiafomiemgbaaGreatDoor renaming lo → qL, hi → qH
open Go.RowKit
set_option maxRecDepth 10000
def Jp:Value:= .iface 161 (.agg [].toArray)
theorem jdz {n:Nat} {c:UInt8} (hn:n<72057594037927936):JW .or .u64 (IntKind.u64.wrap ((n:Int)*2^(min (8:Int).toNat IntKind.u64.bits))) (c.toNat:Nat)=((n*256+c.toNat:Nat):Int):=by
 have hc:=c.toNat_lt
 have e1:IntKind.u64.wrap ((n:Int)*2^(min (8:Int).toNat IntKind.u64.bits))=((n*256:Nat):Int):=by
  rw[jbU]
  have:(2:Int)^(min (8:Int).toNat IntKind.u64.bits)=256:=rfl
  grind
 rw[e1];unfold JW
 have e2:(BitVec.ofInt IntKind.u64.bits ((n*256:Nat):Int)|||BitVec.ofInt IntKind.u64.bits ((c.toNat:Nat):Int)).toNat=n*256+c.toNat:=by
  rw[BitVec.toNat_or,BitVec.ofInt_natCast,BitVec.ofInt_natCast,BitVec.toNat_ofNat,BitVec.toNat_ofNat]
  have b:IntKind.u64.bits=64:=rfl
  rw[b,Nat.mod_eq_of_lt (by omega),Nat.mod_eq_of_lt (by omega)]
  have:=Nat.shiftLeft_add_eq_or_of_lt (show c.toNat<2^8 by omega) n
  rw[Nat.shiftLeft_eq] at this
  grind
 grind[jbU]
section
variable {w0 : World} {A B : jb} {r n : Nat} {v : Value} {l : List UInt8}
theorem jdH (hR:RdR w0 A v l) (hn:n≤l.length):Call Tryz.prog w0 164 [.pointer (some ⟨r,0,none⟩), .int .i64 (n:Nat)] ((r,cells [v] 166)::A) (fun res H'=>res=subV v 0 n 1∧H'=(r,cells [subV v n (ofB l).length 1] 166)::A):=by
 have hS:=hR.sl
 have ho:=hR.one
 have hoc:=hR.oc
 have hos:=jfc (l:=n) (h:=(ofB l).length) (n:=1) hR.oc
 have hle:=J7 l
 have hlt: ¬(((ofB l).length:Nat):Int)<((n:Nat):Int):=by omega
 have hnl:n≤(ofB l).length:=by omega
 refine zmm ?_;refine zgH ?_;refine zW ?_;refine zhD ?_;refine zkM ?_;refine zay ?_;refine zS ?_;refine zfe ?_;refine zkV ?_;refine zS ?_;refine zdY ?_;refine zj ?_;exact zq
theorem rtake_P (hR:RdR w0 A v l) (hn:l.length<n):Jx Tryz.prog w0 164 [.pointer (some ⟨r,0,none⟩), .int .i64 (n:Nat)] ((r,cells [v] 166)::A) Jp (fun H'=>H'=(r,cells [v] 166)::A):=by
 have hS:=hR.sl
 have ho:=hR.one
 have hoc:=hR.oc
 have hle:=J7 l
 have hlt:(((ofB l).length:Nat):Int)<((n:Nat):Int):=by omega
 unfold Jp;refine zmn ?_;refine zgH ?_;refine zI ?_;refine zlj ?_
 repeat (first|refine KE.passP ?_|refine KE.blkP ?_)
 exact za7
theorem ja3 (hR:RdR w0 A v l) (hn:n≤l.length) (h8:n≤8) (hp:Part B A):Call Tryz.prog w0 123 [.pointer (some ⟨r,0,none⟩), .int .i64 (n:Nat)] ((r,cells [v] 166)::B) (fun res H'=> ∃ v',RdR w0 A v' (l.drop n)∧res= .int .u64 (nb (l.take n):Nat)∧H'=(r,cells [v'] 166)::B):=by
 have hD:=hR.drop hn
 have hS:=(hR.part hp).take hn
 have hTk:=jdH (r:=r) (n:=n) (hR.part hp) hn
 obtain⟨v',hv'⟩: ∃ v',subV v n (ofB l).length 1=v':=⟨_,rfl⟩
 obtain⟨u,hu⟩: ∃ u,subV v 0 n 1=u:=⟨_,rfl⟩
 simp only[hv',hu] at hTk;rw[hv'] at hD;rw[hu] at hS;clear hv' hu
 have hll:(ofB (l.take n)).length=n:=by grind[J7]
 have hml:(l.take n).length=n:=by grind
 refine zmo ?_;refine zhA ?_;refine za9 fun T hT=>?_;refine(CallV.fn hTk).mono ?_;rintro _ _ ⟨rfl,rfl⟩;refine ze ?_;clear hT T;refine zcm ?_;refine zmp ?_;rintro k hk
 by_cases hlt:k<n
 ·have hlt':((k:Nat):Int)<(((ofB (l.take n)).length:Nat):Int):=by omega
  obtain⟨x,hx⟩:=jh (l:=l.take n) (k:=k) (by omega)
  have hx':(ofB (l.take n))[((k:Nat):Int).toNat]?=some (x.toNat:Int):=by
   grind[ofB]
  have hnx:=jcs ((l.take n).take k) x
  rw[←J2 hx] at hnx
  have hb:nb ((l.take n).take k)<72057594037927936:=by
   have h1:=jb7 ((l.take n).take k)
   have h2:((l.take n).take k).length≤7:=by grind
   have h3:256^((l.take n).take k).length≤256^7:=Nat.pow_le_pow_right (by omega) h2
   omega
  have hor:=jdz (c:=x) hb
  have hx8:=x.toNat_lt
  refine zhq ?_;refine zU ?_;refine zZ ?_;refine zkw ?_;refine zj ?_;refine znJ ?_;rw[hor,←hnx];refine zhs ?_;exact zee
 ·have hlt': ¬((k:Nat):Int)<(((ofB (l.take n)).length:Nat):Int):=by omega
  obtain rfl:n=k:=by omega
  have ht:(l.take n).take n=l.take n:=List.take_of_length_le (by omega)
  rw[ht];refine zhv ?_;exact zk5
theorem rnumber_P (hR:RdR w0 A v l) (hn:l.length<n):Jx Tryz.prog w0 123 [.pointer (some ⟨r,0,none⟩), .int .i64 (n:Nat)] ((r,cells [v] 166)::A) Jp (fun H'=>H'=(r,cells [v] 166)::A):=by
 refine zmq ?_;refine zg4 ?_;refine zcB ?_;refine zmr ?_;rintro _ rfl
 repeat (first|refine KE.passP ?_|refine KE.blkP ?_)
 exact za7
end
section
variable {w0 : World} {A B : jb} {r n : Nat} {v : Value} {l : List UInt8}
theorem jdM (c:UInt8) (l:List UInt8):nb ((c::l).take 1)=c.toNat:=by simp[nb]
theorem jbY {k:Nat} (l:List UInt8):nb (l.take k)<256^k:=by
 have h1:=jb7 (l.take k)
 have h2:(l.take k).length≤k:=List.length_take_le _ _
 exact zms
theorem jdL (hR:RdR w0 A v l) (hn:1≤l.length) (hp:Part B A):Call Tryz.prog w0 92 [.pointer (some ⟨r,0,none⟩)] ((r,cells [v] 166)::B) (fun res H'=> ∃ v',RdR w0 A v' (l.drop 1)∧res= .int .u8 (nb (l.take 1):Nat)∧H'=(r,cells [v'] 166)::B):=by
 have hN:=ja3 (r:=r) (n:=1) hR hn (by decide) hp
 have hb:=jbY (k:=1) l
 obtain⟨z,hz⟩: ∃ z,nb (l.take 1)=z:=⟨_,rfl⟩
 rw[hz] at hN hb⊢
 have hb2:z<256:=hb
 refine zmt ?_;refine zdc ?_;rintro _ _ ⟨v',hD,rfl,rfl⟩;exact zgG
theorem reight_K (hR:RdR w0 A v l) (hn:8≤l.length) (hp:Part B A):Call Tryz.prog w0 93 [.pointer (some ⟨r,0,none⟩)] ((r,cells [v] 166)::B) (fun res H'=> ∃ v',RdR w0 A v' (l.drop 8)∧res= .int .u64 (nb (l.take 8):Nat)∧H'=(r,cells [v'] 166)::B):=by
 have hN:=ja3 (r:=r) (n:=8) hR hn (by decide) hp
 obtain⟨z,hz⟩: ∃ z,nb (l.take 8)=z:=⟨_,rfl⟩
 rw[hz] at hN⊢;refine zmu ?_;refine zdc ?_;rintro _ _ ⟨v',hD,rfl,rfl⟩;exact zls
theorem jdy {z:Nat} (h:z<4294967296):IntKind.i32.wrap ((z:Nat):Int)=sgnP z:=by
 grind[sgnP,jdE]
theorem jdK {z:Nat} (h:z<4294967296): -2147483648≤sgnP z∧sgnP z<2147483648:=by
 grind[sgnP]
theorem rfour_K (hR:RdR w0 A v l) (hn:4≤l.length) (hp:Part B A):Call Tryz.prog w0 94 [.pointer (some ⟨r,0,none⟩)] ((r,cells [v] 166)::B) (fun res H'=> ∃ v',RdR w0 A v' (l.drop 4)∧res= .int .i64 (sgnP (nb (l.take 4)))∧H'=(r,cells [v'] 166)::B):=by
 have hN:=ja3 (r:=r) (n:=4) hR hn (by decide) hp
 have hb:=jbY (k:=4) l
 obtain⟨z,hz⟩: ∃ z,nb (l.take 4)=z:=⟨_,rfl⟩
 rw[hz] at hN hb⊢
 have hb2:z<4294967296:=hb
 have hw:=jdy hb2
 have hs:=jdK hb2
 refine zmv ?_;refine zdc ?_;rintro _ _ ⟨v',hD,rfl,rfl⟩;refine zcs ?_;rw[hw];exact zgG
theorem rone_P (hR:RdR w0 A v l) (hn:l.length<1):Jx Tryz.prog w0 92 [.pointer (some ⟨r,0,none⟩)] ((r,cells [v] 166)::A) Jp (fun H'=>H'=(r,cells [v] 166)::A):=by
 refine zmw ?_;refine zdk ?_;rintro _ rfl
 repeat (first|refine KE.passP ?_|refine KE.blkP ?_)
 exact za7
theorem reight_P (hR:RdR w0 A v l) (hn:l.length<8):Jx Tryz.prog w0 93 [.pointer (some ⟨r,0,none⟩)] ((r,cells [v] 166)::A) Jp (fun H'=>H'=(r,cells [v] 166)::A):=by
 refine zmx ?_;refine zdk ?_;rintro _ rfl
 repeat (first|refine KE.passP ?_|refine KE.blkP ?_)
 exact za7
theorem rfour_P (hR:RdR w0 A v l) (hn:l.length<4):Jx Tryz.prog w0 94 [.pointer (some ⟨r,0,none⟩)] ((r,cells [v] 166)::A) Jp (fun H'=>H'=(r,cells [v] 166)::A):=by
 refine zmy ?_;refine zdk ?_;rintro _ rfl
 repeat (first|refine KE.passP ?_|refine KE.blkP ?_)
 exact za7
end
theorem jbS (b2 b3:Nat):FitK 17 [] [(0, .pointer (some ⟨b2,0,none⟩)),(1, .pointer (some ⟨b3,0,none⟩))] {tmps:= #[.pointer (some ⟨b2,0,none⟩), .pointer (some ⟨b3,0,none⟩)]++Array.replicate (Tryz.f91.ntmps-2) undef,defers:=[]}:=
 jdC (args:=[.pointer (some ⟨b2,0,none⟩), .pointer (some ⟨b3,0,none⟩)]) rfl rfl ⟨rfl,rfl,trivial⟩
theorem get1_R {w0 w:World} {H:jb} {b2 b3:Nat} (hw:HF w0 H w):CallsDIn (fen none) 0 Tryz.prog 91 #[.pointer (some ⟨b2,0,none⟩), .pointer (some ⟨b3,0,none⟩)] .returning w (fun e u' w'=>(∃ v,e= .returned v)∧u'= .returning∧HF w0 H w'):=by
 refine callsDIn_of_wpSIn Tryz.func91 rfl trivial fun c₀ cs hu=>?_
 refine zfW ?_
 have hrec:recoverD (c₀::cs)=none:=by simp[recoverD,hu]
 have e1 : ∀ ρ : Operand → Value, (execOp ρ ⟨some 5, .call { callee := .builtin .recover, args := #[], argTypes := #[] }, 20, "raw.go:69", #[], none⟩).run Tryz.prog w = .ok .recover w := by
  intro ρ
  rfl
 have e2 : ∀ a : Act, (execOp a.eval ⟨some 2, .assign (.tmp 5), 20, "raw.go:69", #[⟨0, .data⟩, ⟨0, .chain⟩, ⟨0, .phase⟩], none⟩).run Tryz.prog w = .ok (.value (a.eval (.tmp 5))) w := by
  intro a
  rfl
 have hr:List.range 2=[0,1]:=rfl
 refine zgI ?_
 have h1:=(jbS b2 b3).put (d:=5) rfl .nilIface
 have h2:=h1.put (d:=2) rfl .nilIface
 rw[show(Act.put _ (some 5) .nilIface).eval (.tmp 5)= .nilIface from h1.eval rfl];refine zmz ?_;refine zaF ?_;refine zmA ?_;refine zaR ?_;refine zfy ?_;refine zaS ?_
 refine .mk fun a w' ha hw'=>?_
 exact zmB
theorem get1_P {w0 w:World} {H:jb} {b2 b3:Nat} {a0 a2 a8 a3 a6 a1 a4 a5 a7 e0:Int} (hw:HF w0 ((b2,cells [.int .u8 a0, .int .i64 a1, .int .u8 a2, .int .u64 a3, .int .i64 a4, .int .i64 a5, .int .u64 a6, .int .i64 a7, .int .u8 a8] 91)::(b3,cells [.int .i64 e0] 30)::H) w):CallsDIn (fen none) 0 Tryz.prog 91 #[.pointer (some ⟨b2,0,none⟩), .pointer (some ⟨b3,0,none⟩)] (.panicking (chP Jp)) w (fun e u' w'=>(∃ v,e= .returned v)∧settle u'= .returning∧HF w0 ((b2,cells [.int .u8 0, .int .i64 0, .int .u8 0, .int .u64 0, .int .i64 0, .int .i64 0, .int .u64 0, .int .i64 0, .int .u8 0] 91)::(b3,cells [.int .i64 250] 30)::H) w'):=by
 unfold Jp
 refine callsDIn_of_wpSIn Tryz.func91 rfl trivial fun c₀ cs hu=>?_
 refine zfW ?_
 have hrec:recoverD (c₀::cs)=some (.iface 161 (.agg [].toArray),{c₀ with mode:= .panicking [{v:= .iface 161 (.agg [].toArray),recovered:=true}]}::cs):=by simp[recoverD,hu,chP]
 have e1 : ∀ ρ : Operand → Value, (execOp ρ ⟨some 5, .call { callee := .builtin .recover, args := #[], argTypes := #[] }, 20, "raw.go:69", #[], none⟩).run Tryz.prog w = .ok .recover w := by
  intro ρ
  rfl
 have e2 : ∀ a : Act, (execOp a.eval ⟨some 2, .assign (.tmp 5), 20, "raw.go:69", #[⟨0, .data⟩, ⟨0, .chain⟩, ⟨0, .phase⟩], none⟩).run Tryz.prog w = .ok (.value (a.eval (.tmp 5))) w := by
  intro a
  rfl
 have hr:List.range 2=[0,1]:=rfl
 refine zgI ?_
 have h1:=(jbS b2 b3).put (d:=5) rfl (.iface 161 (.agg [].toArray))
 have h2:=h1.put (d:=2) rfl (.iface 161 (.agg [].toArray))
 rw[show(Act.put _ (some 5) (.iface 161 (.agg [].toArray))).eval (.tmp 5)=(.iface 161 (.agg [].toArray)) from h1.eval rfl];refine zmC ?_;refine zaF ?_;refine zmD ?_;refine zez ?_;refine zmE ?_;refine zaO ?_;intro b3;refine zy ?_;refine zdn ?_;refine zcQ ?_;refine zdW ?_
 refine .mk fun a w' ha hw'=>?_
 exact zmF
def enL (x:EnP):List Value:=[.int .u8 (x.k:Nat), .int .i64 x.t, .int .u8 (x.o.c:Nat), .int .u64 (x.o.h:Nat), .int .i64 x.o.a, .int .i64 x.o.b, .int .u64 (x.o.v:Nat), .int .i64 x.w, .int .u8 (x.u:Nat)]
def enV (x:EnP):Value:= .agg (enL x).toArray
theorem Jg {l:List UInt8} (h1: ¬(l.length=3∧l[0]?=some 2)) (h2: ¬(l.length=27∧l[0]?=some 1)):jo l=none:=by
 grind[jo]
theorem J3 {l:List UInt8} (h1:l.length≠3) (h2:l.length≠27):jo l=none:=Jg (fun q=>h1 q.1) (fun q=>h2 q.1)
theorem jb1 {a b:UInt8} (h:a≠b): ¬a.toNat=b.toNat:=fun e=>h (UInt8.toNat.inj e)
section
variable {w0 : World} {A B H : jb} {r n : Nat} {v : Value} {l : List UInt8} {c : UInt8}
theorem rone_C (hR:RdR w0 A v (c::l)) (hp:Part B A):Call Tryz.prog w0 92 [.pointer (some ⟨r,0,none⟩)] ((r,cells [v] 166)::B) (fun res H'=> ∃ v',RdR w0 A v' l∧res= .int .u8 (c.toNat:Nat)∧H'=(r,cells [v'] 166)::B):=by
 have:=jdL (r:=r) hR (by grind) hp
 rw[jdM,List.drop_succ_cons,List.drop_zero] at this;exact this
theorem jdN (t c:UInt8) (l:List UInt8) (h:l.length=24):jo (1::t::c::l)=some ⟨1,(t.toNat:Nat),⟨c.toNat,nb (l.take 8),sgnP (nb ((l.drop 8).take 4)),sgnP (nb (((l.drop 8).drop 4).take 4)),nb ((((l.drop 8).drop 4).drop 4).take 8)⟩,0,0⟩:=by
 unfold jo;rw[if_neg (by grind),if_pos ⟨by grind,rfl⟩];simp only[List.drop_drop]
 rfl
theorem jdB (t c:UInt8) (l:List UInt8) (h:l.length=0):jo (2::t::c::l)=some ⟨2,0,op0,(t.toNat:Nat),c.toNat⟩:=by
 unfold jo;rw[if_pos ⟨by grind,rfl⟩]
 rfl
set_option maxHeartbeats 4000000 in
theorem jdG {l:List UInt8} (hl:l.length≤4294967296):Call Tryz.prog w0 65 [.string (strB l)] H (fun r H'=>r= .tuple [enV (enA l), .int .i64 (if (jo l).isSome=true then 0 else 250)].toArray∧H'=H):=by
 have hml:l.length≤maxLen:=Nat.le_trans hl (by decide)
 refine zmG ?_;refine zbx ?_;intro b2;refine zbe ?_;intro b3;refine za3 ?_;refine za4 ?_;refine za5 ?_;refine KL.deferC rfl ?_;refine za3 ?_
 skip
 refine zZ ?_;refine KL.e rfl (Eff.convSB1 rfl rfl rfl hml) ?_;rintro _ _ ⟨b7,arr7,e7,fr7,va,vn,vc,rfl,rfl,hsl7⟩
 have hR0:RdR w0 [(b7, .cells arr7 e7 fr7)] (.slice va vn vc) l:=⟨hsl7,rfl,rfl,hl⟩
 clear hsl7;refine zci ?_;intro b9;refine zU ?_
 cases l with
 |nil=>
  have hno:jo []=none:=J3 (by decide) (by decide)
  refine zZ ?_;refine zmI ?_;rintro _ rfl
  repeat (first|refine KE.passP ?_|refine KE.blkP ?_)
  exact zE
 |cons k l1=>
  refine zeq ?_;refine zmJ ?_;rintro _ _ ⟨v1,hR1,rfl,rfl⟩
  have hk8:=k.toNat_lt
  by_cases h1:k=1
  ·skip
   subst h1
   have e1:(((1:UInt8).toNat:Nat):Int)=1:=rfl
   simp only[e1]
   cases l1 with
   |nil=>
    have hno:jo [1]=none:=J3 (by decide) (by decide)
    refine zgh ?_;refine zZ ?_;refine zmK ?_;rintro _ rfl
    repeat (first|refine KE.passP ?_|refine KE.blkP ?_)
    exact zE
   |cons t l2=>
    refine zgh ?_;refine zeq ?_;refine zmL ?_;rintro _ _ ⟨v2,hR2,rfl,rfl⟩
    have ht8:=t.toNat_lt
    cases l2 with
    |nil=>
     have hno:jo [1,t]=none:=J3 (by simp) (by simp)
     refine zdr ?_;refine zdQ ?_;refine zdb ?_;refine zmM ?_;rintro _ rfl
     repeat (first|refine KE.passP ?_|refine KE.blkP ?_)
     exact zE
    |cons c l3=>
     have hl3:(1::t::c::l3).length=l3.length+3:=by simp only[List.length_cons]
     by_cases h8:8≤l3.length
     ·(refine KL.v rfl (Val.conv rfl rfl rfl (by simp only [qL, qH]; omega)) ?_)
      refine zga ?_;rintro _ _ ⟨v3,hR3,rfl,rfl⟩;refine zn ?_;refine zmN ?_;rintro _ _ ⟨v4,hR4,rfl,rfl⟩
      have hl4:(l3.drop 8).length=l3.length-8:=List.length_drop
      by_cases h12:4≤(l3.drop 8).length
      ·(refine KL.v rfl (Val.fieldAddr0 (k := 2) rfl rfl) ?_)
       refine zf7 ?_;refine ze8 ?_;refine zmO ?_;rintro _ _ ⟨v5,hR5,rfl,rfl⟩
       have hl5:((l3.drop 8).drop 4).length=(l3.drop 8).length-4:=List.length_drop
       by_cases h16:4≤((l3.drop 8).drop 4).length
       ·(refine KL.v rfl (Val.move rfl) ?_)
        refine zp ?_;refine zmP ?_;rintro _ _ ⟨v6,hR6,rfl,rfl⟩
        have hl6:(((l3.drop 8).drop 4).drop 4).length=((l3.drop 8).drop 4).length-4:=List.length_drop
        by_cases h24:8≤(((l3.drop 8).drop 4).drop 4).length
        ·(refine KL.v rfl (Val.fieldAddr0 (k := 2) rfl rfl) ?_)
         refine zfY ?_;refine ze8 ?_;refine zmQ ?_;rintro _ _ ⟨v7,hR7,rfl,rfl⟩
         have hl7:((((l3.drop 8).drop 4).drop 4).drop 8).length=(((l3.drop 8).drop 4).drop 4).length-8:=List.length_drop
         have hob:=J7 ((((l3.drop 8).drop 4).drop 4).drop 8)
         have hS7:=hR7.sl
         have ho7:=hR7.one
         by_cases h27:l3.length=24
         ·have hgt: ¬(((ofB ((((l3.drop 8).drop 4).drop 4).drop 8)).length:Nat):Int)>0:=by omega
          have hyes:=jdN t c l3 h27
          refine zfX ?_;exact zfZ
         ·have hgt:(((ofB ((((l3.drop 8).drop 4).drop 4).drop 8)).length:Nat):Int)>0:=by omega
          have hno:jo (1::t::c::l3)=none:=Jg (fun q=>by have:=q.2;simp at this) (fun q=>by have:=q.1;omega)
          refine zfX ?_;refine zf0 ?_
          repeat (first|refine KE.passP ?_|refine KE.blkP ?_)
          exact zE
        ·have hno:jo (1::t::c::l3)=none:=Jg (fun q=>by have:=q.2;simp at this) (fun q=>by have:=q.1;omega)
         refine zaz ?_;refine zfY ?_;refine zdb ?_;refine zmR ?_;rintro _ rfl
         repeat (first|refine KE.passP ?_|refine KE.blkP ?_)
         exact zE
       ·have hno:jo (1::t::c::l3)=none:=Jg (fun q=>by have:=q.2;simp at this) (fun q=>by have:=q.1;omega)
        refine zj ?_;refine zmS ?_;rintro _ rfl
        repeat (first|refine KE.passP ?_|refine KE.blkP ?_)
        exact zE
      ·have hno:jo (1::t::c::l3)=none:=Jg (fun q=>by have:=q.2;simp at this) (fun q=>by have:=q.1;omega)
       refine zaz ?_;refine zf7 ?_;refine zdb ?_;refine zmT ?_;rintro _ rfl
       repeat (first|refine KE.passP ?_|refine KE.blkP ?_)
       exact zE
     ·have hno:jo (1::t::c::l3)=none:=Jg (fun q=>by have:=q.2;simp at this) (fun q=>by have:=q.1;omega)
      refine zdr ?_;refine zga ?_;rintro _ _ ⟨v3,hR3,rfl,rfl⟩;refine zj ?_;refine zmU ?_;rintro _ rfl
      repeat (first|refine KE.passP ?_|refine KE.blkP ?_)
      exact zE
  ·by_cases h2:k=2
   ·skip
    subst h2
    have e1:(((2:UInt8).toNat:Nat):Int)=2:=rfl
    simp only[e1]
    cases l1 with
    |nil=>
     have hno:jo [2]=none:=J3 (by decide) (by decide)
     refine zll ?_;refine zZ ?_;refine zmV ?_;rintro _ rfl
     repeat (first|refine KE.passP ?_|refine KE.blkP ?_)
     exact zE
    |cons t l2=>
     have ht8:=t.toNat_lt
     cases l2 with
     |nil=>
      have hno:jo [2,t]=none:=J3 (by simp) (by simp)
      refine zgb ?_;rintro _ _ ⟨v2,hR2,rfl,rfl⟩;refine zcs ?_;refine zj ?_;refine zmW ?_;rintro _ rfl
      repeat (first|refine KE.passP ?_|refine KE.blkP ?_)
      exact zE
     |cons c l3=>
      refine zgb ?_;rintro _ _ ⟨v2,hR2,rfl,rfl⟩;refine zcs ?_;refine zn ?_;refine zmX ?_;rintro _ _ ⟨v3,hR3,rfl,rfl⟩
      have hob:=J7 l3
      have hS3:=hR3.sl
      have ho3:=hR3.one
      by_cases h3:l3.length=0
      ·have hgt: ¬(((ofB l3).length:Nat):Int)>0:=by omega
       have hyes:=jdB t c l3 h3
       refine zf8 ?_;exact zfZ
      ·have hgt:(((ofB l3).length:Nat):Int)>0:=by omega
       have hno:jo (2::t::c::l3)=none:=Jg (fun q=>h3 (by have:=q.1;simp only[List.length_cons] at this;omega)) (fun q=>by have:=q.2;simp at this)
       refine zf8 ?_;refine zf0 ?_
       repeat (first|refine KE.passP ?_|refine KE.blkP ?_)
       exact zE
   ·have hn1: ¬((k.toNat:Nat):Int)=1:=fun e=>jb1 (b:=1) h1 (by show k.toNat=1;omega)
    have hn2: ¬((k.toNat:Nat):Int)=2:=fun e=>jb1 (b:=2) h2 (by show k.toNat=2;omega)
    have hno:jo (k::l1)=none:=Jg (fun q=>h2 (by have:=q.2;simpa using this)) (fun q=>h1 (by have:=q.2;simpa using this))
    refine zdY ?_;refine zgl ?_;refine zt ?_;refine zkA ?_;refine zlg ?_
    repeat (first|refine KE.passP ?_|refine KE.blkP ?_)
    exact zE
end
def stE:Enc (List UInt8):=⟨fun c=> [.string (strB c)],1,fun _=>rfl,by intro x v hv;simp at hv;subst hv;rfl⟩
def longP (l:List (List UInt8)):Bool:=l.any (fun b=>decide (b.length>255))||decide (l.length>80)
theorem jeq {l:List UInt8} {k:Nat} (hl:l.length≤k):nb l<256^k:=Nat.lt_of_lt_of_le (jb7 l) (Nat.pow_le_pow_right (by omega) hl)
section
variable {w0 : World} {H : jb} {l : List UInt8}
theorem jcS (hl:l.length≤8):Call Tryz.prog w0 70 [.string (strB l)] H (fun r H'=>r= .int .u64 (nb l:Nat)∧H'=H):=by
 refine zq3 ?_;refine zav ?_;refine zbs ?_;refine zq4 ?_;rintro k hk
 by_cases hlt:k<l.length
 ·have hlt':((k:Nat):Int)<((l.length:Nat):Int):=by omega
  obtain⟨x,hx⟩:=jh (l:=l) (k:=k) hlt
  have hx':l[((k:Nat):Int).toNat]?=some x:=hx
  have hnx:=jcs (l.take k) x
  rw[←J2 hx] at hnx
  have hx8:=x.toNat_lt
  have hb:nb (l.take k)<72057594037927936:=jeq (k:=7) (by grind)
  have hnx':256*((nb (l.take k):Nat):Int)+((x.toNat:Nat):Int)=((nb (l.take (k+1)):Nat):Int):=by omega
  refine zce ?_;refine zgZ ?_;refine zI ?_;refine zkB ?_;refine zj ?_;refine zgR ?_;refine zB ?_;refine zpa ?_;refine zaT ?_;refine zaB ?_;refine zaK ?_;refine zaw ?_;refine zb9 ?_;rw[hnx'];refine zeU ?_;refine zlh ?_;exact zee
 ·have hlt': ¬((k:Nat):Int)<((l.length:Nat):Int):=by omega
  obtain rfl:l.length=k:=by omega
  rw[List.take_length];refine zce ?_;refine zgZ ?_;refine zin ?_;refine zbw ?_;exact zq
theorem jd2 (hl:l.length=4):Call Tryz.prog w0 71 [.string (strB l)] H (fun r H'=>r= .int .i64 (sgnP (nb l))∧H'=H):=by
 have hb:nb l<4294967296:=jeq (k:=4) (by omega)
 have hN:=jcS (w0:=w0) (H:=H) (l:=l) (by omega)
 unfold sgnP
 obtain⟨z,hz⟩: ∃ z,nb l=z:=⟨_,rfl⟩
 rw[hz] at hb hN⊢
 by_cases h31:z<2147483648
 ·have hge: ¬((z:Nat):Int)≥2147483648:=by omega
  rw[if_pos h31];refine zk6 ?_;refine zbL ?_;refine jp hN ?_;refine zaT ?_;refine zad ?_;refine zbS ?_;refine zba ?_;exact zq
 ·have hge:((z:Nat):Int)≥2147483648:=by omega
  rw[if_neg h31];refine zk6 ?_;refine zbL ?_;refine jp hN ?_;refine zaT ?_;refine zad ?_;refine zac ?_;refine zbP ?_;refine zc0 ?_;exact zaL
theorem jcX {v:Value} {ls:List (List UInt8)} (hS:Sli w0 H stE v ls):Call Tryz.prog w0 33 [v] H (fun r H'=>r= .bool (longP ls)∧H'=H):=by
 refine zmY ?_;refine zmZ ?_;intro hle;refine zG ?_;refine zbs ?_;refine zm0 ?_;rintro k ⟨hk,hc⟩
 by_cases hlt:k<ls.length
 ·have hlt':((k:Nat):Int)<((ls.length:Nat):Int):=by omega
  obtain⟨x,hx⟩:=jh (l:=ls) (k:=k) hlt
  have hx':ls[((k:Nat):Int).toNat]?=some x:=hx
  have hd:ls.drop k=x::ls.drop (k+1):=by
   obtain⟨q,e⟩:=List.getElem?_eq_some_iff.1 hx
   rw[List.drop_eq_getElem_cons q,e]
  rw[hd,List.any_cons] at hc
  by_cases h255:x.length>255
  ·have hg:((x.length:Nat):Int)>255:=by omega
   rw[decide_eq_true h255,Bool.true_or] at hc;unfold longP;rw[hc,Bool.true_or];refine zgp ?_;refine zaG ?_;refine zao ?_;refine zda ?_;exact zH
  ·have hg: ¬((x.length:Nat):Int)>255:=by omega
   rw[decide_eq_false h255,Bool.false_or] at hc;refine zgp ?_;refine zaA ?_;refine zat ?_;refine zcj ?_;exact zkZ
 ·have hlt': ¬((k:Nat):Int)<((ls.length:Nat):Int):=by omega
  rw[List.drop_eq_nil_of_le (by omega),List.any_nil] at hc;unfold longP;rw[hc,Bool.false_or]
  by_cases h80:ls.length>80
  ·have hg:((ls.length:Nat):Int)>80:=by omega
   rw[decide_eq_true h80];refine zly ?_;refine zaG ?_;exact zq
  ·have hg: ¬((ls.length:Nat):Int)>80:=by omega
   refine znR ?_;refine zaA ?_;exact zq
theorem jfg (hl:l.length≤4294967296):Call Tryz.prog w0 41 [.string (strB l)] H (fun r H'=>r= .tuple [enV (enA l), .int .i64 (if (jo l).isSome=true then 0 else 250)].toArray∧H'=H):=by
 by_cases h3:l.length=3∧l[0]?=some 2
 ·obtain⟨h3,h30⟩:=h3
  have e3:((l.length:Nat):Int)=3:=by omega
  obtain⟨t,ht⟩:=jh (l:=l) (k:=1) (by omega)
  obtain⟨c,hc⟩:=jh (l:=l) (k:=2) (by omega)
  have ht8:=t.toNat_lt
  have h30':l[(0:Int).toNat]?=some 2:=h30
  have ht':l[(1:Int).toNat]?=some t:=ht
  have hc':l[(2:Int).toNat]?=some c:=hc
  have hg:jo l=some ⟨2,0,op0,(t.toNat:Nat),c.toNat⟩:=by
   grind[jo,byA]
  unfold enA;rw[hg]
  have e2:(((2:UInt8).toNat:Nat):Int)=2:=rfl
  refine zj7 ?_;intro b2;refine zeG ?_;refine ziG ?_;refine zhZ ?_;refine zq5 ?_;refine zo ?_;refine zk7 ?_;refine zq6 ?_;refine zo ?_;refine zk7 ?_;refine zbT ?_;refine zfs ?_;refine zaS ?_;exact zH
 ·by_cases h27:l.length=27∧l[0]?=some 1
  ·obtain⟨h27,h10⟩:=h27
   have e3: ¬((l.length:Nat):Int)=3:=by omega
   have e27:((l.length:Nat):Int)=27:=by omega
   obtain⟨t,ht⟩:=jh (l:=l) (k:=1) (by omega)
   obtain⟨c,hc⟩:=jh (l:=l) (k:=2) (by omega)
   have ht8:=t.toNat_lt
   have h10':l[(0:Int).toNat]?=some 1:=h10
   have ht':l[(1:Int).toNat]?=some t:=ht
   have hc':l[(2:Int).toNat]?=some c:=hc
   have e1:(((1:UInt8).toNat:Nat):Int)=1:=rfl
   have d1:(l.take (11:Int).toNat).drop (3:Int).toNat=(l.drop 3).take 8:=by rw[show(11:Int).toNat=11 from rfl,show(3:Int).toNat=3 from rfl,List.drop_take]
   have d2:(l.take (15:Int).toNat).drop (11:Int).toNat=(l.drop 11).take 4:=by rw[show(15:Int).toNat=15 from rfl,show(11:Int).toNat=11 from rfl,List.drop_take]
   have d3:(l.take (19:Int).toNat).drop (15:Int).toNat=(l.drop 15).take 4:=by rw[show(19:Int).toNat=19 from rfl,show(15:Int).toNat=15 from rfl,List.drop_take]
   have d4:l.drop (19:Int).toNat=(l.drop 19).take 8:=by rw[show(19:Int).toNat=19 from rfl,List.take_of_length_le (by grind)]
   have hg:jo l=some ⟨1,(t.toNat:Nat),⟨c.toNat,nb ((l.drop 3).take 8),sgnP (nb ((l.drop 11).take 4)),sgnP (nb ((l.drop 15).take 4)),nb ((l.drop 19).take 8)⟩,0,0⟩:=by
    grind[jo,byA,nbA]
   have n1:=fun A=>jcS (w0:=w0) (H:=A) (l:=(l.drop 3).take 8) (List.length_take_le _ _)
   have n2:=fun A=>jd2 (w0:=w0) (H:=A) (l:=(l.drop 11).take 4) (by grind)
   have n3:=fun A=>jd2 (w0:=w0) (H:=A) (l:=(l.drop 15).take 4) (by grind)
   have n4:=fun A=>jcS (w0:=w0) (H:=A) (l:=(l.drop 19).take 8) (List.length_take_le _ _)
   unfold enA;rw[hg];rw[←d1] at n1;rw[←d2] at n2;rw[←d3] at n3;rw[←d4] at n4;simp only[←d1,←d2,←d3,←d4];refine zho ?_;intro b2;refine zeG ?_;refine ziG ?_;refine zhZ ?_;refine zq7 ?_;refine zP ?_;refine zk8 ?_;refine zhO ?_;refine zP ?_;refine zk8 ?_;refine zo ?_;refine zq8 ?_;refine zP ?_;refine zk9 ?_;refine zP ?_;refine zk9 ?_;refine zrR ?_;refine zk fun T hT=>?_;refine(CallV.fn (n1 _)).mono ?_;rintro _ _ ⟨rfl,rfl⟩;refine zi ?_;clear hT T;refine zk fun T hT=>?_;refine(CallV.fn (n2 _)).mono ?_;rintro _ _ ⟨rfl,rfl⟩;refine zi ?_;clear hT T;refine zk fun T hT=>?_;refine(CallV.fn (n3 _)).mono ?_;rintro _ _ ⟨rfl,rfl⟩;refine zi ?_;clear hT T;refine zk fun T hT=>?_;refine(CallV.fn (n4 _)).mono ?_;rintro _ _ ⟨rfl,rfl⟩;refine zi ?_;clear hT T;refine zbT ?_;refine zbT ?_;refine zfs ?_;refine zaS ?_;exact zH
  ·have hg:jo l=none:=Jg h3 h27
   unfold enA;rw[hg]
   by_cases e3:l.length=3
   ·have e3':((l.length:Nat):Int)=3:=by omega
    have e27': ¬((l.length:Nat):Int)=27:=by omega
    obtain⟨x,hx⟩:=jh (l:=l) (k:=0) (by omega)
    have hx':l[(0:Int).toNat]?=some x:=hx
    have hx2: ¬((x.toNat:Nat):Int)=2:=fun e=>h3 ⟨e3,by rw[hx];exact congrArg some (UInt8.toNat.inj (by grind))⟩
    refine zj7 ?_;intro b2;refine zeG ?_;refine ziB ?_;refine zez ?_;refine zj5 ?_;exact zhd
   ·have e3': ¬((l.length:Nat):Int)=3:=by omega
    by_cases e27:l.length=27
    ·have e27':((l.length:Nat):Int)=27:=by omega
     obtain⟨x,hx⟩:=jh (l:=l) (k:=0) (by omega)
     have hx':l[(0:Int).toNat]?=some x:=hx
     have hx1: ¬((x.toNat:Nat):Int)=1:=fun e=>h27 ⟨e27,by rw[hx];exact congrArg some (UInt8.toNat.inj (by grind))⟩
     refine zho ?_;intro b2;refine zeG ?_;refine ziB ?_;exact zhd
    ·have e27': ¬((l.length:Nat):Int)=27:=by omega
     refine zho ?_;intro b2;refine zj5 ?_;exact zhd
end
def sqL (s:SnP):List Value:=[.int .i64 s.e, .int .u64 (s.h:Nat), .int .u64 s.w, .int .i64 s.addr, .int .i64 s.used, .int .i64 s.since, .int .i64 s.cyc, .bool s.act]
def sqE:Enc SnP:=⟨sqL,8,fun _=>rfl,by intro x v hv;simp[sqL] at hv;rcases hv with rfl|rfl|rfl|rfl|rfl|rfl|rfl|rfl<;>rfl⟩
structure MtO where
 k:Nat
 o:Own
section
variable {w0 : World} {H : jb} {v fv : Value} {l : List JI}
theorem wOf1_K {b:Nat} {t:Int} (x:JI) (hc:jJ w0 H ⟨b,0,none⟩ (.int .i64 t)):
  Call Tryz.prog w0 96 [.agg (wtL x).toArray, .pointer (some ⟨b,0,none⟩)] H (fun r H'=>r= .tuple #[.agg (sqL x.s).toArray, .bool (decide (x.t=t))]∧H'=H):=by
 obtain⟨xt,⟨e,h,w,addr,us,si,cy,ac⟩⟩:=x
 unfold wtL sqL;dsimp only;refine zpb ?_;refine zbc ?_;intro b2 b3;refine zdK ?_;refine zpc ?_;refine zlP ?_;refine zlY ?_;refine zcX ?_;refine zp3 ?_;refine zfs ?_;exact zH
theorem jeC {t:Int} {k:Nat} {x:JI} (h:l[k]?=some x):ofW (l.take (k+1)) t=ofW (l.take k) t++(if x.t=t then [x.s] else []):=by
 rw[J2 h,jcV,jea]
theorem jbV {t:Int} {k:Nat}:(ofW (l.take k) t).length≤k:=by
 grind[ofW]
theorem wpicked_K {t:Int} (hS:Sli w0 H wtE v l) (hl:l.length≤100000)
  (hp: ∀ A,Part A H→ ∀ x:JI,CallV Tryz.prog w0 fv [.agg (wtL x).toArray] A (fun r H'=>r= .tuple #[.agg (sqL x.s).toArray, .bool (decide (x.t=t))]∧H'=A)):
  Call Tryz.prog w0 95 [v,fv] H (fun r H'=> ∃ o,oOk sqE (ofW l t) o∧r=oV o (ofW l t).length∧H'=oH sqE 43 (ofW l t) o++H):=by
 refine zpd ?_;refine zav ?_;refine zad ?_;refine zcm ?_;refine zpe ?_;rintro⟨k,o⟩ ⟨hk,ok⟩;dsimp only at hk ok⊢
 by_cases hlt:k<l.length
 ·have hlt':((k:Nat):Int)<((l.length:Nat):Int):=by omega
  obtain⟨x,hx⟩:=jh hlt
  have hsn:=jeC (t:=t) hx
  have hfl:=jbV (l:=l) (t:=t) (k:=k)
  have hfl2:(ofW (l.take k) t).length+1≤4294967296:=by omega
  have hfl3:(ofW (l.take (k+1)) t).length≤4294967296:=Nat.le_trans (jbV (l:=l) (t:=t) (k:=k+1)) (by omega)
  have hp1:=fun A hA=>hp A hA x
  obtain⟨xt,⟨e,h,w,addr,us,si,cy,ac⟩⟩:=x
  have hx':l[((k:Nat):Int).toNat]?=some ⟨xt,⟨e,h,w,addr,us,si,cy,ac⟩⟩:=hx
  unfold wtL sqL at hp1;dsimp only at hp1 hsn
  by_cases hpx:xt=t
  ·rw[if_pos hpx] at hsn;rw[decide_eq_true hpx] at hp1;refine zhw ?_;intro b7;refine zcY fun T hT=>?_;refine zh3 ?_;rintro _ _ ⟨rfl,rfl⟩;refine ze ?_;clear hT T;refine zaO ?_;intro b8;refine znr ?_;refine zk3 ?_;refine zar ?_;intro b25;refine KL.e rfl (Eff.appZ (E:=sqE) (xs:=ofW (l.take k) t) (o:=o) (ys:=[⟨e,h,w,addr,us,si,cy,ac⟩]) (zs:=ofW (l.take (k+1)) t) rfl rfl rfl rfl rfl rfl jj (by assumption) (by first|exact Sli.blk ju rfl (by first|decide|simp) (by first|decide|(unfold maxLen;omega)) rfl|exact Sli.old (by assumption)|exact Sli.own jj (by assumption) jF|assumption|exact Sli.part (by assumption) ja) (hsn.symm) (by first|assumption|omega|(simp<;>fail)|(simp;omega)) rfl) ?_;rintro _ _ ⟨o',ok',rfl,rfl⟩;refine zaK ?_;refine zb0 ?_;exact zpf
  ·rw[if_neg hpx,List.append_nil] at hsn;rw[decide_eq_false hpx] at hp1;rw[←hsn] at ok⊢;refine zhw ?_;intro b7;refine zcY fun T hT=>?_;refine zh3 ?_;rintro _ _ ⟨rfl,rfl⟩;refine ze ?_;clear hT T;refine zaO ?_;intro b8;refine zat ?_;refine zb0 ?_;exact zpg
 ·have hlt': ¬((k:Nat):Int)<((l.length:Nat):Int):=by omega
  obtain rfl:l.length=k:=by omega
  rw[List.take_length] at ok⊢;refine zhv ?_;exact zg0
theorem traceOf_K {t:Int} (hS:Sli w0 H wtE v l) (hl:l.length≤100000):Call Tryz.prog w0 67 [v, .int .i64 t] H (fun r H'=> ∃ o,oOk sqE (ofW l t) o∧r=oV o (ofW l t).length∧H'=oH sqE 43 (ofW l t) o++H):=by
 refine zph ?_;refine zbY ?_;intro b3;refine zap ?_;refine za5 ?_;refine zp ?_;refine zpi ?_;rintro _ _ ⟨o,ok,rfl,rfl⟩;refine zm ?_;exact zg0
def sqB (x y:SnP):Bool:=decide (x.e=y.e)&&(decide (((x.h:Nat):Int)=(y.h:Nat))&&(decide (x.w=y.w)&&(decide (x.addr=y.addr)&&(decide (x.used=y.used)&&(decide (x.since=y.since)&&(decide (x.cyc=y.cyc)&&((x.act==y.act)&&true)))))))
theorem jfZ (x:SnP):sqB x x=true:=by simp[sqB]
theorem sameSeen_K {va vb:Value} {L:List SnP} (hA:Sli w0 H sqE va L) (hB:Sli w0 H sqE vb L) (hl:L.length≤100000):Call Tryz.prog w0 38 [va,vb] H (fun r H'=>r= .bool true∧H'=H):=by
 have hne: ¬((L.length:Nat):Int)≠((L.length:Nat):Int):=fun e=>e rfl
 refine zq9 ?_;refine zfu ?_;refine zaj ?_;refine zfm ?_;refine zra ?_;rintro k hk
 by_cases hlt:k<L.length
 ·have hlt':((k:Nat):Int)<((L.length:Nat):Int):=by omega
  obtain⟨x,hx⟩:=jh (l:=L) hlt
  have hb:=jfZ x
  have hx':L[((k:Nat):Int).toNat]?=some x:=hx
  refine zpX ?_;refine zbo ?_;refine zfB ?_;refine zhR ?_;refine zbo ?_;refine zfB ?_;refine zhR ?_;refine zrb ?_;refine zhl ?_;refine zcj ?_;exact zee
 ·have hlt': ¬((k:Nat):Int)<((L.length:Nat):Int):=by omega
  refine zcR ?_;refine zV ?_;exact zq
end
end Go.Proofs.YtebiafomiemgbaaGreatDoor.Sw
