/-The walker and contracts, part 10.-/
import Derived.IntWalk
import Derived.Test.YtciaccbemnpipaaGreatDoorJ4
import Derived.Test.YtciaccbemnpipaaGreatDoorJ9
set_option linter.all false
namespace Go.Proofs.YtciaccbemnpipaaGreatDoor
open Go.RowKit
def lo:IntKind->Int
 | .i8=> -128| .i16=> -32768| .i32=> -2147483648| .i64=> -9223372036854775808
 |_=>0
def hi:IntKind->Int
 | .i8=>127| .i16=>32767| .i32=>2147483647| .i64=>9223372036854775807
 | .u8=>255| .u16=>65535| .u32=>4294967295| .u64=>18446744073709551615
theorem jda {k:IntKind} {z:Int} (h:lo k<=z/\z<=hi k):k.wrap z=z:=by
 cases k<;>simp only[lo,hi] at h
 ·exact IntWalk.i8_in _ h
 ·exact IntWalk.i16_in _ h
 ·exact IntWalk.i32_in _ h
 ·exact IntWalk.i64_in _ h
 ·exact IntWalk.u8_in _ h
 ·exact IntWalk.u16_in _ h
 ·exact IntWalk.u32_in _ h
 ·exact IntWalk.u64_in _ h
def jcn (P:Program) (s:TypeId) (f:Nat):Option Nat:=
 match P.underlying s with
 |some (.struct fs)=>match fs[f]? with
  |some fd=>match P.info? fd.type with
   |some i=>if i.size=0 then none else some fd.offset
   |none=>none
  |none=>none
 |_=>none
def jhk (P:Program) (s:TypeId) (f:Nat):Option TypeId:=
 match P.underlying s with
 |some (.struct fs)=>(fs[f]?).map (·.type)
 |_=>none
def Ju (P:Program) (t:TypeId):Option Nat:=(P.info? t).map (·.size)
def Jw (P:Program) (t:TypeId):Option TypeId:=
 match P.underlying t with
 |some (.slice e)=>some e
 |_=>none
def jcI (P:Program) (t:TypeId):Option (Nat × TypeId):=
 match P.underlying t with
 |some (.array n e)=>some (n,e)
 |_=>none
def jfm (P:Program) (t:TypeId):Option IntKind:=
 match P.underlying t with
 |some (.int k)=>some k
 |_=>none
section facts
variable {P : Program} (w : World)
theorem JG {t:TypeId} {d:TypeDesc} (h:P.underlying t=some d):(underlying t).run P w= .ok d w:=by
 simp[underlying,program,Sem.run,Bind.bind,Sem.bind,h,Pure.pure]
theorem jaO {t:TypeId} {k:Nat} (h:Ju P t=some k):(sizeOf t).run P w= .ok k w:=by
 unfold Ju at h
 obtain⟨i,hi,rfl⟩:=Option.map_eq_some_iff.1 h
 simp[sizeOf,typeInfo,program,Sem.run,Bind.bind,Sem.bind,hi,Pure.pure]
theorem jeB {s:TypeId} {f k:Nat} {a:Addr} (h:jcn P s f=some k):(Instr.fieldAt s (.pointer (some a)) f).run P w= .ok (.pointer (some (a.add k))) w:=by
 unfold jcn at h
 split at h
 ·rename_i fs hu
  split at h
  ·rename_i fd hf
   split at h
   ·rename_i i hi
    split at h
    ·cases h
    ·rename_i hz
     cases h
     have hz':=jaO (P:=P) w (t:=fd.type) (k:=i.size) (by simp[Ju,hi])
     simp[Instr.fieldAt,JG w hu,hf,Instr.sureAddr,fieldPlace,hz',hz]
   ·cases h
  ·cases h
 ·cases h
end facts
theorem jez {P:Program} {t:TypeId} (w:World) {cs:Array Value} {off:Nat} {v:Value} (h1:oneB P t=true) (hv:cs[off]?=some v):(part t cs off).run P w= .ok v w:=by
 simp only[oneB,Bool.and_eq_true,Bool.not_eq_true'] at h1
 have:=jeA (P:=P) w h1.1 h1.2
 simp[part,this,hv]
theorem jf6 {P:Program} {t:TypeId} (w:World) {cs:Array Value} {off k:Nat} (h1:jbI P t=true) (hs:Ju P t=some k):(part t cs off).run P w= .ok (.agg (cs.extract off (off+k))) w:=by
 have hu:(P.underlying t).isSome=true:=by unfold jbI at h1;cases hu:P.underlying t<;>simp_all
 have:=jeA (P:=P) w hu h1
 simp[part,this,jaO w hs]
structure Val (P:Program) (w0:World) (H:jb) (m:jo) (ty:TypeId) (op:Op) (v:Value):Prop where
 cv:jB m op=true
 run: ∀ w d pos af g,HF w0 H w->(execOp (evS m) ⟨d,op,ty,pos,af,g⟩).run P w= .ok (.value v) w
section
variable {P : Program} {w0 : World} {ro : Option Nat} {n : Nat} {Q : Exit -> Act -> World -> Prop} {ds : List Deferred} {m : jo} {H R : jb}
variable {ops : Array Oper} {rest : List Oper} {op : Op} {ty : TypeId} {pos : String} {af : Array Edge} {ord : Ord}
theorem KL.v {d:Nat} {v:Value} (hd:Nat.blt d n=true) (hv:Val P w0 H m ty op v) (h:KL P w0 ro n ops rest Q ds ((d,v)::m) H):KL P w0 ro n ops (⟨some d,op,ty,pos,af,none⟩::rest) Q ds m H:=
 KL.val hd hv.cv (fun w hw=>hv.run w _ _ _ _ hw) h
theorem KL.yes {d:Option Nat} {g e:Nat} {b:Bool} (he:(ops[g]?).bind (·.dst)=some e) (hv:look m e=some (.bool b)) (h:KL P w0 ro n ops (⟨d,op,ty,pos,af,none⟩::rest) Q ds m H):
  KL P w0 ro n ops (⟨d,op,ty,pos,af,some (g,b)⟩::rest) Q ds m H:= .mk fun a w ha hw=>by
 have:=h.out a w ha hw
 unfold wpListIn at this|-
 rw[if_pos (by simp[Region.wanted])] at this
 rw[if_pos (by simp only[Region.wanted];rw [ha.yielded he hv];simp)]
 exact this
theorem KD.v0 {i d:Nat} {v:Value} (hi:ops[i]?=some ⟨some d,op,ty,pos,af,none⟩) (hd:Nat.blt d n=true) (hv:Val P w0 H m ty op v) (h:KD P w0 ro n ops R ord Q ds ((d,v)::m) H):KD P w0 ro n ops R ((i,0)::ord) Q ds m H:=
 KD.reads hi rfl (fun a ha=> .inl ⟨by simp[Region.wanted],fun w hw=>by rw[ha.exec (o:=⟨some d,op,ty,pos,af,none⟩) hv.cv];exact hv.run w _ _ _ _ hw⟩) (fun a ha=>ha.put hd v) h
theorem KD.v1 {i d:Nat} {v:Value} (hi:ops[i]?=some ⟨some d,op,ty,pos,af,none⟩) (hd:Nat.blt d n=true) (hv:Val P w0 R m ty op v) (h:KD P w0 ro n ops R ord Q ds ((d,v)::m) H):KD P w0 ro n ops R ((i,1)::ord) Q ds m H:=
 KD.reads hi rfl (fun a ha=> .inl ⟨by simp[Region.wanted],fun w hw=>by rw[ha.exec (o:=⟨some d,op,ty,pos,af,none⟩) hv.cv];exact hv.run w _ _ _ _ hw⟩) (fun a ha=>ha.put hd v) h
theorem KD.y0 {i d g e:Nat} {b:Bool} {v:Value} (hi:ops[i]?=some ⟨some d,op,ty,pos,af,some (g,b)⟩) (he:(ops[g]?).bind (·.dst)=some e) (hg:look m e=some (.bool b)) (hd:Nat.blt d n=true) (hv:Val P w0 H m ty op v) (h:KD P w0 ro n ops R ord Q ds ((d,v)::m) H):KD P w0 ro n ops R ((i,0)::ord) Q ds m H:=
 KD.reads hi rfl (fun a ha=> .inl ⟨by simp only[Region.wanted];rw [ha.yielded he hg];simp,fun w hw=>by rw[ha.exec (o:=⟨some d,op,ty,pos,af,some (g,b)⟩) hv.cv];exact hv.run w _ _ _ _ hw⟩) (fun a ha=>ha.put hd v) h
theorem KD.y1 {i d g e:Nat} {b:Bool} {v:Value} (hi:ops[i]?=some ⟨some d,op,ty,pos,af,some (g,b)⟩) (he:(ops[g]?).bind (·.dst)=some e) (hg:look m e=some (.bool b)) (hd:Nat.blt d n=true) (hv:Val P w0 R m ty op v) (h:KD P w0 ro n ops R ord Q ds ((d,v)::m) H):KD P w0 ro n ops R ((i,1)::ord) Q ds m H:=
 KD.reads hi rfl (fun a ha=> .inl ⟨by simp only[Region.wanted];rw [ha.yielded he hg];simp,fun w hw=>by rw[ha.exec (o:=⟨some d,op,ty,pos,af,some (g,b)⟩) hv.cv];exact hv.run w _ _ _ _ hw⟩) (fun a ha=>ha.put hd v) h
theorem KD.no {i k d g e:Nat} {b:Bool} (hi:ops[i]?=some ⟨some d,op,ty,pos,af,some (g,b)⟩) (hk:Nat.ble 2 k=false) (he:(ops[g]?).bind (·.dst)=some e) (hg:look m e=some (.bool (!b))) (hd:Nat.blt d n=true) (h:KD P w0 ro n ops R ord Q ds ((d,undef)::m) H):KD P w0 ro n ops R ((i,k)::ord) Q ds m H:=
 KD.reads hi hk (fun a ha=> .inr ⟨by simp only[Region.wanted];rw [ha.yielded he hg];cases b<;>rfl,rfl⟩) (fun a ha=>ha.put hd undef) h
theorem KD.noU {i k d g e:Nat} {b:Bool} (hi:ops[i]?=some ⟨some d,op,ty,pos,af,some (g,b)⟩) (hk:Nat.ble 2 k=false) (he:(ops[g]?).bind (·.dst)=some e) (hg:look m e=some undef) (hd:Nat.blt d n=true) (h:KD P w0 ro n ops R ord Q ds ((d,undef)::m) H):KD P w0 ro n ops R ((i,k)::ord) Q ds m H:=
 KD.reads hi hk (fun a ha=> .inr ⟨by simp only[Region.wanted];rw [ha.yieldedU he hg];rfl,rfl⟩) (fun a ha=>ha.put hd undef) h
theorem KD.noA {i d g e:Nat} {b:Bool} (hi:ops[i]?=some ⟨some d,op,ty,pos,af,some (g,b)⟩) (he:(ops[g]?).bind (·.dst)=some e) (hg:look m e=some (.bool (!b))) (hd:Nat.blt d n=true) (h:KD P w0 ro n ops R ord Q ds ((d,undef)::m) H):KD P w0 ro n ops R ((i,2)::ord) Q ds m H:=
 KD.skips hi (fun a ha=>by simp only[Region.wanted];rw [ha.yielded he hg];cases b<;>rfl) (fun a ha=>ha.put hd undef) h
structure Eff (P:Program) (w0:World) (H:jb) (m:jo) (ty:TypeId) (op:Op) (R:Jc):Prop where
 cv:jB m op=true
 run: ∀ w d pos af g,HF w0 H w->upI P (fun v w'=> ∃ H',HF w0 H' w'/\R v H') ((execOp (evS m) ⟨d,op,ty,pos,af,g⟩).run P w)
theorem KL.e {d:Nat} {T:Jc} (hd:Nat.blt d n=true) (he:Eff P w0 H m ty op T) (h: ∀ v H',T v H'->KL P w0 ro n ops rest Q ds ((d,v)::m) H'):KL P w0 ro n ops (⟨some d,op,ty,pos,af,none⟩::rest) Q ds m H:=
 KL.step hd he.cv fun w hw=>(he.run w _ _ _ _ hw).mono fun v w' ⟨H',hh,hT⟩=>⟨H',hh,h v H' hT⟩
theorem KL.eN {T:Jc} (he:Eff P w0 H m ty op T) (h: ∀ v H',T v H'->KL P w0 ro n ops rest Q ds m H'):KL P w0 ro n ops (⟨none,op,ty,pos,af,none⟩::rest) Q ds m H:=
 KL.stepN he.cv fun w hw=>(he.run w _ _ _ _ hw).mono fun v w' ⟨H',hh,hT⟩=>⟨H',hh,h v H' hT⟩
theorem KD.e {i d:Nat} {T:Jc} (hi:ops[i]?=some ⟨some d,op,ty,pos,af,none⟩) (hd:Nat.blt d n=true) (he:Eff P w0 H m ty op T) (h: ∀ v H',T v H'->Part H' R/\KD P w0 ro n ops R ord Q ds ((d,v)::m) H'):KD P w0 ro n ops R ((i,2)::ord) Q ds m H:=
 KD.acts hi fun a w ha hw=>⟨by simp[Region.wanted],by
  rw[ha.exec (o:=⟨some d,op,ty,pos,af,none⟩) he.cv]
  exact(he.run w _ _ _ _ hw).mono fun v w' ⟨H',hh,hT⟩=>⟨_,H',ha.put hd v,hh,(h v H' hT).1,(h v H' hT).2⟩⟩
theorem KD.eN {i:Nat} {T:Jc} (hi:ops[i]?=some ⟨none,op,ty,pos,af,none⟩) (he:Eff P w0 H m ty op T) (h: ∀ v H',T v H'->Part H' R/\KD P w0 ro n ops R ord Q ds m H'):KD P w0 ro n ops R ((i,2)::ord) Q ds m H:=
 KD.acts hi fun a w ha hw=>⟨by simp[Region.wanted],by
  rw[ha.exec (o:=⟨none,op,ty,pos,af,none⟩) he.cv]
  exact(he.run w _ _ _ _ hw).mono fun v w' ⟨H',hh,hT⟩=>⟨_,H',ha,hh,(h v H' hT).1,(h v H' hT).2⟩⟩
theorem KD.eY {i d g e:Nat} {b:Bool} {T:Jc} (hi:ops[i]?=some ⟨some d,op,ty,pos,af,some (g,b)⟩) (hge:(ops[g]?).bind (·.dst)=some e) (hg:look m e=some (.bool b)) (hd:Nat.blt d n=true) (he:Eff P w0 H m ty op T) (h: ∀ v H',T v H'->Part H' R/\KD P w0 ro n ops R ord Q ds ((d,v)::m) H'):KD P w0 ro n ops R ((i,2)::ord) Q ds m H:=
 KD.acts hi fun a w ha hw=>⟨by simp only[Region.wanted];rw [ha.yielded hge hg];simp,by
  rw[ha.exec (o:=⟨some d,op,ty,pos,af,some (g,b)⟩) he.cv]
  exact(he.run w _ _ _ _ hw).mono fun v w' ⟨H',hh,hT⟩=>⟨_,H',ha.put hd v,hh,(h v H' hT).1,(h v H' hT).2⟩⟩
theorem Eff.call {f:Operand} {as0:List Operand} {ts:Array TypeId} {fv:Value} {vs:List Value} {T:Jc} (hf:evO m f=some fv) (ha:EvL m as0 vs) (hcall:CallV P w0 fv vs H T):Eff P w0 H m ty (.call {callee:= .value f,args:=as0.toArray,argTypes:=ts}) T:=
 ⟨by simp only[jB,jbz,ha.cov,Bool.and_true];simp[Proofs.YtciaccbemnpipaaGreatDoor.cov,hf],fun w d pos af g hw=>by
  have e:(execOp (evS m) ⟨d, .call {callee:= .value f,args:=as0.toArray,argTypes:=ts},ty,pos,af,g⟩)=(do let d<-Deferred.ofValue fv vs.toArray;invoke d.target d.args:Sem Next):=by
   have e1:evS m f=fv:=by simp[evS,hf]
   simp only[execOp,resolve,List.map_toArray,ha.map,e1]
  rw[e]
  exact hcall w hw⟩
end
section
variable {P : Program} {w0 : World} {m : jo} {H F : jb} {ty : TypeId}
theorem Val.move {x:Operand} {v:Value} (hx:evO m x=some v):Val P w0 H m ty (.move x) v:=
 ⟨by simp[jB,cov,hx],fun w d pos af g _=>by simp[execOp,evS,hx]⟩
theorem Val.assign {x:Operand} {v:Value} (hx:evO m x=some v):Val P w0 H m ty (.assign x) v:=
 ⟨by simp[jB,cov,hx],fun w d pos af g _=>by simp[execOp,evS,hx]⟩
theorem Val.pickT {c x y:Operand} {v:Value} (hc:evO m c=some (.bool true)) (hx:evO m x=some v) (hy:cov m y=true):Val P w0 H m ty (.pick c x y) v:=
 ⟨by simp only[jB,hy,Bool.and_true];simp[cov,hx,hc],fun w d pos af g _=>by simp[execOp,evS,hx,hc,asBool]⟩
theorem Val.pickF {c x y:Operand} {v:Value} (hc:evO m c=some (.bool false)) (hx:cov m x=true) (hy:evO m y=some v):Val P w0 H m ty (.pick c x y) v:=
 ⟨by simp only[jB,hx,Bool.and_true];simp[cov,hy,hc],fun w d pos af g _=>by simp[execOp,evS,hy,hc,asBool]⟩
theorem Val.extract {x:Operand} {i:Nat} {vs:List Value} {v:Value} (hx:evO m x=some (.tuple vs.toArray)) (hv:vs[i]?=some v):Val P w0 H m ty (.extract x i) v:=
 ⟨by simp[jB,cov,hx],fun w d pos af g _=>by simp[execOp,evS,hx,Instr.extract,hv]⟩
theorem Val.nilCheck {x:Operand} {a:Addr} (hx:evO m x=some (.pointer (some a))):Val P w0 H m ty (.nilCheck x) (.pointer (some a)):=
 ⟨by simp[jB,cov,hx],fun w d pos af g _=>by simp[execOp,evS,hx]⟩
theorem Val.nilCheckF {x:Operand} {f:FuncId} {fi ca:Array Value} (hx:evO m x=some (.func (.func f) fi ca)):Val P w0 H m ty (.nilCheck x) (.func (.func f) fi ca):=
 ⟨by simp[jB,cov,hx],fun w d pos af g _=>by simp[execOp,evS,hx]⟩
theorem Val.nilCheckY {x:Operand} {l:Nat} {fi ca:Array Value} (hx:evO m x=some (.func (.yield l) fi ca)):Val P w0 H m ty (.nilCheck x) (.func (.yield l) fi ca):=
 ⟨by simp[jB,cov,hx],fun w d pos af g _=>by simp[execOp,evS,hx]⟩
theorem Val.makeFunc {fn:Fn} {fi ca:List Operand} {vf vc:List Value} (hf:EvL m fi vf) (hc:EvL m ca vc):Val P w0 H m ty (.makeFunc fn fi.toArray ca.toArray) (.func fn vf.toArray vc.toArray):=
 ⟨by simp only[jB,hf.cov,hc.cov,Bool.and_true],fun w d pos af g _=>by simp[execOp,Instr.makeFunc,hf.map,hc.map]⟩
theorem Val.load {t:TypeId} {x:Operand} {b o:Nat} {v:Value} (hx:evO m x=some (.pointer (some ⟨b,o,none⟩))) (ht:oneB P t=true) (hs:j7 w0 H ⟨b,o,none⟩ v):Val P w0 H m ty (.load t x) v:=
 ⟨by simp[jB,cov,hx],fun w d pos af g hw=>by
  have:=jfJ (P:=P) ht (hs w hw)
  simp[execOp,evS,hx,Instr.loadAt,Instr.sureAddr,this]⟩
theorem Val.loadA {t:TypeId} {x:Operand} {b o k:Nat} {cs:List Value} (hx:evO m x=some (.pointer (some ⟨b,o,none⟩))) (ht:jbI P t=true) (hk:Ju P t=some k) (hs:jcW w0 H b o k cs):Val P w0 H m ty (.load t x) (.agg cs.toArray):=
 ⟨by simp[jB,cov,hx],fun w d pos af g hw=>by
  have:=jfI (P:=P) (p:=⟨b,o,none⟩) ht (by rw[hs.1];exact hk) (fun j v hj=>by rw[jbq];exact hs.2 j v hj w hw)
  simp[execOp,evS,hx,Instr.loadAt,Instr.sureAddr,this]⟩
theorem Val.fieldAddr0 {s:TypeId} {x:Operand} {f b k:Nat} (hx:evO m x=some (.pointer (some ⟨b,0,none⟩))) (hs:jcn P s f=some k):Val P w0 H m ty (.fieldAddr s x f) (.pointer (some ⟨b,k,none⟩)):=
 ⟨by simp[jB,cov,hx],fun w d pos af g _=>by
  have:=jeB (P:=P) w (a:=⟨b,0,none⟩) hs
  rw[jbq,Nat.zero_add] at this
  simp[execOp,evS,hx,this]⟩
theorem Val.fieldAddrZ {s:TypeId} {x:Operand} {f b o:Nat} (hx:evO m x=some (.pointer (some ⟨b,o,none⟩))) (hs:jcn P s f=some 0):Val P w0 H m ty (.fieldAddr s x f) (.pointer (some ⟨b,o,none⟩)):=
 ⟨by simp[jB,cov,hx],fun w d pos af g _=>by
  have:=jeB (P:=P) w (a:=⟨b,o,none⟩) hs
  rw[jbq,Nat.add_zero] at this
  simp[execOp,evS,hx,this]⟩
theorem Val.fieldAddr {s:TypeId} {x:Operand} {f b o k:Nat} (hx:evO m x=some (.pointer (some ⟨b,o,none⟩))) (hs:jcn P s f=some k):Val P w0 H m ty (.fieldAddr s x f) (.pointer (some ⟨b,o+k,none⟩)):=
 ⟨by simp[jB,cov,hx],fun w d pos af g _=>by
  have:=jeB (P:=P) w (a:=⟨b,o,none⟩) hs
  rw[jbq] at this
  simp[execOp,evS,hx,this]⟩
theorem jly {P:Program} (w:World) {s t:TypeId} {f k:Nat} {cs:Array Value} (hs:jcn P s f=some k) (ht:jhk P s f=some t) {r:Value} (hp:(part t cs k).run P w= .ok r w):(Instr.field s (.agg cs) f).run P w= .ok r w:=by
 unfold jcn at hs
 unfold jhk at ht
 split at hs
 ·rename_i fs hu
  rw[hu] at ht
  split at hs
  ·rename_i fd hf
   simp only[hf,Option.map_some,Option.some.injEq] at ht
   split at hs
   ·split at hs
    ·cases hs
    ·cases hs
     subst ht
     simp[Instr.field,JG w hu,hf,asAgg,hp]
   ·cases hs
  ·cases hs
 ·cases hs
theorem Val.field {s t:TypeId} {x:Operand} {f k:Nat} {cs:List Value} {v:Value} (hx:evO m x=some (.agg cs.toArray)) (hs:jcn P s f=some k) (ht:jhk P s f=some t) (h1:oneB P t=true) (hv:cs[k]?=some v):Val P w0 H m ty (.field s x f) v:=
 ⟨by simp[jB,cov,hx],fun w d pos af g _=>by
  have:=jly (P:=P) w hs ht (jez (P:=P) w (cs:=cs.toArray) h1 (by simpa using hv))
  simp[execOp,evS,hx,this]⟩
theorem jlx {P:Program} (w:World) {t e:TypeId} {b o len cap z:Nat} {k:IntKind} {i:Int} (ht:Jw P t=some e) (hz:Ju P e=some z) (hi:0<=i/\i<len):
  (Instr.indexAt t (.slice (some ⟨b,o,none⟩) len cap) (.int k i)).run P w= .ok (.pointer (some ⟨b,o+i.toNat*z,none⟩)) w:=by
 have hu:P.underlying t=some (.slice e):=by unfold Jw at ht;split at ht<;>simp_all
 simp[Instr.indexAt,asIntOf,JG w hu,hi.1,hi.2,jaO w hz,jbq]
theorem Val.indexSG {t e:TypeId} {x y:Operand} {b o len cap z:Nat} {i:Int} {k:IntKind} (hx:evO m x=some (.slice (some ⟨b,o,none⟩) len cap)) (hy:evO m y=some (.int k i)) (ht:Jw P t=some e) (hz:Ju P e=some z) (hj:0<=i/\i<len):
  Val P w0 H m ty (.indexAddr t x y) (.pointer (some ⟨b,o+i.toNat*z,none⟩)):=
 ⟨by simp[jB,cov,hx,hy],fun w d pos af g _=>by
  have:=jlx (P:=P) w (b:=b) (o:=o) (len:=len) (cap:=cap) (k:=k) (i:=i) ht hz hj
  simp[execOp,evS,hx,hy,this]⟩
theorem Val.indexS {t e:TypeId} {x y:Operand} {b len cap j z:Nat} {k:IntKind} (hx:evO m x=some (.slice (some ⟨b,0,none⟩) len cap)) (hy:evO m y=some (.int k (j:Nat))) (ht:Jw P t=some e) (hz:Ju P e=some z) (hj:j<len):
  Val P w0 H m ty (.indexAddr t x y) (.pointer (some ⟨b,j*z,none⟩)):=by
 have:=Val.indexSG (P:=P) (w0:=w0) (H:=H) (ty:=ty) hx hy ht hz (by omega)
 simpa using this
theorem Val.indexS1 {t e:TypeId} {x y:Operand} {b len cap j:Nat} {k:IntKind} (hx:evO m x=some (.slice (some ⟨b,0,none⟩) len cap)) (hy:evO m y=some (.int k (j:Nat))) (ht:Jw P t=some e) (hz:Ju P e=some 1) (hj:j<len):
  Val P w0 H m ty (.indexAddr t x y) (.pointer (some ⟨b,j,none⟩)):=by
 have:=Val.indexS (P:=P) (w0:=w0) (H:=H) (ty:=ty) hx hy ht hz hj
 simpa using this
theorem Val.indexSO {t e:TypeId} {x y:Operand} {b o len cap j z:Nat} {k:IntKind} (hx:evO m x=some (.slice (some ⟨b,o,none⟩) len cap)) (hy:evO m y=some (.int k (j:Nat))) (ht:Jw P t=some e) (hz:Ju P e=some z) (hj:j<len):
  Val P w0 H m ty (.indexAddr t x y) (.pointer (some ⟨b,o+j*z,none⟩)):=by
 have:=Val.indexSG (P:=P) (w0:=w0) (H:=H) (ty:=ty) hx hy ht hz (by omega)
 simpa using this
theorem Val.indexA {t e:TypeId} {x y:Operand} {b o len z:Nat} {i:Int} {k:IntKind} (hx:evO m x=some (.pointer (some ⟨b,o,none⟩))) (hy:evO m y=some (.int k i)) (ht:jcI P t=some (len,e)) (hz:Ju P e=some z) (hj:0<=i/\i<len):
  Val P w0 H m ty (.indexAddr t x y) (.pointer (some ⟨b,o+i.toNat*z,none⟩)):=
 ⟨by simp[jB,cov,hx,hy],fun w d pos af g _=>by
  have hu:P.underlying t=some (.array len e):=by unfold jcI at ht;split at ht<;>simp_all
  simp[execOp,evS,hx,hy,Instr.indexAt,asIntOf,JG w hu,Instr.sureAddr,hj.1,hj.2,jaO w hz,jbq]⟩
theorem Eff.alloc {t:TypeId} {l:List Value} (hz:(P.info? t).map (fun i=>i.zero.map Value.cells)=some (some l.toArray)):Eff P w0 H m ty (.alloc t) (fun v H'=> ∃ b,v= .pointer (some ⟨b,0,none⟩)/\H'=(b,cells l t)::H):=
 ⟨rfl,fun w d pos af g hw=>by
  obtain⟨i,hi,hzz⟩:=Option.map_eq_some_iff.1 hz
  obtain⟨z,hz1,hz2⟩:=Option.map_eq_some_iff.1 hzz
  have e:(execOp (evS m) ⟨d, .alloc t,ty,pos,af,g⟩).run P w= .ok (.value (.pointer (some ⟨w.heap.size,0,none⟩))) (w.alloc (cells l t)):=by
   simp[execOp,Instr.alloc,zeroValue,typeInfo,program,hi,hz1,newVar,newRow,newObj,hz2,Sem.run,Bind.bind,Sem.bind,Pure.pure,cells]
  rw[e]
  exact⟨_,hw.alloc _,_,rfl,rfl⟩⟩
theorem Eff.box {t:TypeId} {x:Operand} {v:Value} {l:List Value} (hx:evO m x=some v) (hl:v.cells=l.toArray):Eff P w0 H m ty (.box t x) (fun v H'=> ∃ b,v= .pointer (some ⟨b,0,none⟩)/\H'=(b,cells l t)::H):=
 ⟨by simp[jB,cov,hx],fun w d pos af g hw=>by
  have e:(execOp (evS m) ⟨d, .box t x,ty,pos,af,g⟩).run P w= .ok (.value (.pointer (some ⟨w.heap.size,0,none⟩))) (w.alloc (cells l t)):=by
   simp[execOp,Instr.box,evS,hx,newVar,newRow,newObj,hl,Sem.run,Bind.bind,Sem.bind,Pure.pure,cells]
  rw[e]
  exact⟨_,hw.alloc _,_,rfl,rfl⟩⟩
def jbG (l:List Value) (o:Nat) (cs:List Value):List Value:=l.take o++cs++l.drop (o+cs.length)
theorem jkP {P:Program} {w:World} {b o:Nat} {arr:Array Value} {e:TypeId} (hb:Blk w b arr e) (ho:o<arr.size) {v:Value} (h1:v.oneCell'=true):
  (storeCells ⟨b,o,none⟩ [v]).run P w= .ok () (w.setCell ⟨b,o,none⟩ v):=by
 obtain⟨u,hu⟩: ∃ u,arr[o]?=some u:=⟨arr[o],Array.getElem?_eq_getElem ho⟩
 have hc:=hb.cell hu
 have hf:=hb.frozen o
 have ha:(⟨b,o,none⟩:Addr).add 0=⟨b,o,none⟩:=by simp[Addr.add]
 cases v<;>simp[Value.oneCell'] at h1<;>simp[storeCells,store,ha,Sem.run,Bind.bind,Sem.bind,hc,hf,Pure.pure]
theorem Eff.store {t:TypeId} {x y:Operand} {b o:Nat} {v:Value} {l l':List Value} {e:TypeId} (hx:evO m x=some (.pointer (some ⟨b,o,none⟩))) (hy:evO m y=some v) (h1:v.oneCell'=true) (ht:Ju P t=some 1)
  (hT:jx (b,cells l e) H F) (ho:o<l.length) (hl:l.set o v=l'):Eff P w0 H m ty (.store t x y) (fun _ H'=>H'=(b,cells l' e)::F):=
 ⟨by simp[jB,cov,hx,hy],fun w d pos af g hw0=>by
  have hw:=hw0.take hT
  have hc:v.cells= #[v]:=by cases v<;>simp[Value.oneCell'] at h1<;>rfl
  have e1:=jkP (P:=P) (show Blk w b l.toArray e from hw.get _ (.head _)) (by simpa using ho) h1
  have e:(execOp (evS m) ⟨d, .store t x y,ty,pos,af,g⟩).run P w= .ok .skip (w.setCell ⟨b,o,none⟩ v):=by
   simp[execOp,evS,hx,hy,Instr.storeAt,Instr.sureAddr,storeVar,hc,jaO w ht,e1]
  rw[e]
  subst hl
  refine⟨_,?_,rfl⟩
  have:=hw.setCell o v
  simpa [cells] using this⟩
theorem HF.setRow {b:Nat} {arr cs:Array Value} {e:TypeId} {w:World} (h:HF w0 ((b, .cells arr e (0,0))::F) w):HF w0 ((b, .cells cs e (0,0))::F) (w.setRow b cs):=
 h.set ((jN.refl [b] w).setRow (by simp) cs) ((show Blk w b arr e from h.get _ (.head _)).setRow cs)
theorem Eff.storeA {t:TypeId} {x y:Operand} {b o:Nat} {cs l l':List Value} {e:TypeId} (hx:evO m x=some (.pointer (some ⟨b,o,none⟩))) (hy:evO m y=some (.agg cs.toArray)) (ht:Ju P t=some cs.length)
  (hT:jx (b,cells l e) H F) (ho:o+cs.length<=l.length) (h1: ∀ v∈cs,v.oneCell'=true) (hl:jbG l o cs=l'):Eff P w0 H m ty (.store t x y) (fun _ H'=>H'=(b,cells l' e)::F):=
 ⟨by simp[jB,cov,hx,hy],fun w d pos af g hw0=>by
  have hw:=hw0.take hT
  have hst:=run_storeCells_at P b o e cs 0 l.toArray w (hw.get _ (.head _)) (by simpa using ho) h1
  simp only[Nat.add_zero] at hst
  have e:(execOp (evS m) ⟨d, .store t x y,ty,pos,af,g⟩).run P w= .ok .skip (w.setRow b (jbG l o cs).toArray):=by
   simp[execOp,evS,hx,hy,Instr.storeAt,Instr.sureAddr,storeVar,Value.cells,jaO w ht,hst,jbG]
  rw[e]
  subst hl
  exact⟨_,hw.setRow,rfl⟩⟩
theorem jhn (a b:Int):(a==b)=decide (a=b):=by by_cases h:a=b<;>simp[h]
theorem jlg (op:BinOp) (t:TypeId) (x y:Operand) (k k':IntKind) (a b:Int):eqGuard op t x y (.int k a) (.int k' b)=pure ():=by
 unfold eqGuard
 cases op<;>rfl
theorem Val.bin {o:BinOp} {t u:TypeId} {x y:Operand} {k k':IntKind} {a b:Int} {r:Value} (hx:evO m x=some (.int k a)) (hy:evO m y=some (.int k' b)) (hr:binOp o t (.int k a) (.int k' b)=pure r):Val P w0 H m ty (.binOp o t x y u) r:=
 ⟨by simp[jB,cov,hx,hy],fun w d pos af g _=>by simp[execOp,evS,hx,hy,jlg,hr]⟩
section jI
variable {t u : TypeId} {x y : Operand} {k : IntKind} {a b : Int} (hx : evO m x = some (.int k a)) (hy : evO m y = some (.int k b))
include hx hy
theorem Val.add (hr:lo k<=a+b/\a+b<=hi k):Val P w0 H m ty (.binOp .add t x y u) (.int k (a+b)):=Val.bin hx hy (by simp[binOp,Op.intArith,jda hr])
theorem Val.sub (hr:lo k<=a-b/\a-b<=hi k):Val P w0 H m ty (.binOp .sub t x y u) (.int k (a-b)):=Val.bin hx hy (by simp[binOp,Op.intArith,jda hr])
theorem Val.mul (hr:lo k<=a*b/\a*b<=hi k):Val P w0 H m ty (.binOp .mul t x y u) (.int k (a*b)):=Val.bin hx hy (by simp[binOp,Op.intArith,jda hr])
theorem Val.addW:Val P w0 H m ty (.binOp .add t x y u) (.int k (k.wrap (a+b))):=Val.bin hx hy (by simp[binOp,Op.intArith])
theorem Val.subW:Val P w0 H m ty (.binOp .sub t x y u) (.int k (k.wrap (a-b))):=Val.bin hx hy (by simp[binOp,Op.intArith])
theorem Val.mulW:Val P w0 H m ty (.binOp .mul t x y u) (.int k (k.wrap (a*b))):=Val.bin hx hy (by simp[binOp,Op.intArith])
theorem Val.quo (hb:b≠0):Val P w0 H m ty (.binOp .quo t x y u) (.int k (k.wrap (a.tdiv b))):=Val.bin hx hy (by simp[binOp,Op.intDiv,hb])
theorem Val.quoN (h:0<=a/\a<=hi k/\1<=b):Val P w0 H m ty (.binOp .quo t x y u) (.int k (a/b)):=by
 have h0:=Val.quo (P:=P) (w0:=w0) (H:=H) (ty:=ty) (t:=t) (u:=u) hx hy (by omega)
 have h1:=IntWalk.tdiv_le a b h.1 h.2.2
 have h2:lo k<=0:=by cases k<;>decide
 rw[Int.tdiv_eq_ediv_of_nonneg h.1,jda (by omega)] at h0
 exact h0
theorem Val.rem (hb:b≠0):Val P w0 H m ty (.binOp .rem t x y u) (.int k (a.tmod b)):=Val.bin hx hy (by simp[binOp,Op.intDiv,hb])
theorem Val.remN (h:0<=a/\b≠0):Val P w0 H m ty (.binOp .rem t x y u) (.int k (a%b)):=by
 have h0:=Val.rem (P:=P) (w0:=w0) (H:=H) (ty:=ty) (t:=t) (u:=u) hx hy h.2
 rw[Int.tmod_eq_emod_of_nonneg h.1] at h0
 exact h0
theorem Val.lss:Val P w0 H m ty (.binOp .lss t x y u) (.bool (decide (a<b))):=Val.bin hx hy (by simp[binOp,Op.intCmp])
theorem Val.leq:Val P w0 H m ty (.binOp .leq t x y u) (.bool (decide (a<=b))):=Val.bin hx hy (by simp[binOp,Op.intCmp])
theorem Val.gtr:Val P w0 H m ty (.binOp .gtr t x y u) (.bool (decide (b<a))):=Val.bin hx hy (by simp[binOp,Op.intCmp])
theorem Val.geq:Val P w0 H m ty (.binOp .geq t x y u) (.bool (decide (b<=a))):=Val.bin hx hy (by simp[binOp,Op.intCmp])
theorem Val.eql:Val P w0 H m ty (.binOp .eql t x y u) (.bool (decide (a=b))):=Val.bin hx hy (by simp[binOp,Op.intCmp,jhn])
theorem Val.neq:Val P w0 H m ty (.binOp .neq t x y u) (.bool (decide (a≠b))):=Val.bin hx hy (by simp[binOp,Op.intCmp,bne,jhn])
end jI
theorem Val.not {t:TypeId} {x:Operand} {p:Prop} [Decidable p] (hx:evO m x=some (.bool (decide p))):Val P w0 H m ty (.unOp .not t x) (.bool (decide (¬p))):=
 ⟨by simp[jB,cov,hx],fun w d pos af g _=>by simp[execOp,evS,hx,Op.unary]⟩
theorem Val.notT {t:TypeId} {x:Operand} (hx:evO m x=some (.bool true)):Val P w0 H m ty (.unOp .not t x) (.bool false):=
 ⟨by simp[jB,cov,hx],fun w d pos af g _=>by simp[execOp,evS,hx,Op.unary]⟩
theorem Val.notF {t:TypeId} {x:Operand} (hx:evO m x=some (.bool false)):Val P w0 H m ty (.unOp .not t x) (.bool true):=
 ⟨by simp[jB,cov,hx],fun w d pos af g _=>by simp[execOp,evS,hx,Op.unary]⟩
theorem jk6 {P:Program} (w:World) {s t:TypeId} {k k':IntKind} {a:Int} (hs:(P.underlying s).isSome=true) (ht:jfm P t=some k):(convert s t (.int k' a)).run P w= .ok (.int k (k.wrap a)) w:=by
 have hu:P.underlying t=some (.int k):=by unfold jfm at ht;split at ht<;>simp_all
 obtain⟨ds,hds⟩:=Option.isSome_iff_exists.1 hs
 simp only[convert,Sem.run_bind,JG w hds,JG w hu,Result.andThen]
 cases ds<;>rfl
theorem Val.convW {s t:TypeId} {x:Operand} {k k':IntKind} {a:Int} (hx:evO m x=some (.int k' a)) (hs:(P.underlying s).isSome=true) (ht:jfm P t=some k):Val P w0 H m ty (.convert s t x) (.int k (k.wrap a)):=
 ⟨by simp[jB,cov,hx],fun w d pos af g _=>by
  have:=jk6 (P:=P) w (k':=k') (a:=a) hs ht
  simp[execOp,evS,hx,this]⟩
theorem Val.conv {s t:TypeId} {x:Operand} {k k':IntKind} {a:Int} (hx:evO m x=some (.int k' a)) (hs:(P.underlying s).isSome=true) (ht:jfm P t=some k) (hr:lo k<=a/\a<=hi k):Val P w0 H m ty (.convert s t x) (.int k a):=by
 have:=Val.convW (P:=P) (w0:=w0) (H:=H) (ty:=ty) hx hs ht
 rwa[jda hr] at this
theorem jhG {op:BinOp} {t:TypeId} {x y:Operand} {a b:Value} (h1:a≠ .nilIface) (h2: ∀ cs,a≠ .agg cs):eqGuard op t x y a b=pure ():=by
 unfold eqGuard
 cases op<;>first
  |rfl
  |(cases a<;>first|rfl|exact absurd rfl h1|exact absurd rfl (h2 _))
theorem Val.binV {o:BinOp} {t u:TypeId} {x y:Operand} {a b:Value} {r:Value} (hx:evO m x=some a) (hy:evO m y=some b) (h1:a≠ .nilIface) (h2: ∀ cs,a≠ .agg cs) (hr: ∀ w,(binOp o t a b).run P w= .ok r w):Val P w0 H m ty (.binOp o t x y u) r:=
 ⟨by simp[jB,cov,hx,hy],fun w d pos af g _=>by simp[execOp,evS,hx,hy,jhG h1 h2,hr]⟩
theorem jkm (a b:ByteArray):(a.toList==b.toList)=decide (a=b):=by
 by_cases h:a=b
 ·subst h;simp
 ·have:a.toList≠b.toList:=by
   intro e
   apply h
   have e1:a.data=b.data:=by
    rw[ByteArray.toList_eq,ByteArray.toList_eq] at e
    exact Array.ext' e
   cases a;cases b;simp at e1;rw [e1]
  simp[h,this]
theorem Val.eqlS {t u:TypeId} {x y:Operand} {a b:ByteArray} (hx:evO m x=some (.string a)) (hy:evO m y=some (.string b)):Val P w0 H m ty (.binOp .eql t x y u) (.bool (decide (a=b))):=
 Val.binV hx hy (by simp) (by simp) (fun w=>by simp[binOp,Op.stringOp,jkm])
theorem Val.neqS {t u:TypeId} {x y:Operand} {a b:ByteArray} (hx:evO m x=some (.string a)) (hy:evO m y=some (.string b)):Val P w0 H m ty (.binOp .neq t x y u) (.bool (decide (a≠b))):=
 Val.binV hx hy (by simp) (by simp) (fun w=>by simp[binOp,Op.stringOp,jkm])
theorem Val.lenS {x:Operand} {t e:TypeId} {a:Option Addr} {len cap:Nat} (hx:evO m x=some (.slice a len cap)) (ht:Jw P t=some e):Val P w0 H m ty (.call {callee:= .builtin .len,args:= #[x],argTypes:= #[t]}) (.int .i64 (len:Nat)):=
 ⟨by simp[jB,jbz,cov,hx],fun w d pos af g _=>by
  have hu:P.underlying t=some (.slice e):=by unfold Jw at ht;split at ht<;>simp_all
  simp[execOp,resolve,invoke,builtin,evS,hx,Builtin.len_,JG w hu,goInt]⟩
