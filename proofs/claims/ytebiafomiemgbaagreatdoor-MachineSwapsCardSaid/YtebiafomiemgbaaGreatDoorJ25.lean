/-The walker and the contracts that the law needs,part 25. -/
import Derived.Test.YtebiafomiemgbaaGreatDoorJ21
import Derived.Test.YtebiafomiemgbaaGreatDoorJ22
set_option linter.unusedVariables false set_option linter.unusedSimpArgs false set_option linter.unusedVariables false
set_option linter.unusedSimpArgs false
namespace Go.Proofs.YtebiafomiemgbaaGreatDoor.Sw
set_option maxHeartbeats 8000000
open Go.Proofs.YtebiafomiemgbaaGreatDoor renaming lo → qL, hi → qH
open Go.RowKit
set_option maxRecDepth 10000
theorem jfy {t:TbM} {i:Nat} {e:jl} (ok:TbOk t) (he:0≤e.st∧e.st<4∧1≤e.gen∧e.gen≤2147483648∧0≤e.slot∧e.slot≤1000000):TbOk ⟨t.b,t.l.set i e,t.gens,t.o⟩:=by
 refine⟨ok.o.set _ _,by simpa using ok.n,ok.g,fun x hx=>?_⟩
 rcases List.mem_or_eq_of_mem_set hx with h|rfl
 ·exact ok.e x h
 omega
section
variable {w0 : World} {F : jb} {t : TbM}
theorem jmx {i:Nat} {e:jl} (ok:TbOk t) (he:t.l[i]?=some e) (h0:e.st=0):
  Call Tryz.prog w0 271 [.pointer (some ⟨t.b,0,none⟩), .pointer (some (adr (oV t.o t.l.length) (i*enE.sz))), .int .i64 1] (jK t++F) (fun r H'=>r= .tuple #[]∧H'=jK ⟨t.b,t.l.set i ⟨1,e.slot,e.gen⟩,t.gens,t.o⟩++F):=by
 have ho:=ok.o
 have hn:=ok.n
 obtain⟨st,sl,ge⟩:=e
 dsimp only at h0;subst h0
 have c0:=ja6 he ⟨1,sl,ge⟩ 0
 have c1:=ja6 he ⟨1,sl,ge⟩ 1
 have c2:=ja6 he ⟨1,sl,ge⟩ 2
 have c3:=ja6 he ⟨1,sl,ge⟩ 3
 have p0:1≤j6 0 t.l:=jhi he
 have p1:=jem 1 t.l
 have p2:=jem 0 t.l
 simp at c0 c1 c2 c3
 have e0:((j6 0 t.l:Nat):Int)-1=((j6 0 (t.l.set i ⟨1,sl,ge⟩):Nat):Int):=by omega
 have e1:((j6 1 t.l:Nat):Int)+1=((j6 1 (t.l.set i ⟨1,sl,ge⟩):Nat):Int):=by omega
 refine zol ?_;simp only[Jr];refine K.seq ?_;refine zkv ?_;refine zo ?_;refine zfn ?_;refine zfA ?_;refine zeQ ?_;dsimp only;refine zcL ?_;refine zan ?_;refine zkF ?_;refine zeQ ?_;refine zcL ?_;refine zcl ?_;refine zbC ?_;refine zlW ?_;refine zo ?_;refine zaW ?_;refine zkD ?_;refine zcL ?_;refine zan ?_;refine zdt ?_;refine zeQ ?_;refine zcL ?_;refine zcl ?_;refine zb9 ?_;refine zcB ?_;refine zbW ?_;refine zom ?_;refine KL.eN (Eff.stSl0 (x1:=(⟨1,sl,ge⟩:jl)) rfl rfl rfl rfl jj ho he rfl rfl) ?_;rintro _ _ rfl;refine zR ?_;rw[e0,e1];exact KE.finN (H':=jK ⟨t.b,t.l.set i ⟨1,sl,ge⟩,t.gens,t.o⟩++F) je rfl jd (by simp only[Jr,List.length_set,c2,c3];exact ja) ⟨rfl,rfl⟩
theorem jmw {i:Nat} {e:jl} (ok:TbOk t) (he:t.l[i]?=some e) (h0:e.st=1):
  Call Tryz.prog w0 271 [.pointer (some ⟨t.b,0,none⟩), .pointer (some (adr (oV t.o t.l.length) (i*enE.sz))), .int .i64 2] (jK t++F) (fun r H'=>r= .tuple #[]∧H'=jK ⟨t.b,t.l.set i ⟨2,e.slot,e.gen⟩,t.gens,t.o⟩++F):=by
 have ho:=ok.o
 have hn:=ok.n
 obtain⟨st,sl,ge⟩:=e
 dsimp only at h0;subst h0
 have c0:=ja6 he ⟨2,sl,ge⟩ 0
 have c1:=ja6 he ⟨2,sl,ge⟩ 1
 have c2:=ja6 he ⟨2,sl,ge⟩ 2
 have c3:=ja6 he ⟨2,sl,ge⟩ 3
 have p0:1≤j6 1 t.l:=jhi he
 have p1:=jem 1 t.l
 have p2:=jem 2 t.l
 simp at c0 c1 c2 c3
 have e0:((j6 1 t.l:Nat):Int)-1=((j6 1 (t.l.set i ⟨2,sl,ge⟩):Nat):Int):=by omega
 have e1:((j6 2 t.l:Nat):Int)+1=((j6 2 (t.l.set i ⟨2,sl,ge⟩):Nat):Int):=by omega
 refine zol ?_;simp only[Jr];refine K.seq ?_;refine zkv ?_;refine zo ?_;refine zfn ?_;refine zfA ?_;refine zeQ ?_;dsimp only;refine zcL ?_;refine zan ?_;refine zkF ?_;refine zeQ ?_;refine zcL ?_;refine zcl ?_;refine zbC ?_;refine zlW ?_;refine zo ?_;refine zaW ?_;refine zkD ?_;refine zcL ?_;refine zan ?_;refine zdt ?_;refine zeQ ?_;refine zcL ?_;refine zcl ?_;refine zb9 ?_;refine zcB ?_;refine zbW ?_;refine zom ?_;refine KL.eN (Eff.stSl0 (x1:=(⟨2,sl,ge⟩:jl)) rfl rfl rfl rfl jj ho he rfl rfl) ?_;rintro _ _ rfl;refine zR ?_;rw[e0,e1];exact KE.finN (H':=jK ⟨t.b,t.l.set i ⟨2,sl,ge⟩,t.gens,t.o⟩++F) je rfl jd (by simp only[Jr,List.length_set,c0,c3];exact ja) ⟨rfl,rfl⟩
theorem tbin_K {H:jb} {b:Nat} {st:Int}:
  Call Tryz.prog w0 303 [.pointer (some ⟨b,0,none⟩), .int .i64 st] H (fun u H'=> ∃ b1 b2,u= .func (.func 328) #[] [.pointer (some ⟨b1,0,none⟩), .pointer (some ⟨b2,0,none⟩)].toArray∧H'=(b1,cells [.pointer (some ⟨b,0,none⟩)] 123)::(b2,cells [.int .i64 st] 3)::H):=by
 refine Call.enter2 (n:=6) (by rfl) Tryz.func303 rfl rfl rfl ?_;refine zew ?_;intro b2 b3;refine zah ?_;refine za5 ?_;refine zm ?_;exact KE.fin (H':=(b2,cells [.pointer (some ⟨b,0,none⟩)] 123)::(b3,cells [.int .i64 st] 3)::H) je rfl jd ja ⟨b2,b3,rfl,rfl⟩
structure TbI where
 i:Nat
theorem tbin1_K {A0:jb} {st:Int} {q1 q2:Nat} {yv:Value} (ok:TbOk t) (E:jb→Prop)
  (hy: ∀ (i:Nat) (e:jl),t.l[i]?=some e→e.st=st→(∀ (j:Nat) (e:jl),j<i→t.l[j]?=some e→e.st≠st)→CallV Tryz.prog w0 yv [.int .i64 (i:Nat), .pointer (some (adr (oV t.o t.l.length) (i*enE.sz)))] (A0++((q1,cells [.pointer (some ⟨t.b,0,none⟩)] 123)::(q2,cells [.int .i64 st] 3)::(jK t++F))) (fun u H'=>u= .bool false∧E H')):
  Call Tryz.prog w0 328 [yv, .pointer (some ⟨q1,0,none⟩), .pointer (some ⟨q2,0,none⟩)] (A0++((q1,cells [.pointer (some ⟨t.b,0,none⟩)] 123)::(q2,cells [.int .i64 st] 3)::(jK t++F)))
   (fun _ H'=>((∀ (j:Nat) (e:jl),t.l[j]?=some e→e.st≠st)∧H'=A0++((q1,cells [.pointer (some ⟨t.b,0,none⟩)] 123)::(q2,cells [.int .i64 st] 3)::(jK t++F)))∨E H'):=by
 have ho:=ok.o
 have hn:=ok.n
 refine Call.enter3 (n:=34) (by rfl) Tryz.func328 rfl rfl rfl ?_;simp only[Jr];refine zG ?_;refine za0 ?_;refine zN ?_;refine zhL ?_;refine zbj ?_;refine K.loopT (σ:=TbI) [(0,_),(1,_),(2,_),(10,_)] (fun s kp_=>(11, .int .i64 (s.i:Nat))::kp_) (fun s=>A0++((q1,cells [.pointer (some ⟨t.b,0,none⟩)] 123)::(q2,cells [.int .i64 st] 3)::(jK t++F))) (fun s=>s.i≤t.l.length∧ ∀ (j:Nat) (e:jl),j<s.i→t.l[j]?=some e→e.st≠st) (fun s=>t.l.length-s.i) (⟨0⟩) jc (by first|exact ja|(simp only[Jr];exact ja)) (⟨Nat.zero_le _,fun j e h=>absurd h (Nat.not_lt_zero _)⟩) ?_;rintro⟨i⟩ ⟨hi,hno⟩;dsimp only at hi hno⊢;simp only[Jr]
 by_cases hlt:i<t.l.length
 ·obtain⟨e,he⟩:=jh hlt
  by_cases hst:e.st=st
  ·refine zfg ?_;refine zrn ?_;refine zj ?_;refine zah ?_;refine za0 ?_;refine zfe ?_;refine zcc ?_;refine zdK ?_;refine K.drawn [] [(0,0),(1,0),(2,0),(3,0),(4,0),(5,0),(6,0),(7,0),(8,0),(9,0),(10,2),(11,0),(12,0)] (by rfl) (by rfl) (by kernel_rfl) (by kernel_rfl) (by kernel_rfl) (by kernel_rfl) Part.nil ?_;refine zfn ?_;refine zi9 ?_;refine zan ?_;refine zkK ?_;refine zo ?_;refine zaZ ?_;refine zca ?_;refine zdR fun T hT=>?_;refine(CallV.part (hy i e he hst hno) (by first|exact ja|(simp only[Jr];exact ja))).mono ?_;rintro _ H' ⟨rfl,hE⟩;refine zi ?_;clear hT T;refine zon ?_;refine zbD ?_;refine zam ?_;refine KE.next (K.condT rfl ?_);refine ziP ?_;refine zaS ?_;refine zef ?_;exact KE.fin je rfl jd ja (.inr hE)
  ·refine zfg ?_;refine zrn ?_;refine zj ?_;refine zah ?_;refine za0 ?_;refine zfe ?_;refine zcK ?_;refine zdK ?_;refine zqu ?_;refine zfn ?_;refine zi9 ?_;refine zan ?_;refine zkL ?_;refine zo ?_;refine zgk ?_;refine ziV ?_;refine zbr ?_;refine zfC ?_;refine zb0 ?_
   exact KE.again ⟨i+1⟩ jc (by first|exact ja|(simp only[Jr];exact ja)) ⟨hlt,fun j e' (hj:j<i+1) he'=>by
    rcases Nat.lt_or_ge j i with h|h
    ·exact hno j e' h he'
    ·have:j=i:=by omega
     subst this
     rw[he] at he';cases he';exact hst⟩ (by show t.l.length-(i+1)<t.l.length-i;omega)
 ·refine zfg ?_;refine zro ?_;exact KE.finN je rfl jd (by first|exact ja|(simp only[Jr];exact ja)) (.inl ⟨fun j e he=>hno j e (by have:=jv he;omega) he,rfl⟩)
end
set_option maxRecDepth 10000
section
variable {w0 : World} {F : jb} {t : TbM}
theorem tbSlot_K {i:Nat} (ok:TbOk t):Call Tryz.prog w0 285 [.pointer (some ⟨t.b,0,none⟩), .int .i64 (i:Nat)] (jK t++F)
  (fun r H'=>r= .tuple [.int .i64 ((slotT t.l (i:Nat)).getD 0), .bool (slotT t.l (i:Nat)).isSome].toArray∧H'=jK t++F):=by
 have ho:=ok.o
 have hn:=ok.n
 unfold slotT;rw[if_pos (by omega),Int.toNat_natCast]
 by_cases hlt:i<t.l.length
 ·obtain⟨e,he⟩:=jh hlt
  have hge: ¬((i:Nat):Int)≥(t.l.length:Nat):=by omega
  rw[he];dsimp only
  obtain⟨st,sl,ge⟩:=e
  dsimp only
  by_cases h1:st=1
  ·subst h1;simp only[if_true,Option.getD,Option.isSome];refine zqv ?_;refine zhx ?_;refine zeY ?_;simp only[Jr];refine zeN ?_;refine zbI ?_;refine zfo ?_;refine zaY ?_;refine zbI ?_;refine zQ ?_;refine zcc ?_;refine zl ?_;refine zi6 ?_;refine zl ?_;refine zdp ?_;refine zl ?_;refine KL.v rfl (Val.neq rfl rfl) ?_;refine zx ?_;refine zhD ?_;refine zcc ?_;refine KL.v rfl (Val.fieldSl (k:=1) rfl rfl) ?_;refine zoo ?_;refine zab ?_;exact zcu
  ·simp only[if_neg h1,Option.getD,Option.isSome];refine zqv ?_;refine zhx ?_;refine zeY ?_;simp only[Jr];refine zeN ?_;refine zbI ?_;refine zfo ?_;refine zaY ?_;refine zbI ?_;refine zQ ?_;refine zcc ?_;refine zl ?_;refine zi6 ?_;refine zl ?_;refine zdp ?_;refine zl ?_;refine zM ?_;refine za8 ?_;refine zcW ?_;exact zcu
 ·have hge:((i:Nat):Int)≥(t.l.length:Nat):=by omega
  rw[List.getElem?_eq_none (by omega)];simp only[Option.getD,Option.isSome];refine zqv ?_;refine zhx ?_;refine zeY ?_;simp only[Jr];refine zeN ?_;refine zbI ?_;refine ze9 ?_;refine zac ?_;refine zx ?_;refine zdZ ?_;refine zcM ?_;refine zgN ?_;refine zbh ?_;refine zcW ?_;exact zcu
theorem jj3 {i:Nat} {e:jl} (ok:TbOk t) (he:t.l[i]?=some e) (h1:e.st=1):Call Tryz.prog w0 217 [.pointer (some ⟨t.b,0,none⟩), .int .i64 (i:Nat), .int .u32 e.gen] (jK t++F)
  (fun r H'=>r= .pointer (some (adr (oV t.o t.l.length) (i*enE.sz)))∧H'=jK t++F):=by
 have ho:=ok.o
 have hlt:=jv he
 have hge: ¬((i:Nat):Int)≥(t.l.length:Nat):=by omega
 have hst: ¬e.st≠1:=fun h=>h h1
 have hgn: ¬e.gen≠e.gen:=fun h=>h rfl
 refine zop ?_;simp only[Jr];refine zai ?_;refine zW ?_;refine zc9 ?_;refine zbI ?_;refine zfo ?_;refine zaY ?_;refine zbI ?_;refine zQ ?_;refine zcc ?_;refine zl ?_;refine zi6 ?_;refine zl ?_;refine zdp ?_;refine zl ?_;refine zcz ?_;refine zaY ?_;refine zbI ?_;refine zQ ?_;refine zcc ?_;refine zl ?_;refine zoq ?_;refine zl ?_;refine zoo ?_;refine zlp ?_;refine zcz ?_;refine zhD ?_;refine zcc ?_;refine zm ?_;exact zcu
theorem jkW {i:Nat} {e:jl} (ok:TbOk t) (he:t.l[i]?=some e) (h1:e.st=1):Call Tryz.prog w0 162 [.pointer (some ⟨t.b,0,none⟩), .int .i64 (i:Nat), .int .u32 e.gen] (jK t++F)
  (fun r H'=>r= .tuple [.int .i64 e.slot, .int .i64 0].toArray∧H'=jK t++F):=by
 have ho:=ok.o
 have hlt:=jv he
 refine Call.enter3 (n:=21) (by rfl) Tryz.func162 rfl rfl rfl ?_;refine zhx ?_;refine zeY ?_;refine zK ?_;refine zB ?_;refine zn ?_;refine jn (jj3 ok he h1) ja ?_;simp only[Jr];refine zad ?_;refine zcq ?_;refine zas ?_;refine KL.v rfl (Val.fieldSl (k:=1) rfl rfl) ?_;refine zoo ?_;refine zab ?_;exact zcu
theorem tbDrop_K {i:Nat} {e:jl} (ok:TbOk t) (he:t.l[i]?=some e) (h1:e.st=1):Call Tryz.prog w0 211 [.pointer (some ⟨t.b,0,none⟩), .int .i64 (i:Nat), .int .u32 e.gen] (jK t++F)
  (fun r H'=>r= .tuple [.int .i64 e.slot, .int .i64 0].toArray∧H'=jK ⟨t.b,t.l.set i ⟨2,e.slot,e.gen⟩,t.gens,t.o⟩++F):=by
 refine Call.enter3 (n:=27) (by rfl) Tryz.func211 rfl rfl rfl ?_;refine zlu ?_;refine zn ?_;refine jn (jkW ok he h1) ja ?_;refine zbi ?_;refine zO ?_;refine zak ?_;refine zB ?_;refine zbq ?_;refine jn (jj3 ok he h1) ja ?_;refine zp ?_;refine jn (jmw ok he h1) ja ?_;refine zal ?_;refine zB ?_;refine zab ?_;exact zcu
set_option maxHeartbeats 1000000 in
theorem tbMint_K {s:Nat} (ok:TbOk t) (hs:s≤1000000):Call Tryz.prog w0 258 [.pointer (some ⟨t.b,0,none⟩), .int .i64 (s:Nat)] (jK t++F)
  (fun r H'=> ∃ t':TbM,TbOk t'∧t'.b=t.b∧t'.gens=t.gens∧t'.l=jH t.l (s:Nat)∧r= .tuple [.int .i64 (jbd t.l).1, .int .u32 (jbd t.l).2.1, .int .i64 (jbd t.l).2.2].toArray∧H'=jK t'++F):=by
 have ho:=ok.o
 have hn:=ok.n
 refine Call.enter2 (n:=31) (by kernel_rfl) Tryz.func258 rfl rfl rfl ?_;refine zki ?_;intro b2 b3 b4;refine zbe ?_;intro b5;refine zbe ?_;intro b6;refine zdl ?_;refine zaI ?_;refine zeY ?_;refine zcw ?_;refine zw ?_;refine zW ?_;refine zdX ?_;refine zhU ?_;refine zaI ?_;refine JY (tbin_K (b:=t.b) (st:=0)) ?_;rintro _ _ ⟨c1,c2,rfl,rfl⟩;refine zc1 ?_;refine K.rangeFunc (lb:=[.pointer (some ⟨c1,0,none⟩), .pointer (some ⟨c2,0,none⟩)]) rfl
  (fun D G=>G=(D, .deferred (some []))::(b6,cells [.int .i64 0] 30)::(b5,cells [.int .u32 0] 224)::(b4,cells [.int .i64 0] 3)::(b3,cells [.int .i64 (s:Nat)] 3)::(b2,cells [.pointer (some ⟨t.b,0,none⟩)] 123)::(jK t++F)∧JM t.l=none)
  (fun D c G=>c= .ret∧ ∃ (i:Nat) (e:jl),t.l[i]?=some e∧JM t.l=some i∧G=(D, .deferred (some []))::(b6,cells [.int .i64 0] 30)::(b5,cells [.int .u32 e.gen] 224)::(b4,cells [.int .i64 (i:Nat)] 3)::(b3,cells [.int .i64 (s:Nat)] 3)::(b2,cells [.pointer (some ⟨t.b,0,none⟩)] 123)::(jK ⟨t.b,t.l.set i ⟨1,(s:Nat),e.gen⟩,t.gens,t.o⟩++F)) ?_ ?_ ?_
 ·intro l D rc hyl
  refine(Call.part (tbin1_K (F:=F) (st:=0) (q1:=c1) (q2:=c2) ok
   (fun H'=> ∃ (i:Nat) (e:jl),t.l[i]?=some e∧JM t.l=some i∧H'=(l, .loop (rc .done (some .ret)))::((D, .deferred (some []))::(b6,cells [.int .i64 0] 30)::(b5,cells [.int .u32 e.gen] 224)::(b4,cells [.int .i64 (i:Nat)] 3)::(b3,cells [.int .i64 (s:Nat)] 3)::(b2,cells [.pointer (some ⟨t.b,0,none⟩)] 123)::(c1,cells [.pointer (some ⟨t.b,0,none⟩)] 123)::(c2,cells [.int .i64 0] 3)::(jK ⟨t.b,t.l.set i ⟨1,(s:Nat),e.gen⟩,t.gens,t.o⟩++F)))
   (A0:=(l, .loop (rc .ready none))::(D, .deferred (some []))::(b6,cells [.int .i64 0] 30)::(b5,cells [.int .u32 0] 224)::(b4,cells [.int .i64 0] 3)::(b3,cells [.int .i64 (s:Nat)] 3)::(b2,cells [.pointer (some ⟨t.b,0,none⟩)] 123)::[]) ?_) (by simp only[List.cons_append,List.nil_append];exact ja)).mono ?_
  ·intro i e he h0 hno
   have hF:=freeT_is he h0 hno
   have hb:=ok.e e (List.mem_of_getElem? he)
   have hlt:=jv he
   have ok1:TbOk ⟨t.b,t.l.set i ⟨1,e.slot,e.gen⟩,t.gens,t.o⟩:=jfy ok (by dsimp only;omega)
   have ho1:=ok1.o
   dsimp only at ho1
   have he1:(t.l.set i (⟨1,e.slot,e.gen⟩:jl))[i]?=some ⟨1,e.slot,e.gen⟩:=List.getElem?_set_self hlt
   have hll:(t.l.set i (⟨1,e.slot,e.gen⟩:jl)).length=t.l.length:=List.length_set
   have hcs: ∀ q:Int,j6 q (t.l.set i ⟨1,(s:Nat),e.gen⟩)=j6 q (t.l.set i (⟨1,e.slot,e.gen⟩:jl)):=fun q=>by
    have:=ja6 he1 ⟨1,(s:Nat),e.gen⟩ q
    rw[List.set_set] at this;dsimp only at this
    omega
   simp only[List.cons_append,List.nil_append];refine zqc ?_;refine za4 ?_;refine zaK ?_;refine za4 ?_;refine zlx ?_;refine K.block (K.seq (K.region ?_));refine zw ?_;refine zn ?_;refine jn (jmx ok he h0) ja ?_;simp only[Jr];refine za3 ?_;refine zZ ?_;refine zhM ?_;refine zbW ?_;refine zja ?_;refine KL.eN (Eff.stSl (j:=1) (x1:=(⟨1,(s:Nat),e.gen⟩:jl)) rfl rfl rfl rfl jj ho1 he1 rfl rfl) ?_;rintro _ _ rfl;refine zR ?_
   have he2:(t.l.set i (⟨1,(s:Nat),e.gen⟩:jl))[i]?=some ⟨1,(s:Nat),e.gen⟩:=List.getElem?_set_self hlt
   have ho2:oOk enE (t.l.set i ⟨1,(s:Nat),e.gen⟩) t.o:=ho.set _ _
   rw[List.set_set];refine zbC ?_;refine K.drawn _ [(0,0),(1,1),(2,1),(3,1),(4,1),(5,2),(6,2),(7,2)] (by kernel_rfl) (by kernel_rfl) (by kernel_rfl) (by kernel_rfl) (by kernel_rfl) (by kernel_rfl) (Part.takeA JA.head (Part.take jI.head (Part.take jI.head (Part.take jI.head (Part.drop (Part.drop (Part.drop Part.all))))))) ?_;refine zo ?_;refine zeP ?_;refine KD.v1 rfl rfl (Val.fieldSl (k:=2) rfl rfl) ?_;refine KD.v1 rfl rfl (Val.loadP rfl rfl (jJ.sl (Sli.own jj (by assumption) jF) (by assumption) rfl)) ?_;refine zkt ?_;refine zcp ?_;refine zkt ?_;refine zcp ?_;refine zcl ?_;refine zjY ?_;refine zef ?_;refine KE.part ((l, .loop (rc .busy none))::((D, .deferred (some []))::(b6,cells [.int .i64 0] 30)::(b5,cells [.int .u32 e.gen] 224)::(b4,cells [.int .i64 (i:Nat)] 3)::(b3,cells [.int .i64 (s:Nat)] 3)::(b2,cells [.pointer (some ⟨t.b,0,none⟩)] 123)::(c1,cells [.pointer (some ⟨t.b,0,none⟩)] 123)::(c2,cells [.int .i64 0] 3)::(jK ⟨t.b,t.l.set i ⟨1,(s:Nat),e.gen⟩,t.gens,t.o⟩++F))) (by simp only[Jr,hcs,List.length_set];exact ja) ?_;exact KE.roundR jI.head ⟨rfl,i,e,he,hF,rfl⟩
  ·rintro _ _ (⟨hno,rfl⟩|⟨i,e,he,hF,rfl⟩)
   ·refine .inl ⟨_,?_,rfl,freeT_no hno⟩;exact zlk
   ·exact .inr ⟨.ret,_,ja,rfl,i,e,he,hF,rfl⟩
 ·rintro D G ⟨rfl,hF⟩
  have h1:jbd t.l=(0,0,131):=by unfold jbd;rw [hF]
  have h2:jH t.l (s:Nat)=t.l:=by unfold jH;rw [hF]
  refine zaw ?_;refine zV ?_;refine zaq ?_;refine zaq ?_;refine zdB ?_;exact KE.fin (H':=jK t++F) je rfl jd ja ⟨t,ok,rfl,rfl,h2.symm,by rw[h1];rfl,rfl⟩
 ·rintro D c G ⟨rfl,i,e,he,hF,rfl⟩
  have h1:jbd t.l=(((i:Nat):Int),e.gen,0):=by unfold jbd;rw [hF];dsimp only;rw [jct he]
  have h2:jH t.l (s:Nat)=t.l.set i ⟨1,(s:Nat),e.gen⟩:=by unfold jH;rw [hF];dsimp only;rw [jct he]
  have hb:=ok.e e (List.mem_of_getElem? he)
  refine ziP ?_;exact KE.fin (H':=jK ⟨t.b,t.l.set i ⟨1,(s:Nat),e.gen⟩,t.gens,t.o⟩++F) je rfl jd ja ⟨⟨t.b,t.l.set i ⟨1,(s:Nat),e.gen⟩,t.gens,t.o⟩,jfy ok (by dsimp only;omega),rfl,rfl,h2.symm,by rw[h1];rfl,rfl⟩
end
end Go.Proofs.YtebiafomiemgbaaGreatDoor.Sw
