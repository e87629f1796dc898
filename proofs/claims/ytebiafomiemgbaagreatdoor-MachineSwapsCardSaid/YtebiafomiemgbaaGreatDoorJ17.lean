/-The walker and the contracts that the law needs,part 17. -/
import Derived.Test.YtebiafomiemgbaaGreatDoorJ14
set_option linter.unusedVariables false set_option linter.unusedSimpArgs false set_option linter.unusedVariables false
set_option linter.unusedSimpArgs false
namespace Go.Proofs.YtebiafomiemgbaaGreatDoor.Sw
set_option maxHeartbeats 8000000
open Go.Proofs.YtebiafomiemgbaaGreatDoor renaming lo → qL, hi → qH
open Go.RowKit
set_option maxRecDepth 10000
def baseP (R:List (List Int)) (t:Nat):Nat:=((R.take t).map List.length).sum
def jaY (R:List (List Int)):List Int:=(List.range (R.length+1)).map fun t=>((baseP R t:Nat):Int)
theorem jkL (R:List (List Int)):(jaY R).length=R.length+1:=by simp[jaY]
theorem jkM {R:List (List Int)} {t:Nat} (h:t≤R.length):(jaY R)[t]?=some ((baseP R t:Nat):Int):=by
 grind[jaY]
theorem jl4 (R:List (List Int)):R.flatten.length=(R.map List.length).sum:=by
 grind
theorem jeH {A B:List (List Int)} {x:List Int}:baseP (A++x::B) A.length=A.flatten.length∧baseP (A++x::B) (A.length+1)=A.flatten.length+x.length:=by
 grind[baseP]
theorem jeK {R:List (List Int)} {t:Nat} {x:List Int} (h:R[t]?=some x): ∃ A B,R=A++x::B∧A.length=t:=by
 obtain⟨hl,e⟩:=List.getElem?_eq_some_iff.1 h
 exact⟨R.take t,R.drop (t+1),by rw[←e,←List.drop_eq_getElem_cons hl,List.take_append_drop],by grind⟩
theorem jdJ {R:List (List Int)} {t:Nat} {x:List Int} (h:R[t]?=some x):baseP R (t+1)=baseP R t+x.length∧baseP R t+x.length≤R.flatten.length:=by
 grind[jeK,jeH]
theorem flat_at_r {R:List (List Int)} {t i:Nat} {x:List Int} {w:Int} (h:R[t]?=some x) (hw:x[i]?=some w):R.flatten[baseP R t+i]?=some w:=by
 obtain⟨A,B,rfl,rfl⟩:=jeK h
 have hi:=jv hw
 rw[jeH.1,List.flatten_append,List.flatten_cons,List.getElem?_append_right (by omega),show A.flatten.length+i-A.flatten.length=i by omega,List.getElem?_append_left hi,hw]
theorem flat_part {R:List (List Int)} {t:Nat} {x:List Int} (h:R[t]?=some x):(R.flatten.take (baseP R t+x.length)).drop (baseP R t)=x:=by
 grind[jeK,jeH]
theorem set_r {R:List (List Int)} {t:Nat} {x x':List Int} (h:R[t]?=some x) (hl:x'.length=x.length):(R.set t x').flatten=R.flatten.take (baseP R t)++x'++R.flatten.drop (baseP R t+x.length)∧jaY (R.set t x')=jaY R:=by
 obtain⟨A,B,rfl,rfl⟩:=jeK h
 have hs:(A++x::B).set A.length x'=A++x'::B:=by simp
 constructor
 ·rw[hs,jeH.1,List.flatten_append,List.flatten_cons,List.flatten_append,List.flatten_cons,List.take_left',←List.append_assoc,←List.append_assoc,show A.flatten.length+x.length=(A.flatten++x).length by simp,List.drop_left']
  ·rfl
  ·rfl
 ·rw[hs];unfold jaY;simp only[List.length_append,List.length_cons]
  refine List.map_congr_left fun q _=>?_
  congr 1
  unfold baseP;rw[List.map_take,List.map_take]
  simp[hl]
theorem set_word {R:List (List Int)} {t i:Nat} {x:List Int} {w:Int} (h:R[t]?=some x) (hi:i<x.length):(R.set t (x.set i w)).flatten=R.flatten.set (baseP R t+i) w:=by
 obtain⟨A,B,rfl,rfl⟩:=jeK h
 have hs:(A++x::B).set A.length (x.set i w)=A++x.set i w::B:=by simp
 rw[hs,jeH.1,List.flatten_append,List.flatten_cons,List.flatten_append,List.flatten_cons,List.set_append_right _ _ (by omega),show A.flatten.length+i-A.flatten.length=i by omega,List.set_append_left _ _ hi]
theorem set_clear {R:List (List Int)} {t i h':Nat} {x:List Int} (h:R[t]?=some x) (hi:i≤h') (hh:h'≤x.length):(R.set t (cleared x i h' 0)).flatten=cleared R.flatten (baseP R t+i) (baseP R t+h') 0:=by
 obtain⟨A,B,rfl,rfl⟩:=jeK h
 have hs:(A++x::B).set A.length (cleared x i h' 0)=A++cleared x i h' 0::B:=by simp
 rw[hs,jeH.1,List.flatten_append,List.flatten_cons,List.flatten_append,List.flatten_cons];unfold cleared;rw[show A.flatten.length+h'-(A.flatten.length+i)=h'-i by omega,List.take_append,List.take_of_length_le (show A.flatten.length≤A.flatten.length+i by omega),show A.flatten.length+i-A.flatten.length=i by omega,List.take_append_of_le_length (by omega),List.drop_append,List.drop_of_length_le (show A.flatten.length≤A.flatten.length+h' by omega),List.nil_append,show A.flatten.length+h'-A.flatten.length=h' by omega,List.drop_append_of_le_length hh];simp only[List.append_assoc]
structure Ju where
 b:Nat
 R:List (List Int)
 ow:Own
 ob:Own
def jy (m:Ju):jb:=(m.b,cells [oV m.ow m.R.flatten.length,oV m.ob (jaY m.R).length] 142)::(oH uE 34 m.R.flatten m.ow++oH iE 3 (jaY m.R) m.ob)
theorem jaf {m:Ju} {F:jb}:jy m++F=(m.b,cells [oV m.ow m.R.flatten.length,oV m.ob (jaY m.R).length] 142)::(oH uE 34 m.R.flatten m.ow++(oH iE 3 (jaY m.R) m.ob++F)):=by
 simp[jy]
structure jak (m:Ju):Prop where
 w:oOk uE m.R.flatten m.ow
 b:oOk iE (jaY m.R) m.ob
 n:m.R.flatten.length≤1000000000
 t:1≤m.R.length∧m.R.length≤1000
theorem subV_two {o:Own} {n a b c d:Nat} (hn: ∀ ob,o=some ob→n≤ob.c) (h0:o=none→n=0) (hb:b≤n) (hcd:c<d) (hd:d≤b-a) (hab:a≤b):subV (subV (oV o n) a b 1) c d 1=subV (oV o n) (a+c) (a+d) 1:=by
 cases o with
 |none=>grind
 |some ob=>
  have:=hn ob rfl
  simp only[oV,subV];rw[if_neg (by omega),if_neg (by omega),if_neg (by omega)];simp only[Option.map_some,Addr.add]
  grind
theorem adr_sub {o:Own} {n a b:Nat} (hn: ∀ ob,o=some ob→n≤ob.c) (h0:o=none→n=0) (hab:a<b) (hb:b≤n):adr (subV (oV o n) a b 1) (0*1)=adr (oV o n) (a*1):=by
 cases o with
 |none=>grind
 |some ob=>
  have:=hn ob rfl
  simp only[oV,subV];rw[if_neg (by omega)];simp only[Option.map_some,Addr.add,adr]
  grind
theorem own_cap {E:Enc Int} {xs:List Int} {o:Own} (ok:oOk E xs o):(∀ ob,o=some ob→xs.length≤ob.c)∧(o=none→xs.length=0):=by
 grind[oOk]
open Go.RowKit
set_option maxRecDepth 10000
def jcL:Int→List Int→Bool
 |_,[]=>true
 |a,x::l=>decide (a<x)&&jcL x l
def JC (l:List Int):Bool:=decide (1≤l.length)&&decide (l.length≤8)&&decide ((l.getLast?).getD 65≤64)&&jcL 1 l
def jbL (b:Bool) (e:Int):Int:=if b then 0 else e
structure CkS where
 k:Nat
 last:Int
set_option maxRecDepth 10000 in
theorem Check_K {w0:World} {H:jb} {v:Value} {l:List Int} (hS:Sli w0 H iE v l) (hl:l.length≤140737488355328):
  Call Tryz.prog w0 126 [v] H (fun r H'=>r= .int .i64 (jbL (JC l) 2)∧H'=H):=by
 refine Call.enter1 (n:=34) (by kernel_rfl) Tryz.func126 rfl rfl rfl ?_
 by_cases h1:l.length<1
 ·have hc:JC l=false:=by simp[JC];omega
  have h1':((l.length:Nat):Int)<1:=by omega
  refine zai ?_;refine zen ?_;refine zhc ?_;refine zdJ ?_;refine zgv ?_;exact zeW
 by_cases h8:8<l.length
 ·have hc:JC l=false:=by simp[JC];omega
  refine zai ?_;refine zcy ?_;refine zfQ ?_;refine zaG ?_;refine zx ?_;refine zdJ ?_;refine zgv ?_;exact zeW
 obtain⟨z,hz⟩:=jh (l:=l) (k:=l.length-1) (by omega)
 have hzl:l.getLast?=some z:=by rw[List.getLast?_eq_getElem?];exact hz
 have hz':l[(((l.length:Nat):Int)-1).toNat]?=some z:=by rw[show(((l.length:Nat):Int)-1).toNat=l.length-1 by omega];exact hz
 by_cases h64:z>64
 ·have hc:JC l=false:=by simp[JC,hzl];omega
  refine zai ?_;refine zcy ?_;refine zfQ ?_;refine zim ?_;refine zer ?_;refine zn3 ?_;refine zl ?_;refine zn4 ?_;refine zl ?_;refine zdm ?_;refine zl ?_;refine zaG ?_;refine za8 ?_;refine zaE ?_;exact zeW
 have hcr:JC l=jcL 1 l:=by simp[JC,hzl];omega
 refine zai ?_;refine zcy ?_;refine zfQ ?_;refine zim ?_;refine zer ?_;refine zn3 ?_;refine zl ?_;refine zn4 ?_;refine zl ?_;refine zdm ?_;refine zl ?_;refine zaA ?_;refine zaX ?_;refine zad ?_;refine zcm ?_;refine K.loopT (σ:=CkS) [(23,_),(24,_)] (fun s kp_=>(25, .int .i64 (s.k:Nat))::(3, .int .i64 s.last)::kp_) (fun s=>H) (fun s=>s.k≤l.length∧jcL 1 l=jcL s.last (l.drop s.k)) (fun s=>l.length-s.k) (⟨0,1⟩) jc ja (⟨by simp,by simp⟩) ?_;rintro⟨k,last⟩ ⟨hk,hr⟩;dsimp only at hk hr⊢
 by_cases hlt:k<l.length
 ·obtain⟨x,hx⟩:=jh hlt
  have hd:l.drop k=x::l.drop (k+1):=by
   obtain⟨h1,e⟩:=List.getElem?_eq_some_iff.1 hx
   rw[List.drop_eq_getElem_cons h1,e]
  rw[hd] at hr;simp only[jcL] at hr
  by_cases hxl:x≤last
  ·have hc:JC l=false:=by rw[hcr,hr];simp;omega
   refine zhq ?_;refine zeD ?_;refine zec ?_;refine zgx ?_;refine zbG ?_;refine zrv ?_;exact zeW
  ·rw[decide_eq_true (show last<x by omega),Bool.true_and] at hr;refine zhq ?_;refine zeD ?_;refine zhN ?_;refine zdn ?_;refine zj ?_;refine zaK ?_;refine zb0 ?_;exact KE.again ⟨k+1,x⟩ jc ja ⟨by show k+1≤_;omega,hr⟩ (by show l.length-(k+1)<l.length-k;omega)
 ·have hc:JC l=true:=by rw[hcr,hr,List.drop_of_length_le (by omega)];rfl
  refine zc5 ?_;refine zdf ?_;exact zeW
def jag:List Int→Bool
 |a::b::c::l=>decide (a≤b)&&(decide (b≤c)&&jag l)
 |_=>true
structure WiS where
 k:Nat
set_option maxHeartbeats 1000000 in
theorem jin {w0:World} {H:jb} {v:Value} {l:List Int} {n:Nat} (hS:Sli w0 H iE v l) (hl:l.length=3*n) (hn:n≤140737488355328):
  Call Tryz.prog w0 128 [v] H (fun r H'=>r= .bool (jag l)∧H'=H):=by
 refine Call.enter1 (n:=34) (by kernel_rfl) Tryz.func128 rfl rfl rfl ?_;refine zG ?_;refine zbs ?_;refine K.loopT (σ:=WiS) [(0,_)] (fun s kp_=>(3, .int .i64 ((3*s.k:Nat):Int))::kp_) (fun s=>H) (fun s=>s.k≤n∧jag l=jag (l.drop (3*s.k))) (fun s=>n-s.k) (⟨0⟩) jc ja (⟨by simp,by simp⟩) ?_;rintro⟨k⟩ ⟨hk,hr⟩;dsimp only at hk hr⊢
 by_cases hlt:k<n
 ·obtain⟨a,ha⟩:=jh (l:=l) (k:=3*k) (by omega)
  obtain⟨b,hb⟩:=jh (l:=l) (k:=3*k+1) (by omega)
  obtain⟨c,hc⟩:=jh (l:=l) (k:=3*k+2) (by omega)
  have hd:l.drop (3*k)=a::b::c::l.drop (3*(k+1)):=by
   obtain⟨h1,e1⟩:=List.getElem?_eq_some_iff.1 ha
   obtain⟨h2,e2⟩:=List.getElem?_eq_some_iff.1 hb
   obtain⟨h3,e3⟩:=List.getElem?_eq_some_iff.1 hc
   rw[List.drop_eq_getElem_cons h1,List.drop_eq_getElem_cons h2,List.drop_eq_getElem_cons h3,e1,e2,e3]
   rfl
  rw[hd] at hr;simp only[jag] at hr
  by_cases hab:b<a
  ·have hf:jag l=false:=by rw[hr,decide_eq_false (show ¬a≤b by omega)];rfl
   refine zdo ?_;refine zeo ?_;refine zj ?_;refine zen ?_;refine zkz ?_;refine zqe ?_;refine zbo ?_;refine zn5 ?_;refine zqf ?_;refine zi3 ?_;refine znt ?_;refine zlL ?_;refine zfl ?_;refine zfV ?_;refine zgk ?_;refine zbD ?_;refine zcV ?_;exact zkf
  by_cases hbc:b>c
  ·have hf:jag l=false:=by rw[hr,decide_eq_false (show ¬b≤c by omega),Bool.false_and,Bool.and_false]
   refine zdo ?_;refine zeo ?_;refine zj ?_;refine zen ?_;refine zkz ?_;refine zqe ?_;refine zbo ?_;refine zn5 ?_;refine zqf ?_;refine zi3 ?_;refine ziR ?_;refine zaZ ?_;refine zn7 ?_;refine ziU ?_;refine zaZ ?_;refine zn7 ?_;refine ziU ?_;refine zn8 ?_;refine zbr ?_;refine zhP ?_;exact zkf
  rw[decide_eq_true (show a≤b by omega),decide_eq_true (show b≤c by omega),Bool.true_and,Bool.true_and] at hr;refine zdo ?_;refine zeo ?_;refine zj ?_;refine zen ?_;refine zkz ?_;refine zqe ?_;refine zbo ?_;refine zn5 ?_;refine zqf ?_;refine zi3 ?_;refine ziR ?_;refine zaZ ?_;refine zn7 ?_;refine ziU ?_;refine zaZ ?_;refine zn7 ?_;refine ziU ?_;refine zlM ?_;refine zbr ?_;refine zfC ?_;refine zep ?_;exact KE.again ⟨k+1⟩ jc ja ⟨by show k+1≤_;omega,hr⟩ (by show n-(k+1)<n-k;omega)
 ·have hf:jag l=true:=by rw[hr,List.drop_of_length_le (by omega)];rfl
  refine zdo ?_;refine zeo ?_;refine zj ?_;refine zno ?_;refine zdf ?_;exact zdq
set_option maxRecDepth 10000
theorem jex: ∀ {l:List Int} {a:Int},jcL a l=true→(∀ x∈l,a<x)∧l.Pairwise (· < ·)
 | [],a,_=>⟨by simp,List.Pairwise.nil⟩
 |x::l,a,h=>by
  simp only[jcL,Bool.and_eq_true,decide_eq_true_eq] at h
  obtain⟨h1,h2⟩:=jex h.2
  refine⟨fun y hy=>?_,List.pairwise_cons.2 ⟨h1,h2⟩⟩
  grind
theorem jhU {l:List Int} (h:JC l=true) {i j:Nat} {x y:Int} (hij:i≤j) (hx:l[i]?=some x) (hy:l[j]?=some y):x≤y:=by
 simp only[JC,Bool.and_eq_true] at h
 have hp:=(jex h.2).2
 rcases Nat.lt_or_ge i j with h1|h1
 ·obtain⟨g1,e1⟩:=List.getElem?_eq_some_iff.1 hx
  obtain⟨g2,e2⟩:=List.getElem?_eq_some_iff.1 hy
  have:=List.pairwise_iff_getElem.1 hp i j g1 g2 h1
  omega
 grind
structure SeS where
 i:Nat
 j:Nat
set_option maxRecDepth 10000 in
theorem jlS {w0:World} {H:jb} {fv:Value} {n:Nat} (p:Nat→Bool) (hn:n≤140737488355328) (hmono: ∀ i j,i≤j→j<n→p i=true→p j=true)
  (hy: ∀ i,i<n→CallV Tryz.prog w0 fv [.int .i64 (i:Nat)] H (fun r H'=>r= .bool (p i)∧H'=H)):
  Call Tryz.prog w0 246 [.int .i64 (n:Nat),fv] H (fun r H'=> ∃ i:Nat,i≤n∧(∀ j,j<i→p j=false)∧(∀ j,i≤j→j<n→p j=true)∧r= .int .i64 (i:Nat)∧H'=H):=by
 refine Call.enter2 (n:=26) (by kernel_rfl) Tryz.func246 rfl rfl rfl ?_;refine zfT ?_;refine zli ?_;refine KL.nil (KE.next (K.seq (K.block ?_)));refine K.loopT (σ:=SeS) [(1,_)] (fun s kp_=>(5, .int .i64 (s.i:Nat))::(6, .int .i64 (s.j:Nat))::kp_) (fun s=>H) (fun s=>s.i≤s.j∧s.j≤n∧(∀ q,q<s.i→p q=false)∧(∀ q,s.j≤q→q<n→p q=true)) (fun s=>s.j-s.i) (⟨0,n⟩) jc ja (⟨by simp,by simp,fun q hq=>by simp at hq,fun q h1 h2=>by dsimp only at h1;omega⟩) ?_;rintro⟨i,j⟩ ⟨hij,hjn,hlo,hhi⟩;dsimp only at hij hjn hlo hhi⊢
 by_cases hlt:i<j
 ·have hmid:IntKind.i64.wrap (((i:Int)+(j:Int)).fdiv (2^min (Int.toNat 1) IntKind.u64.bits))=(((i+j)/2:Nat):Int):=by
   have e:(2:Int)^min (Int.toNat 1) IntKind.u64.bits=2:=by decide
   rw[e]
   have e2:((i:Int)+(j:Int)).fdiv 2=(((i+j)/2:Nat):Int):=by
    rw[Int.fdiv_eq_ediv_of_nonneg _ (by omega)];omega
   rw[e2];exact jeJ (by simp only[qL,qH];omega)
  obtain⟨h,hh⟩: ∃ h,h=(i+j)/2:=⟨_,rfl⟩
  rw[←hh] at hmid
  have hih:i≤h:=by omega
  have hhj:h<j:=by omega
  refine zpY ?_;refine KL.nil (KE.next (K.condT rfl (K.skip (KE.next (K.block (K.seq (K.region ?_)))))));refine zB ?_;refine zbl ?_;refine zdr ?_;refine zgL ?_;refine KL.v rfl (Val.convW rfl rfl rfl) ?_;refine zay ?_;refine zu fun T hT=>?_;rw[hmid] at hT⊢;refine(hy h (by omega)).mono ?_;rintro _ _ ⟨rfl,rfl⟩
  cases hp:p h with
  |true=>
   refine ze ?_;clear hT T;refine zy ?_;refine zkA ?_;refine zj ?_;refine zaK ?_;refine zaw ?_;exact KE.again ⟨i,h⟩ jc ja ⟨hih,by dsimp only;omega,hlo,fun q h1 h2=>hmono h q h1 h2 hp⟩ (by show h-i<j-i;omega)
  |false=>
   have hlo2: ∀ q,q<h+1→p q=false:=by
    intro q hq
    cases hpq:p q with
    |false=>rfl
    |true=>
     have:=hmono q h (by omega) (by omega) hpq
     rw[hp] at this
     cases this
   refine ze ?_;clear hT T;refine zag ?_;refine zak ?_;refine zpx ?_;refine zaw ?_;exact KE.again ⟨h+1,j⟩ jc ja ⟨by dsimp only;omega,hjn,hlo2,hhi⟩ (by show j-(h+1)<j-i;omega)
 ·have:i=j:=by omega
  subst this;refine zgy ?_;refine zib ?_;exact KE.fin je rfl jd ja ⟨i,by omega,hlo,hhi,rfl,rfl⟩
structure MxS where
 k:Nat
 z:Int
theorem Max_K {w0:World} {H:jb} {v:Value} {l:List Int} {top:Int} (hS:Sli w0 H iE v l) (hl:l.length≤140737488355328) (ht:l.getLast?=some top) (hr:l.Pairwise (· < ·)):
  Call Tryz.prog w0 127 [v] H (fun r H'=>r= .int .i64 top∧H'=H):=by
 have h0:0<l.length:=by
  grind
 obtain⟨z,hz⟩:=jh (l:=l) (k:=0) h0
 have hz':l[Int.toNat 0]?=some z:=hz
 refine Call.enter1 (n:=25) (by rfl) Tryz.func127 rfl rfl rfl ?_;refine zai ?_;refine zcy ?_;refine zba ?_;refine zfP ?_;refine zbs ?_;refine K.loopT (σ:=MxS) [(0,_)] (fun s kp_=>(4, .int .i64 (s.k:Nat))::(3, .int .i64 s.z)::kp_) (fun s=>H) (fun s=>1≤s.k∧s.k≤l.length∧l[s.k-1]?=some s.z) (fun s=>l.length-s.k) (⟨1,z⟩) jc ja (⟨by simp,by grind,hz⟩) ?_;rintro⟨k,m⟩ ⟨hk1,hk,hm⟩;dsimp only at hk1 hk hm⊢
 by_cases hlt:k<l.length
 ·obtain⟨x,hx⟩:=jh hlt
  have hmx:m<x:=by
   obtain⟨g1,e1⟩:=List.getElem?_eq_some_iff.1 hm
   obtain⟨g2,e2⟩:=List.getElem?_eq_some_iff.1 hx
   have:=List.pairwise_iff_getElem.1 hr (k-1) k g1 g2 (by omega)
   omega
  refine zdV ?_;refine zkB ?_;refine zB ?_;refine zj ?_;refine zfP ?_;refine KL.v rfl (Val.max rfl rfl) ?_;refine zaK ?_;refine zcj ?_;exact KE.again ⟨k+1,if m<x then x else m⟩ jc ja ⟨by grind,by grind,by grind⟩ (by grind)
 ·have hke:k=l.length:=by omega
  have hmt:m=top:=by
   grind
  refine zcR ?_;refine zib ?_;exact KE.fin je rfl jd ja ⟨by rw[hmt];rfl,rfl⟩
open Go.RowKit
set_option maxRecDepth 10000
structure Tn where
 quota:Int
 trigger:Int
 caps:Int
 assist:Int
def tnE:Enc Tn:=⟨fun t=> [.int .i64 t.quota, .int .i64 t.trigger, .int .i64 t.caps, .int .i64 t.assist],4,fun _=>rfl,by intro x v hv;simp at hv;rcases hv with rfl|rfl|rfl|rfl<;>rfl⟩
structure Cfg where
 cl:List Int
 page:Int
 tn:List Tn
 workers:Int
 grey:Int
 gens:Int
def topP (l:List Int):Int:=(l.getLast?).getD 0
def jcc (great:Int) (t:Tn):Bool:=jag [great,t.quota,4096,1,t.trigger,1048576,1,t.caps,1024,0,t.assist,1024]
def jcM (c:Cfg):Bool:=jag [topP c.cl,c.page,64,1,(c.tn.length:Nat),8,0,c.workers,8,1,c.grey,64,1,c.gens,2147483648]
def jz (c:Cfg):Bool:=JC c.cl&&(jcM c&&c.tn.all (jcc (topP c.cl)))
def jG (c:Cfg) (vc vt:Value):List Value:=[vc, .int .i64 c.page,vt, .int .i64 c.workers, .int .i64 c.grey, .int .i64 c.gens]
def jr (c:Cfg) (vc vt:Value):Value:= .agg (jG c vc vt).toArray
structure Jc (w0:World) (H:jb) (c:Cfg) (vc vt:Value):Prop where
 cl:Sli w0 H iE vc c.cl
 tn:Sli w0 H tnE vt c.tn
 one1:vc.cells=[vc].toArray
 one2:vt.cells=[vt].toArray
 len1:c.cl.length≤140737488355328
 len2:c.tn.length≤140737488355328
theorem Jc.part {w0:World} {H H':jb} {c:Cfg} {vc vt:Value} (h:Jc w0 H' c vc vt) (hp:Part H H'):Jc w0 H c vc vt:=
 ⟨h.cl.part hp,h.tn.part hp,h.one1,h.one2,h.len1,h.len2⟩
structure CcS where
 k:Nat
theorem jjD {w0:World} {H:jb} {c:Cfg} {vc vt:Value} (hR:Jc w0 H c vc vt):
  Call Tryz.prog w0 101 [jr c vc vt] H (fun r H'=>r= .int .i64 (jbL (jz c) 2)∧H'=H):=by
 obtain⟨hS,hT',o1,o2,l1,l2⟩:=hR
 obtain⟨cl,page,tn,workers,grey,gens⟩:=c
 dsimp only at hS hT' l1 l2;simp only[jr,jG];refine Call.enter1 (n:=51) (by rfl) Tryz.func101 rfl rfl rfl ?_;refine zbY ?_;intro b1;refine ziE ?_;refine zu fun T hT=>?_;refine(CallV.fn (Check_K (l:=cl) (hS.part ja) l1)).mono ?_;rintro _ _ ⟨rfl,rfl⟩
 cases hc:JC cl with
 |false=>
  have hf:jz ⟨cl,page,tn,workers,grey,gens⟩=false:=by grind[jz]
  refine znB ?_;clear hT T;refine zap ?_;refine zM ?_;refine zao ?_;refine zrx ?_;exact zdq
 |true=>
  simp only[jbL,if_true]
  have hcc:=hc
  simp only[JC,Bool.and_eq_true,decide_eq_true_eq] at hcc
  obtain⟨z,hz⟩:=jh (l:=cl) (k:=cl.length-1) (by omega)
  have hzl:cl.getLast?=some z:=by grind
  have htop:topP cl=z:=by grind[topP]
  refine ze ?_;clear hT T;refine zbR ?_;refine zK ?_;refine zN ?_;refine zp ?_;refine jp (Max_K (l:=cl) (top:=z) (hS.part ja) l1 hzl (jex hcc.2).2) ?_;refine zad ?_;refine zae ?_;refine zd6 ?_;refine zby ?_;refine zdg ?_;refine zdi ?_;refine zar ?_;intro b28;refine zu fun T hT=>?_;refine(CallV.fn (jin (l:=[z,page,64,1,(tn.length:Nat),8,0,workers,8,1,grey,64,1,gens,2147483648]) (n:=5) (Sli.blk ju rfl (by simp) (by decide) rfl) rfl (by decide))).mono ?_;rintro _ _ ⟨rfl,rfl⟩
  cases hp:jag [z,page,64,1,(tn.length:Nat),8,0,workers,8,1,grey,64,1,gens,2147483648] with
  |false=>
   have hf:jz ⟨cl,page,tn,workers,grey,gens⟩=false:=by grind[jz,jcM]
   refine ze ?_;clear hT T;refine zaQ ?_;refine zaE ?_;exact zdq
  |true=>
   have hcr:jz ⟨cl,page,tn,workers,grey,gens⟩=tn.all (jcc z):=by grind[jz,jcM]
   refine ze ?_;clear hT T;refine zy ?_;refine za6 ?_;refine zaa ?_;refine zcm ?_;refine K.loopT (σ:=CcS) [(4,_),(32,_),(33,_)] (fun s kp_=>(34, .int .i64 (s.k:Nat))::kp_) (fun s=>H) (fun s=>s.k≤tn.length∧tn.all (jcc z)=(tn.drop s.k).all (jcc z)) (fun s=>tn.length-s.k) (⟨0⟩) jc ja (⟨by simp,by simp⟩) ?_;rintro⟨k⟩ ⟨hk,hr⟩;dsimp only at hk hr⊢
   by_cases hlt:k<tn.length
   ·obtain⟨t,ht⟩:=jh hlt
    have hd:tn.drop k=t::tn.drop (k+1):=by
     obtain⟨h1,e⟩:=List.getElem?_eq_some_iff.1 ht
     rw[List.drop_eq_getElem_cons h1,e]
    rw[hd,List.all_cons] at hr
    obtain⟨q,tr,cp,ax⟩:=t
    refine zhw ?_;intro b6;refine zrD ?_;refine zaa ?_;refine zby ?_;refine zar ?_;intro b47;refine zu fun T hT=>?_;refine(CallV.fn (jin (l:=[z,q,4096,1,tr,1048576,1,cp,1024,0,ax,1024]) (n:=4) (Sli.blk ju rfl (by simp) (by decide) rfl) rfl (by decide))).mono ?_;rintro _ _ ⟨rfl,rfl⟩
    have htp:jcc z ⟨q,tr,cp,ax⟩=jag [z,q,4096,1,tr,1048576,1,cp,1024,0,ax,1024]:=rfl
    cases hw:jag [z,q,4096,1,tr,1048576,1,cp,1024,0,ax,1024] with
    |false=>
     have hf:jz ⟨cl,page,tn,workers,grey,gens⟩=false:=by grind
     refine ze ?_;clear hT T;refine zaQ ?_;exact zkf
    |true=>
     rw[htp,hw,Bool.true_and] at hr;refine ze ?_;clear hT T;refine zy ?_;refine zpV ?_;exact KE.again ⟨k+1⟩ jc ja ⟨by grind,hr⟩ (by grind)
   ·have hf:jz ⟨cl,page,tn,workers,grey,gens⟩=true:=by grind
    refine zc5 ?_;refine zdf ?_;exact zdq
open Go.RowKit
set_option maxRecDepth 10000
structure CfgOk (c:Cfg):Prop where
 cl:1≤c.cl.length∧c.cl.length≤8
 tn:1≤c.tn.length∧c.tn.length≤8
 el: ∀ x∈c.cl,1<x∧x≤topP c.cl
 page:topP c.cl≤c.page∧c.page≤64
 workers:0≤c.workers∧c.workers≤8
 grey:1≤c.grey∧c.grey≤64
 gens:1≤c.gens∧c.gens≤2147483648
 ten: ∀ t∈c.tn,(topP c.cl≤t.quota∧t.quota≤4096)∧(1≤t.trigger∧t.trigger≤1048576)∧(1≤t.caps∧t.caps≤1024)∧(0≤t.assist∧t.assist≤1024)
theorem Jf {c:Cfg} (h:jz c=true):CfgOk c:=by
 simp only[jz,jcM,Bool.and_eq_true,List.all_eq_true,jcc,jag,decide_eq_true_eq] at h
 obtain⟨hc,⟨p1,p2,p3,p4,p5,p6,p7,p8,p9,p10,_⟩,ht⟩:=h
 have hcc:=hc
 simp only[JC,Bool.and_eq_true,decide_eq_true_eq] at hcc
 obtain⟨⟨⟨c1,c2⟩,c3⟩,c4⟩:=hcc
 refine⟨⟨c1,c2⟩,⟨by omega,by omega⟩,?_,⟨p1,p2⟩,⟨p5,p6⟩,⟨p7,p8⟩,⟨p9,p10⟩,?_⟩
 ·intro x hx;refine⟨(jex c4).1 x hx,?_⟩
  obtain⟨i,hi⟩:=List.getElem?_of_mem hx
  obtain⟨z,hz⟩:=jh (l:=c.cl) (k:=c.cl.length-1) (by omega)
  have:=jhU hc (by grind:i≤c.cl.length-1) hi hz
  grind[topP]
 grind
def JB (c:Cfg) (t k:Int):Bool:=jz c&&jag [0,t,(c.tn.length:Nat)-1,0,k,(c.cl.length:Nat)-1]
theorem jcQ {c:Cfg} {t k:Int} (h:JB c t k=true): ∃ (i j:Nat) (x:Tn) (y:Int),t=i∧k=j∧c.tn[i]?=some x∧c.cl[j]?=some y∧CfgOk c:=by
 simp only[JB,Bool.and_eq_true,jag,decide_eq_true_eq] at h
 obtain⟨hc,h1,h2,h3,h4,_⟩:=h
 obtain⟨x,hx⟩:=jh (l:=c.tn) (k:=t.toNat) (by omega)
 obtain⟨y,hy⟩:=jh (l:=c.cl) (k:=k.toNat) (by omega)
 grind[Jf]
theorem jiZ {w0:World} {H:jb} {c:Cfg} {vc vt:Value} {t k:Int} (hR:Jc w0 H c vc vt):
  Call Tryz.prog w0 105 [jr c vc vt, .int .i64 t, .int .i64 k] H (fun r H'=>r= .bool (JB c t k)∧H'=H):=by
 have hc0:=fun A (hp:Part A H)=>jjD (hR.part hp)
 obtain⟨hS,hT',o1,o2,l1,l2⟩:=hR
 have he:JB c t k=(jz c&&jag [0,t,(c.tn.length:Nat)-1,0,k,(c.cl.length:Nat)-1]):=rfl
 obtain⟨cl,page,tn,workers,grey,gens⟩:=c
 dsimp only at hS hT' l1 l2 he;simp only[jr,jG] at hc0⊢;refine Call.enter3 (n:=24) (by rfl) Tryz.func105 rfl rfl rfl ?_;refine zbN ?_;intro b3;refine zcY fun T hT=>?_;refine zkC ?_;rintro _ _ ⟨rfl,rfl⟩
 cases hc:jz ⟨cl,page,tn,workers,grey,gens⟩ with
 |false=>
  rw[hc,Bool.false_and] at he;refine znB ?_;clear hT T;refine zC ?_;refine zdZ ?_;refine zcM ?_;refine zcM ?_;refine zcM ?_;refine zcA ?_;exact zfD
 |true=>
  rw[hc,Bool.true_and] at he;simp only[jbL,if_true];refine ze ?_;clear hT T;refine zg7 ?_;refine ziD ?_;refine ziO ?_;refine zaV ?_;refine zjV ?_;refine ziO ?_;refine zar ?_;intro b21;refine zis ?_;refine jp (jin (l:=[0,t,(tn.length:Nat)-1,0,k,(cl.length:Nat)-1]) (n:=2) (Sli.blk ju rfl (by simp) (by decide) rfl) rfl (by decide)) ?_;refine zdh ?_;exact zfD
set_option maxRecDepth 10000
def rnP (x a b:Int):Bool:=decide (a≤x)&&decide (x≤b)
theorem rfrom_K {w0:World} {H:jb} {x a b:Int}:Call Tryz.prog w0 75 [.int .i64 x, .int .i64 a, .int .i64 b] H (fun r H'=>r= .bool (rnP x a b)∧H'=H):=by
 refine Call.enter3 (n:=15) (by rfl) Tryz.func75 rfl rfl rfl ?_
 by_cases h1:x≥a
 ·have he:rnP x a b=decide (x≤b):=by grind[rnP]
  refine zc6 ?_;refine zac ?_;refine ze3 ?_;refine KL.v rfl (Val.leq rfl rfl) ?_;refine zdh ?_;exact zfD
 ·have he:rnP x a b=false:=by grind[rnP]
  refine zc6 ?_;refine zpy ?_;refine zm ?_;exact zfD
theorem class_el {l:List Int} (h:JC l=true):(∀ x∈l,1<x∧x≤64)∧l.Pairwise (· < ·):=by
 have hc:=h
 simp only[JC,Bool.and_eq_true,decide_eq_true_eq] at hc;refine⟨fun x hx=>⟨(jex hc.2).1 x hx,?_⟩,(jex hc.2).2⟩
 obtain⟨i,hi⟩:=List.getElem?_of_mem hx
 obtain⟨z,hz⟩:=jh (l:=l) (k:=l.length-1) (by omega)
 have h1:=jhU h (by grind:i≤l.length-1) hi hz
 grind
structure RcS where
 k:Nat
 last:Int
set_option maxHeartbeats 1000000 in
theorem jlc {w0:World} {H:jb} {v:Value} {l:List Int} (hS:Sli w0 H iE v l) (hl:l.length≤140737488355328):
  Call Tryz.prog w0 74 [v] H (fun r H'=>r= .int .i64 (jbL (JC l) 2)∧H'=H):=by
 refine Call.enter1 (n:=46) (by kernel_rfl) Tryz.func74 rfl rfl rfl ?_
 by_cases h1:l.length<1
 ·have hc:JC l=false:=by simp[JC];omega
  have h1':((l.length:Nat):Int)<1:=by omega
  refine zai ?_;refine zen ?_;refine zem ?_;refine zgv ?_;exact zeW
 by_cases h8:8<l.length
 ·have hc:JC l=false:=by simp[JC];omega
  refine zai ?_;refine zcy ?_;refine zfQ ?_;refine zaG ?_;refine za8 ?_;refine zaE ?_;exact zeW
 refine zai ?_;refine zcy ?_;refine zfQ ?_;refine zim ?_;refine zfm ?_;refine K.loopT (σ:=RcS) [(0,_)] (fun s kp_=>(3, .int .i64 (s.k:Nat))::kp_) (fun s=>H) (fun s=>s.k≤l.length∧jcL 1 l=jcL s.last (l.drop s.k)∧(s.k=0→s.last=1)∧(0<s.k→l[s.k-1]?=some s.last)∧s.last≤64) (fun s=>l.length-s.k) (⟨0,1⟩) jc ja (⟨by simp,by simp,by simp,by simp,by simp⟩) ?_;rintro⟨k,last⟩ ⟨hk,hr,hz,hp,h64⟩;dsimp only at hk hr hz hp h64⊢
 by_cases hlt:k<l.length
 ·obtain⟨x,hx⟩:=jh hlt
  have hmem:=List.mem_of_getElem? hx
  have hd:l.drop k=x::l.drop (k+1):=by
   obtain⟨h1,e⟩:=List.getElem?_eq_some_iff.1 hx
   rw[List.drop_eq_getElem_cons h1,e]
  have hfalse:(x<2∨x>64∨(0<k∧x≤last))→JC l=false:=by
   intro h
   cases hc:JC l with
   |false=>rfl
   |true=>
    exfalso
    obtain⟨e1,e2⟩:=class_el hc
    have:=e1 x hmem
    rcases h with h|h|⟨h,h'⟩
    ·omega
    ·omega
    ·obtain⟨g1,f1⟩:=List.getElem?_eq_some_iff.1 (hp h)
     obtain⟨g2,f2⟩:=List.getElem?_eq_some_iff.1 hx
     have:=List.pairwise_iff_getElem.1 e2 (k-1) k g1 g2 (by omega)
     rw[f1,f2] at this
     omega
  by_cases hx2:x<2
  ·have hc:=hfalse (.inl hx2)
   refine zln ?_;refine zlN ?_;refine znt ?_;refine zlL ?_;refine zfl ?_;refine zeg ?_;refine zbD ?_;refine zo ?_;refine zgk ?_;refine zeE ?_;refine zeE ?_;refine zeE ?_;refine zeE ?_;refine zeE ?_;refine zeg ?_;refine zbD ?_;refine zcV ?_;refine zda ?_;exact zeW
  by_cases hx64:x>64
  ·have hc:=hfalse (.inr (.inl hx64))
   refine zln ?_;refine zlN ?_;refine ziR ?_;refine zhb ?_;refine zn8 ?_;refine zcr ?_;refine zo ?_;refine zgk ?_;refine zeE ?_;refine zeE ?_;refine zeE ?_;refine zeE ?_;refine zeE ?_;refine zeg ?_;refine zbD ?_;refine zcV ?_;refine zda ?_;exact zeW
  by_cases hk0:0<k
  ·have hp':=hp hk0
   have hp2:l[((k:Int)-1).toNat]?=some last:=by rw[show((k:Int)-1).toNat=k-1 by omega];exact hp'
   by_cases hxl:x≤last
   ·have hc:=hfalse (.inr (.inr ⟨hk0,hxl⟩))
    refine zln ?_;refine zlN ?_;refine ziR ?_;refine zhb ?_;refine zlM ?_;refine zcr ?_;refine zo ?_;refine zca ?_;refine zn8 ?_;refine zaZ ?_;refine zca ?_;refine znA ?_;refine zaZ ?_;refine KD.y0 rfl rfl rfl rfl (Val.sub rfl rfl (by simp only[qL,qH];omega)) ?_;refine ziU ?_;refine KD.y0 rfl rfl rfl rfl (Val.isT (Val.leq rfl rfl) jO) ?_;refine zi4 ?_;refine zbr ?_;refine zhP ?_;refine zda ?_;exact zeW
   ·rw[hd] at hr;simp only[jcL] at hr;rw[decide_eq_true (show last<x by omega),Bool.true_and] at hr;refine zln ?_;refine zlN ?_;refine ziR ?_;refine zhb ?_;refine zlM ?_;refine zcr ?_;refine zo ?_;refine zca ?_;refine zn8 ?_;refine zaZ ?_;refine zca ?_;refine znA ?_;refine zaZ ?_;refine KD.y0 rfl rfl rfl rfl (Val.sub rfl rfl (by simp only[qL,qH];omega)) ?_;refine ziU ?_;refine KD.y0 rfl rfl rfl rfl (Val.isF (Val.leq rfl rfl) jO) ?_;refine zi4 ?_;refine zbr ?_;refine zfC ?_;refine zep ?_;exact zr6
  ·have hk1:k=0:=by omega
   have hl1:=hz hk1
   have hk1': ¬((k:Nat):Int)>0:=by omega
   rw[hd] at hr;simp only[jcL] at hr;rw[decide_eq_true (show last<x by omega),Bool.true_and] at hr;refine zln ?_;refine zlN ?_;refine ziR ?_;refine zhb ?_;refine zlM ?_;refine zcr ?_;refine zo ?_;refine zca ?_;refine zlM ?_;refine zca ?_;refine zfV ?_;refine zfV ?_;refine zpz ?_;refine zlO ?_;refine zbr ?_;refine zfC ?_;refine zep ?_;exact zr6
 ·have hke:k=l.length:=by omega
  have hlast:=hp (by omega)
  have hzl:l.getLast?=some last:=by rw[List.getLast?_eq_getElem?,←hke];exact hlast
  have hc:JC l=true:=by
   rw[List.drop_of_length_le (by omega)] at hr;simp only[JC,Bool.and_eq_true,decide_eq_true_eq,hzl,Option.getD_some];exact⟨⟨⟨by omega,by omega⟩,by omega⟩,hr⟩
  refine zcR ?_;refine zdf ?_;exact zeW
open Go.RowKit
set_option maxRecDepth 10000
structure RkS where
 k:Nat
set_option maxHeartbeats 1000000 in
theorem jhG {w0:World} {H:jb} {c:Cfg} {vc vt:Value} (hR:Jc w0 H c vc vt):
  Call Tryz.prog w0 46 [jr c vc vt] H (fun r H'=>r= .int .i64 (jbL (jz c) 2)∧H'=H):=by
 obtain⟨hS,hT',o1,o2,l1,l2⟩:=hR
 obtain⟨cl,page,tn,workers,grey,gens⟩:=c
 dsimp only at hS hT' l1 l2;simp only[jr,jG]
 cases hc:JC cl with
 |false=>
  have hf:jz ⟨cl,page,tn,workers,grey,gens⟩=false:=by simp[jz,hc]
  refine Call.enter1 (n:=83) (by kernel_rfl) Tryz.func46 rfl rfl rfl ?_;refine zbY ?_;intro b1;refine ziE ?_;refine zu fun T hT=>?_;refine(CallV.fn (jlc (l:=cl) (hS.part ja) l1)).mono ?_;rintro _ _ ⟨rfl,rfl⟩;rw[hc];refine znB ?_;clear hT T;refine zM ?_;refine zgx ?_;exact zdq
 |true=>
  have hcc:=hc
  simp only[JC,Bool.and_eq_true,decide_eq_true_eq] at hcc
  obtain⟨z,hz⟩:=jh (l:=cl) (k:=cl.length-1) (by omega)
  have hzl:cl.getLast?=some z:=by rw[List.getLast?_eq_getElem?];exact hz
  have htop:topP cl=z:=by simp[topP,hzl]
  have hz':cl[(((cl.length:Nat):Int)-1).toNat]?=some z:=by rw[show(((cl.length:Nat):Int)-1).toNat=cl.length-1 by omega];exact hz
  have hcl1:1≤cl.length:=hcc.1.1.1
  have hpl:jcM ⟨cl,page,tn,workers,grey,gens⟩=(rnP page z 64&&(rnP (tn.length:Nat) 1 8&&(rnP workers 0 8&&(rnP grey 1 64&&rnP gens 1 2147483648)))):=by
   simp only[jcM,htop,jag,rnP,Bool.and_true,Bool.and_assoc]
  have hcp:jz ⟨cl,page,tn,workers,grey,gens⟩=(jcM ⟨cl,page,tn,workers,grey,gens⟩&&tn.all (jcc z)):=by simp[jz,hc,htop]
  have hout:jcM ⟨cl,page,tn,workers,grey,gens⟩=false→jz ⟨cl,page,tn,workers,grey,gens⟩=false:=fun h=>by rw[hcp,h];rfl
  refine Call.enter1 (n:=83) (by kernel_rfl) Tryz.func46 rfl rfl rfl ?_;refine zbY ?_;intro b1;refine ziE ?_;refine zu fun T hT=>?_;refine(CallV.fn (jlc (l:=cl) (hS.part ja) l1)).mono ?_;rintro _ _ ⟨rfl,rfl⟩;rw[hc];simp only[jbL,if_true];refine ze ?_;clear hT T;refine zaj ?_;refine zK ?_;refine zN ?_;refine zjZ ?_;refine zn3 ?_;refine zn4 ?_;refine zdm ?_;refine zbX ?_;refine zae ?_;refine zz fun T hT=>?_;refine zfE ?_;rintro _ _ ⟨rfl,rfl⟩
  cases g1:rnP page z 64 with
  |false=>
   have hf:=hout (by rw[hpl,g1];rfl)
   refine ze ?_;clear hT T;refine zag ?_;refine zcD ?_;refine zA ?_;refine zgd ?_;refine zgd ?_;refine zc7 ?_;refine zaE ?_;exact zdq
  |true=>
   refine ze ?_;clear hT T;refine zy ?_;refine zQ ?_;refine ziD ?_;refine zu fun T hT=>?_;refine zfE ?_;rintro _ _ ⟨rfl,rfl⟩
   cases g2:rnP (tn.length:Nat) 1 8 with
   |false=>
    have hf:=hout (by rw[hpl,g1,g2];rfl)
    refine ze ?_;clear hT T;refine zeC ?_;refine zx ?_;refine zgd ?_;refine zgd ?_;refine zc7 ?_;refine zaE ?_;exact zdq
   |true=>
    refine ze ?_;clear hT T;refine zha ?_;refine zQ ?_;refine zbU ?_;refine zhj fun T hT=>?_;refine zfE ?_;rintro _ _ ⟨rfl,rfl⟩
    cases g3:rnP workers 0 8 with
    |false=>
     have hf:=hout (by rw[hpl,g1,g2,g3];rfl)
     refine ze ?_;clear hT T;refine zeC ?_;refine zx ?_;refine zgd ?_;refine zc7 ?_;refine zaE ?_;exact zdq
    |true=>
     refine ze ?_;clear hT T;refine zha ?_;refine zQ ?_;refine zds ?_;refine zhj fun T hT=>?_;refine zfE ?_;rintro _ _ ⟨rfl,rfl⟩
     cases g4:rnP grey 1 64 with
     |false=>
      have hf:=hout (by rw[hpl,g1,g2,g3,g4];rfl)
      refine ze ?_;clear hT T;refine zeC ?_;refine zx ?_;refine zc7 ?_;refine zaE ?_;exact zdq
     |true=>
      refine ze ?_;clear hT T;refine zha ?_;refine zQ ?_;refine zc2 ?_;refine zhj fun T hT=>?_;refine zfE ?_;rintro _ _ ⟨rfl,rfl⟩
      cases g5:rnP gens 1 2147483648 with
      |false=>
       have hf:=hout (by rw[hpl,g1,g2,g3,g4,g5];rfl)
       refine ze ?_;clear hT T;refine zeC ?_;refine za8 ?_;refine zaE ?_;exact zdq
      |true=>
       have hcr:jz ⟨cl,page,tn,workers,grey,gens⟩=tn.all (jcc z):=by rw[hcp,hpl,g1,g2,g3,g4,g5];rfl
       refine ze ?_;clear hT T;refine zha ?_;refine zfm ?_;refine K.loopT (σ:=RkS) [(1,_),(3,_)] (fun s kp_=>(4, .int .i64 (s.k:Nat))::kp_) (fun s=>(b1,cells [vc, .int .i64 page,vt, .int .i64 workers, .int .i64 grey, .int .i64 gens] 25)::H) (fun s=>s.k≤tn.length∧tn.all (jcc z)=(tn.drop s.k).all (jcc z)) (fun s=>tn.length-s.k) (⟨0⟩) jc ja (⟨by simp,by simp⟩) ?_;rintro⟨k⟩ ⟨hk,hr⟩;dsimp only at hk hr⊢
       by_cases hlt:k<tn.length
       ·obtain⟨t,ht⟩:=jh hlt
        have hd:tn.drop k=t::tn.drop (k+1):=by
         obtain⟨h1,e⟩:=List.getElem?_eq_some_iff.1 ht
         rw[List.drop_eq_getElem_cons h1,e]
        rw[hd,List.all_cons] at hr
        obtain⟨q,tr,cp,ax⟩:=t
        have hte:jcc z ⟨q,tr,cp,ax⟩=(rnP q z 4096&&(rnP tr 1 1048576&&(rnP cp 1 1024&&rnP ax 0 1024))):=by
         simp only[jcc,jag,rnP,Bool.and_true,Bool.and_assoc]
        have hno:jcc z ⟨q,tr,cp,ax⟩=false→jz ⟨cl,page,tn,workers,grey,gens⟩=false:=fun h=>by rw[hcr,hr,h];rfl
        rw[hte] at hr hno;refine zff ?_;refine zfF ?_;refine zaa ?_;refine zj ?_;refine zj2 ?_;refine zbQ ?_;intro b5;refine zN ?_;refine zz fun T hT=>?_;refine zfE ?_;rintro _ _ ⟨rfl,rfl⟩
        cases m1:rnP q z 4096 with
        |false=>
         have hf:=hno (by rw[m1];rfl)
         refine ze ?_;clear hT T;refine zag ?_;refine zgd ?_;refine zgd ?_;refine zc7 ?_;exact zkf
        |true=>
         refine ze ?_;clear hT T;refine zy ?_;refine ziw ?_;refine zu fun T hT=>?_;refine zfE ?_;rintro _ _ ⟨rfl,rfl⟩
         cases m2:rnP tr 1 1048576 with
         |false=>
          have hf:=hno (by rw[m1,m2];rfl)
          refine ze ?_;clear hT T;refine zeC ?_;refine zx ?_;refine zgd ?_;refine zc7 ?_;exact zkf
         |true=>
          refine ze ?_;clear hT T;refine zha ?_;refine zQ ?_;refine zc8 ?_;refine zu fun T hT=>?_;refine zfE ?_;rintro _ _ ⟨rfl,rfl⟩
          cases m3:rnP cp 1 1024 with
          |false=>
           have hf:=hno (by rw[m1,m2,m3];rfl)
           refine ze ?_;clear hT T;refine zeC ?_;refine zx ?_;refine zc7 ?_;exact zkf
          |true=>
           refine ze ?_;clear hT T;refine zha ?_;refine zQ ?_;refine zbU ?_;refine zhj fun T hT=>?_;refine zfE ?_;rintro _ _ ⟨rfl,rfl⟩
           cases m4:rnP ax 0 1024 with
           |false=>
            have hf:=hno (by rw[m1,m2,m3,m4];rfl)
            refine ze ?_;clear hT T;refine zeC ?_;refine za8 ?_;exact zkf
           |true=>
            rw[m1,m2,m3,m4,Bool.true_and,Bool.true_and,Bool.true_and,Bool.true_and] at hr;refine ze ?_;clear hT T;refine zha ?_;refine zdD ?_;exact KE.again ⟨k+1⟩ jc ja ⟨by show k+1≤_;omega,hr⟩ (by show tn.length-(k+1)<tn.length-k;omega)
       ·have hf:jz ⟨cl,page,tn,workers,grey,gens⟩=true:=by rw[hcr,hr,List.drop_of_length_le (by omega)];rfl
        refine zkk ?_;refine zdf ?_;exact zdq
end Go.Proofs.YtebiafomiemgbaaGreatDoor.Sw
