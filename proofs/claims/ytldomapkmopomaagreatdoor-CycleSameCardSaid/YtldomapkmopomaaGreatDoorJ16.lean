/-The walker and the contracts that the law needs,part 16. -/
import Derived.Test.YtldomapkmopomaaGreatDoorD1
import Derived.ArgAppend
import Derived.ChangeMaps5
import Derived.Deep.Fields
import Derived.Deep.LoopGhost
import Derived.Deep.OwnRows
import Derived.Deep.Quiet
import Derived.Deep.Slices
import Derived.IntWalk
import Derived.Laws.Cells
import Derived.Laws.CopyOwn
import Derived.Laws.Externs
import Derived.Laws.FloatArith
import Derived.Laws.IdiomStrings
import Derived.Laws.NewFold
import Derived.Laws.StructEq
import Derived.Lib.BitFns
import Derived.Lib.Hide
import Derived.Lib.SmallJoins
import Derived.Lib.TrailingZeros
import Derived.Maps.RangeRun
import Derived.OrdersIn
import Derived.ProofKit
import Derived.RangeFuncBound
import Derived.RangeFuncCalls
import Derived.RangeFuncLeaves
import Derived.RangeFuncNested
import Derived.RecoverIn
import Derived.Shelf.Bits.Mul64
import Derived.Shelf.Slices.Turned
import Derived.Shelf.Spec.TrailingZeros
import Derived.Shelf.Strconv.Itoa0
import Derived.SizedLaws
import Derived.Sort.BigQuietIn
import Derived.StillTailTactics
import Derived.Test.YtldomapkmopomaaGreatDoorProg
import Derived.WalkKit
import Derived.Test.YtldomapkmopomaaGreatDoorJ14
import Derived.Test.YtldomapkmopomaaGreatDoorJ15
set_option linter.unusedVariables false set_option linter.unusedSimpArgs false namespace Go.Proofs.YtldomapkmopomaaGreatDoor.Sw
set_option maxHeartbeats 8000000
open Go.Proofs.YtldomapkmopomaaGreatDoor renaming lo → qL, hi → qH
open Go.RowKit
set_option linter.unusedVariables false
set_option linter.unusedSimpArgs false
set_option maxRecDepth 10000
def baseP (R:List (List Int)) (t:Nat):Nat:=((R.take t).map List.length).sum
def jaf (R:List (List Int)):List Int:=(List.range (R.length+1)).map fun t=>((baseP R t:Nat):Int)
theorem jhl (R:List (List Int)):(jaf R).length=R.length+1:=by simp[jaf]
theorem jhm {R:List (List Int)} {t:Nat} (h:t≤R.length):(jaf R)[t]?=some ((baseP R t:Nat):Int):=by
 unfold jaf;rw[List.getElem?_map,List.getElem?_range (by omega)];rfl
theorem jeL (R:List (List Int)):R.flatten.length=(R.map List.length).sum:=by
 induction R with
 |nil=>rfl
 |cons x R ih=>simp[ih]
theorem jbV {A B:List (List Int)} {x:List Int}:baseP (A++x::B) A.length=A.flatten.length∧baseP (A++x::B) (A.length+1)=A.flatten.length+x.length:=by
 constructor
 ·unfold baseP;rw [List.take_left',jeL];rfl
 ·unfold baseP
  rw[show(A++x::B).take (A.length+1)=A++ [x] by
   rw[List.take_append,List.take_of_length_le (by omega)];simp,List.map_append,List.sum_append,←jeL];simp
theorem jcr {R:List (List Int)} {t:Nat} {x:List Int} (h:R[t]?=some x): ∃ A B,R=A++x::B∧A.length=t:=by
 obtain⟨hl,e⟩:=List.getElem?_eq_some_iff.1 h
 exact⟨R.take t,R.drop (t+1),by rw[←e,←List.drop_eq_getElem_cons hl,List.take_append_drop],by rw[List.length_take];omega⟩
theorem jbE {R:List (List Int)} {t:Nat} {x:List Int} (h:R[t]?=some x):baseP R (t+1)=baseP R t+x.length∧baseP R t+x.length≤R.flatten.length:=by
 obtain⟨A,B,rfl,rfl⟩:=jcr h
 rw[jbV.1,jbV.2];refine⟨rfl,?_⟩;rw[List.flatten_append,List.flatten_cons];simp
theorem flat_at_r {R:List (List Int)} {t i:Nat} {x:List Int} {w:Int} (h:R[t]?=some x) (hw:x[i]?=some w):R.flatten[baseP R t+i]?=some w:=by
 obtain⟨A,B,rfl,rfl⟩:=jcr h
 have hi:=jl hw
 rw[jbV.1,List.flatten_append,List.flatten_cons,List.getElem?_append_right (by omega),show A.flatten.length+i-A.flatten.length=i by omega,List.getElem?_append_left hi,hw]
theorem flat_part {R:List (List Int)} {t:Nat} {x:List Int} (h:R[t]?=some x):(R.flatten.take (baseP R t+x.length)).drop (baseP R t)=x:=by
 obtain⟨A,B,rfl,rfl⟩:=jcr h
 rw[jbV.1,List.flatten_append,List.flatten_cons,←List.append_assoc,show A.flatten.length+x.length=(A.flatten++x).length by simp,List.take_left',List.drop_left']
 ·rfl
 ·rfl
theorem set_r {R:List (List Int)} {t:Nat} {x x':List Int} (h:R[t]?=some x) (hl:x'.length=x.length):(R.set t x').flatten=R.flatten.take (baseP R t)++x'++R.flatten.drop (baseP R t+x.length)∧jaf (R.set t x')=jaf R:=by
 obtain⟨A,B,rfl,rfl⟩:=jcr h
 have hs:(A++x::B).set A.length x'=A++x'::B:=by simp
 constructor
 ·rw[hs,jbV.1,List.flatten_append,List.flatten_cons,List.flatten_append,List.flatten_cons,List.take_left',←List.append_assoc,←List.append_assoc,show A.flatten.length+x.length=(A.flatten++x).length by simp,List.drop_left']
  ·rfl
  ·rfl
 ·rw[hs];unfold jaf;simp only[List.length_append,List.length_cons]
  refine List.map_congr_left fun q _=>?_
  congr 1
  unfold baseP;rw[List.map_take,List.map_take]
  simp[hl]
theorem set_word {R:List (List Int)} {t i:Nat} {x:List Int} {w:Int} (h:R[t]?=some x) (hi:i<x.length):(R.set t (x.set i w)).flatten=R.flatten.set (baseP R t+i) w:=by
 obtain⟨A,B,rfl,rfl⟩:=jcr h
 have hs:(A++x::B).set A.length (x.set i w)=A++x.set i w::B:=by simp
 rw[hs,jbV.1,List.flatten_append,List.flatten_cons,List.flatten_append,List.flatten_cons,List.set_append_right _ _ (by omega),show A.flatten.length+i-A.flatten.length=i by omega,List.set_append_left _ _ hi]
theorem set_clear {R:List (List Int)} {t i h':Nat} {x:List Int} (h:R[t]?=some x) (hi:i≤h') (hh:h'≤x.length):(R.set t (cleared x i h' 0)).flatten=cleared R.flatten (baseP R t+i) (baseP R t+h') 0:=by
 obtain⟨A,B,rfl,rfl⟩:=jcr h
 have hs:(A++x::B).set A.length (cleared x i h' 0)=A++cleared x i h' 0::B:=by simp
 rw[hs,jbV.1,List.flatten_append,List.flatten_cons,List.flatten_append,List.flatten_cons];unfold cleared;rw[show A.flatten.length+h'-(A.flatten.length+i)=h'-i by omega,List.take_append,List.take_of_length_le (show A.flatten.length≤A.flatten.length+i by omega),show A.flatten.length+i-A.flatten.length=i by omega,List.take_append_of_le_length (by omega),List.drop_append,List.drop_of_length_le (show A.flatten.length≤A.flatten.length+h' by omega),List.nil_append,show A.flatten.length+h'-A.flatten.length=h' by omega,List.drop_append_of_le_length hh];simp only[List.append_assoc]
structure Jk where
 b:Nat
 R:List (List Int)
 ow:Own
 ob:Own
def jx (m:Jk):jb:=(m.b,cells [oV m.ow m.R.flatten.length,oV m.ob (jaf m.R).length] 177)::(oH uE 116 m.R.flatten m.ow++oH iE 3 (jaf m.R) m.ob)
theorem jV {m:Jk} {F:jb}:jx m++F=(m.b,cells [oV m.ow m.R.flatten.length,oV m.ob (jaf m.R).length] 177)::(oH uE 116 m.R.flatten m.ow++(oH iE 3 (jaf m.R) m.ob++F)):=by
 unfold jx;rw [List.cons_append,List.append_assoc]
structure JZ (m:Jk):Prop where
 w:oOk uE m.R.flatten m.ow
 b:oOk iE (jaf m.R) m.ob
 n:m.R.flatten.length≤1000000000
 t:1≤m.R.length∧m.R.length≤1000
theorem subV_two {o:Own} {n a b c d:Nat} (hn: ∀ ob,o=some ob→n≤ob.c) (h0:o=none→n=0) (hb:b≤n) (hcd:c<d) (hd:d≤b-a) (hab:a≤b):j5 (j5 (oV o n) a b 1) c d 1=j5 (oV o n) (a+c) (a+d) 1:=by
 cases o with
 |none=>have:=h0 rfl;omega
 |some ob=>
  have:=hn ob rfl
  simp only[oV,j5];rw[if_neg (by omega),if_neg (by omega),if_neg (by omega)];simp only[Option.map_some,Addr.add]
  congr 1
  ·by_cases hc:c=0
   ·subst hc;by_cases ha:a=0<;>simp[ha]
   ·by_cases ha:a=0
    ·subst ha;simp[hc]
    ·simp[ha,hc]
  ·omega
  ·omega
theorem adr_sub {o:Own} {n a b:Nat} (hn: ∀ ob,o=some ob→n≤ob.c) (h0:o=none→n=0) (hab:a<b) (hb:b≤n):adr (j5 (oV o n) a b 1) (0*1)=adr (oV o n) (a*1):=by
 cases o with
 |none=>have:=h0 rfl;omega
 |some ob=>
  have:=hn ob rfl
  simp only[oV,j5];rw[if_neg (by omega)];simp only[Option.map_some,Addr.add,adr]
  by_cases ha:a=0<;>simp[ha]
theorem own_cap {E:Enc Int} {xs:List Int} {o:Own} (ok:oOk E xs o):(∀ ob,o=some ob→xs.length≤ob.c)∧(o=none→xs.length=0):=by
 constructor
 ·rintro ob rfl;exact ok.1
 ·rintro rfl;simp only[oOk] at ok;rw [ok];rfl
open Go.RowKit
set_option maxRecDepth 10000
theorem mnone_K {w0:World} {F:jb} {m:Jk} (ok:JZ m):
  Call Tryz.prog w0 83 [.pointer (some ⟨m.b,0,none⟩)] (jx m++F) (fun r H'=>r= .bool false∧H'=jx m++F):=by
 have hb:=ok.b
 have hl:=jhl m.R
 have hne: ¬(((jaf m.R).length:Nat):Int)=0:=by omega
 refine Call.enter1 (n:=13) (by kernel_rfl) Tryz.func83 rfl rfl rfl ?_;simp only[jB,jV];refine yr27 ?_;exact ze8
theorem region_K {w0:World} {F:jb} {m:Jk} {t:Nat} {x:List Int} (ok:JZ m) (ht:m.R[t]?=some x):
  Call Tryz.prog w0 200 [.pointer (some ⟨m.b,0,none⟩), .int .i64 (t:Nat)] (jx m++F) (fun r H'=>r=j5 (oV m.ow m.R.flatten.length) (baseP m.R t) (baseP m.R t+x.length) 1∧H'=jx m++F):=by
 have hb:=ok.b
 have hw:=ok.w
 have hl:=jhl m.R
 have htl:=jl ht
 have htn:=ok.t
 have hfn:=ok.n
 obtain⟨e1,e2⟩:=jbE ht
 have g1:=jhm (R:=m.R) (t:=t) (by omega)
 have g2:=jhm (R:=m.R) (t:=t+1) (by omega)
 have g2':(jaf m.R)[((t:Int)+1).toNat]?=some ((baseP m.R t+x.length:Nat):Int):=by rw[show((t:Int)+1).toNat=t+1 by omega,g2,e1]
 have hge: ¬(t:Int)≥((jaf m.R).length:Nat)-1:=by omega
 refine Call.enter2 (n:=43) (by kernel_rfl) Tryz.func200 rfl rfl rfl ?_;refine yq10 fun T hT=>?_;refine(CallV.fn (mnone_K ok)).mono ?_;rintro _ _ ⟨rfl,rfl⟩;refine za ?_;clear hT T;simp only[jB,jV];refine yr34 ?_;refine ze9 ?_;refine zau ?_;refine zaX ?_;refine zg ?_;refine zN ?_;refine zbA ?_;refine zaX ?_;refine zg ?_;refine zK ?_;refine KD.v0 rfl rfl (Val.idxSlZ rfl rfl rfl (Sli.own jh (by assumption) jG) rfl (by omega)) ?_;refine zbA ?_;refine KD.v0 rfl rfl (Val.sliceLH rfl rfl rfl rfl (Sli.own jh (by assumption) jG) rfl jr jr) ?_;refine zy ?_;refine yr2 ?_;exact ze8
theorem part_K {w0:World} {F:jb} {m:Jk} {t a n:Nat} {x:List Int} (ok:JZ m) (ht:m.R[t]?=some x) (hn:1≤n) (ha:a+n≤x.length):
  Call Tryz.prog w0 194 [.pointer (some ⟨m.b,0,none⟩), .int .i64 (t:Nat), .int .i64 (a:Nat), .int .i64 (n:Nat)] (jx m++F)
   (fun r H'=>r=j5 (oV m.ow m.R.flatten.length) (baseP m.R t+a) (baseP m.R t+(a+n)) 1∧H'=jx m++F):=by
 have hw:=ok.w
 obtain⟨e1,e2⟩:=jbE ht
 have hfn:=ok.n
 have hsl:Sli w0 (jx m++F) uE (j5 (oV m.ow m.R.flatten.length) (baseP m.R t) (baseP m.R t+x.length) 1) x:=by
  have h:Sli w0 (jx m++F) uE (oV m.ow m.R.flatten.length) m.R.flatten:=by rw[jV];exact Sli.own jh hw rfl
  have h2:=h.sub (l:=baseP m.R t) (h:=baseP m.R t+x.length) (by omega) e2
  rw[flat_part ht] at h2;exact h2
 have hxl:x.length≤1000000000:=by omega
 have hcap:=own_cap hw
 have h2v:=fun hd=>subV_two (a:=baseP m.R t) (b:=baseP m.R t+x.length) (c:=a) (d:=a+n) hcap.1 hcap.2 e2 (by omega) hd (by omega)
 have h2v':=h2v (by omega)
 have hle:(a:Int)+(n:Int)=((a+n:Nat):Int):=by omega
 refine Call.enter4 (n:=40) (by kernel_rfl) Tryz.func194 rfl rfl rfl ?_;refine yq9 fun T hT=>?_;refine(CallV.fn (region_K ok ht)).mono ?_;rintro _ _ ⟨rfl,rfl⟩;refine za ?_;clear hT T;refine yr43 ?_;refine zk ?_;refine yr5 ?_;rw[hle];refine yr5 ?_;rw[show uE.sz=1 from rfl,h2v'];exact zd
theorem jf3 {w0:World} {F:jb} {m:Jk} {t a n:Nat} {x:List Int} (ok:JZ m) (ht:m.R[t]?=some x) (ha:a+n≤x.length):
  Sli w0 (jx m++F) uE (j5 (oV m.ow m.R.flatten.length) (baseP m.R t+a) (baseP m.R t+(a+n)) 1) ((x.take (a+n)).drop a):=by
 have hw:=ok.w
 obtain⟨e1,e2⟩:=jbE ht
 have h:Sli w0 (jx m++F) uE (oV m.ow m.R.flatten.length) m.R.flatten:=by rw[jV];exact Sli.own jh hw rfl
 have h2:=h.sub (l:=baseP m.R t+a) (h:=baseP m.R t+(a+n)) (by omega) (by omega)
 obtain⟨A,B,hR,hA⟩:=jcr ht
 have hb:baseP m.R t=A.flatten.length:=by rw[hR,←hA];exact jbV.1
 have e:(m.R.flatten.take (baseP m.R t+(a+n))).drop (baseP m.R t+a)=(x.take (a+n)).drop a:=by
  rw[hb,hR,List.flatten_append,List.flatten_cons,List.take_append,List.take_of_length_le (by omega),show A.flatten.length+(a+n)-A.flatten.length=a+n by omega,List.take_append_of_le_length ha,List.drop_append,List.drop_of_length_le (by omega),List.nil_append,show A.flatten.length+a-A.flatten.length=a by omega]
 rw[e] at h2;exact h2
theorem Load_K {w0:World} {F:jb} {m:Jk} {t a:Nat} {x:List Int} {w:Int} (ok:JZ m) (ht:m.R[t]?=some x) (hx:x[a]?=some w):
  Call Tryz.prog w0 188 [.pointer (some ⟨m.b,0,none⟩), .int .i64 (t:Nat), .int .i64 (a:Nat)] (jx m++F) (fun r H'=>r= .tuple [.int .u64 w, .int .i64 0].toArray∧H'=jx m++F):=by
 have hal:=jl hx
 have hg:((x.take (a+1)).drop a)[0]?=some w:=by rw[List.getElem?_drop,List.getElem?_take_of_lt (by omega)];simpa using hx
 refine Call.enter3 (n:=12) (by kernel_rfl) Tryz.func188 rfl rfl rfl ?_;refine yr2 ?_;refine ze ?_;intro b3;refine zn ?_;intro b4 b5 b6;refine yq6 fun T hT=>?_;refine(CallV.fn (on_K (R:=fun H'=>H'=(b6,cells [.int .u64 w] 116)::(jx m++F)) fun b=>CallV.clo (cap:=[.pointer (some ⟨b3,0,none⟩), .pointer (some ⟨b4,0,none⟩), .pointer (some ⟨b5,0,none⟩), .pointer (some ⟨b6,0,none⟩)]) ?_)).mono ?_
 ·refine Call.enter4 (n:=10) (by kernel_rfl) Tryz.func248 rfl rfl rfl ?_;refine yq4 fun T hT=>?_;refine(CallV.part (CallV.fn (part_K (a:=a) (n:=1) ok ht (by omega) (by omega))) ja).mono ?_;refine zq ?_
  have hs:=jf3 (w0:=w0) (F:=F) (a:=a) (n:=1) ok ht (by omega)
  have hsl:(0:Int).toNat<((x.take (a+1)).drop a).length:=by rw[List.length_drop,List.length_take];omega
  have hg':((x.take (a+1)).drop a)[(0:Int).toNat]?=some w:=hg
  refine za ?_;clear hT T;refine yr4 ?_;exact KE.finN (H':=(b,cells [.int .i64 0] 61)::(b6,cells [.int .u64 w] 116)::(jx m++F)) jd rfl jc ja ⟨_,rfl,Part.all⟩
 ·refine zc ?_;clear hT T;refine yr12 ?_;exact zd
def setM (m:Jk) (t a:Nat) (w:Int):Jk:=⟨m.b,m.R.set t (((m.R[t]?).getD []).set a w),m.ow,m.ob⟩
theorem setM_R {m:Jk} {t a:Nat} {w:Int} {x:List Int} (ht:m.R[t]?=some x):(setM m t a w).R=m.R.set t (x.set a w):=by unfold setM;rw [ht];rfl
theorem ok_of {m:Jk} {R':List (List Int)} (ok:JZ m) (hf:R'.flatten.length=m.R.flatten.length) (hb:jaf R'=jaf m.R) (hl:R'.length=m.R.length):JZ ⟨m.b,R',m.ow,m.ob⟩:=by
 refine⟨?_,by show oOk iE (jaf R') m.ob;rw [hb];exact ok.b,by show R'.flatten.length≤_;rw [hf];exact ok.n,by show 1≤R'.length∧R'.length≤1000;rw [hl];exact ok.t⟩
 have h:=ok.w
 show oOk uE R'.flatten m.ow
 cases ho:m.ow with
 |none=>rw [ho] at h;simp only[oOk] at h⊢;rw [h] at hf;exact List.length_eq_zero_iff.1 hf
 |some ob=>rw [ho] at h;simp only[oOk] at h⊢;rw [hf];exact h
theorem Store_K {w0:World} {F:jb} {m:Jk} {t a:Nat} {x:List Int} {w:Int} (ok:JZ m) (ht:m.R[t]?=some x) (ha:a<x.length):
  Call Tryz.prog w0 115 [.pointer (some ⟨m.b,0,none⟩), .int .i64 (t:Nat), .int .i64 (a:Nat), .int .u64 w] (jx m++F) (fun r H'=>r= .int .i64 0∧H'=jx (setM m t a w)++F):=by
 have hw:=ok.w
 obtain⟨e1,e2⟩:=jbE ht
 have hcap:=own_cap hw
 obtain⟨v0,hv0⟩:=jn ha
 have hfa:=flat_at_r ht hv0
 have had:adr (j5 (oV m.ow m.R.flatten.length) (baseP m.R t+a) (baseP m.R t+(a+1)) 1) (0*uE.sz)=adr (oV m.ow m.R.flatten.length) ((baseP m.R t+a)*uE.sz):=adr_sub (a:=baseP m.R t+a) (b:=baseP m.R t+(a+1)) hcap.1 hcap.2 (by omega) (by omega)
 have hsw:=set_word (w:=w) ht ha
 have hbs:=(set_r ht (x':=x.set a w) (by simp)).2
 have hlen:(m.R.flatten.set (baseP m.R t+a) w).length=m.R.flatten.length:=List.length_set
 refine Call.enter4 (n:=11) (by kernel_rfl) Tryz.func115 rfl rfl rfl ?_;refine yr2 ?_;refine zH ?_;intro b4 b5;refine zH ?_;intro b6 b7;refine yq6 fun T hT=>?_;refine(CallV.fn (on_K (R:=fun H'=>H'=jx (setM m t a w)++F) fun b=>?_)).mono ?_
 ·refine CallV.clo (cap:=[.pointer (some ⟨b7,0,none⟩), .pointer (some ⟨b4,0,none⟩), .pointer (some ⟨b5,0,none⟩), .pointer (some ⟨b6,0,none⟩)]) ?_;refine Call.enter4 (n:=10) (by kernel_rfl) Tryz.func195 rfl rfl rfl ?_;refine zw ?_
  (first|refine K.seq (K.drawn _ [(0,0),(1,0),(2,0),(4,1),(3,2),(5,0),(6,4)] (by kernel_rfl) (by kernel_rfl) (by kernel_rfl) (by kernel_rfl) (by kernel_rfl) (by kernel_rfl) Part.all ?_)|refine K.seq (K.seq (K.drawn _ [(0,0),(1,0),(2,0),(4,1),(3,2),(5,0),(6,4)] (by kernel_rfl) (by kernel_rfl) (by kernel_rfl) (by kernel_rfl) (by kernel_rfl) (by kernel_rfl) Part.all ?_))|refine K.drawn _ [(0,0),(1,0),(2,0),(4,1),(3,2),(5,0),(6,4)] (by kernel_rfl) (by kernel_rfl) (by kernel_rfl) (by kernel_rfl) (by kernel_rfl) (by kernel_rfl) Part.all ?_)
  refine zaL ?_;refine zaL ?_;refine zaL ?_;refine zF ?_;refine zi fun T hT=>?_;refine(CallV.part (CallV.fn (part_K (a:=a) (n:=1) ok ht (by omega) (by omega))) ja).mono ?_;refine zq ?_
  have hs:=jf3 (w0:=w0) (F:=F) (a:=a) (n:=1) ok ht (by omega)
  have hsl:(0:Int).toNat<((x.take (a+1)).drop a).length:=by rw[List.length_drop,List.length_take];omega
  refine zh ?_;clear hT T;refine zcs ?_
  --STOP before op 6
  rw[had];simp only[jB,jV]
  (first|(refine KD.eNX rfl (Eff.stSl (x1:=w) rfl rfl jcb rfl jh (by assumption) (by assumption) rfl rfl) ?_;rintro _ _ rfl)|(refine KD.eNX rfl (Eff.stSl0 (x1:=w) rfl rfl jcb rfl jh (by assumption) (by assumption) rfl rfl) ?_;rintro _ _ rfl))
  refine zp ?_
  skip
  rw[←hsw,←hlen,←hsw,←hbs];exact KE.finN (H':=(b,cells [.int .i64 0] 61)::(jx (setM m t a w)++F)) jd rfl jc (by rw[jV,setM_R ht];exact ja) ⟨_,rfl,by rw[jV];exact Part.all⟩
 ·refine zc ?_;clear hT T;refine yr4 ?_;exact zd
def jcu (m:Jk) (t a n:Nat):Jk:=⟨m.b,m.R.set t (cleared ((m.R[t]?).getD []) a (a+n) 0),m.ow,m.ob⟩
theorem zeroM_R {m:Jk} {t a n:Nat} {x:List Int} (ht:m.R[t]?=some x):(jcu m t a n).R=m.R.set t (cleared x a (a+n) 0):=by unfold jcu;rw [ht];rfl
theorem Zero_K {w0:World} {F:jb} {m:Jk} {t a n:Nat} {x:List Int} (ok:JZ m) (ht:m.R[t]?=some x) (hn:1≤n) (ha:a+n≤x.length):
  Call Tryz.prog w0 114 [.pointer (some ⟨m.b,0,none⟩), .int .i64 (t:Nat), .int .i64 (a:Nat), .int .i64 (n:Nat)] (jx m++F) (fun r H'=>r= .int .i64 0∧H'=jx (jcu m t a n)++F):=by
 have hw:=ok.w
 obtain⟨e1,e2⟩:=jbE ht
 have hl:=jcz (xs:=x) (i:=a) (h:=a+n) (x0:=(0:Int)) (by omega) ha
 have hsw:=set_clear ht (i:=a) (h':=a+n) (by omega) ha
 have hbs:=(set_r ht (x':=cleared x a (a+n) 0) hl).2
 have hlen:(cleared m.R.flatten (baseP m.R t+a) (baseP m.R t+(a+n)) 0).length=m.R.flatten.length:=jcz (by omega) (by omega)
 refine Call.enter4 (n:=11) (by kernel_rfl) Tryz.func114 rfl rfl rfl ?_;refine yr2 ?_;refine zH ?_;intro b4 b5;refine zH ?_;intro b6 b7;refine yq6 fun T hT=>?_;refine(CallV.fn (on_K (R:=fun H'=>H'=jx (jcu m t a n)++F) fun b=>?_)).mono ?_
 ·refine CallV.clo (cap:=[.pointer (some ⟨b4,0,none⟩), .pointer (some ⟨b5,0,none⟩), .pointer (some ⟨b6,0,none⟩), .pointer (some ⟨b7,0,none⟩)]) ?_;refine Call.enter4 (n:=9) (by kernel_rfl) Tryz.func193 rfl rfl rfl ?_;refine yq5 fun T hT=>?_;refine(CallV.part (CallV.fn (part_K (a:=a) (n:=n) ok ht hn ha)) ja).mono ?_;refine zc ?_;clear hT T;simp only[jB,jV];refine KL.eN (Eff.clearS (x0:=(0:Int)) (i:=baseP m.R t+a) (h:=baseP m.R t+(a+n)) rfl rfl rfl rfl (by omega) (by omega) jh hw) ?_;rintro _ _ ⟨rfl,okc,rfl⟩;refine yr1 ?_
  skip
  rw[←hsw,←hlen,←hsw,←hbs];exact KE.finN (H':=(b,cells [.int .i64 0] 61)::(jx (jcu m t a n)++F)) jd rfl jc (by rw[jV,zeroM_R ht];exact ja) ⟨_,rfl,by rw[jV];exact Part.all⟩
 ·refine zc ?_;clear hT T;refine yr4 ?_;exact zd
theorem All_K {w0:World} {F:jb} {m:Jk} (ok:JZ m):
  Call Tryz.prog w0 39 [.pointer (some ⟨m.b,0,none⟩)] (jx m++F) (fun r H'=> ∃ o,oOk uE m.R.flatten o∧r=oV o m.R.flatten.length∧H'=oH uE 116 m.R.flatten o++(jx m++F)):=by
 have hw:=ok.w
 have hn:=ok.n
 refine Call.enter1 (n:=10) (by kernel_rfl) Tryz.func39 rfl rfl rfl ?_;refine yq9 fun T hT=>?_;refine(CallV.fn (mnone_K ok)).mono ?_;rintro _ _ ⟨rfl,rfl⟩;refine za ?_;clear hT T;simp only[jB,jV];refine yq11 fun T hT=>?_;refine(CallV.pure fun w hw'=>CallV.fn (jfN (Sli.own jh hw rfl w hw') (by omega))).mono ?_;rintro _ _ ⟨_,⟨o1,ko1,rfl,rfl⟩,rfl⟩;refine za ?_;clear hT T;refine yr4 ?_;exact KE.fin jd rfl jc (by first|exact ja|(simp only[jB,jV];exact ja)) ⟨o1,ko1,rfl,rfl⟩
theorem Words_K {w0:World} {F:jb} {m:Jk} {t:Nat} {x:List Int} (ok:JZ m) (ht:m.R[t]?=some x):
  Call Tryz.prog w0 120 [.pointer (some ⟨m.b,0,none⟩), .int .i64 (t:Nat)] (jx m++F) (fun r H'=> ∃ o,oOk uE x o∧r= .tuple [oV o x.length, .int .i64 0].toArray∧H'=oH uE 116 x o++(jx m++F)):=by
 have hn:=ok.n
 obtain⟨e1,e2⟩:=jbE ht
 refine Call.enter2 (n:=10) (by kernel_rfl) Tryz.func120 rfl rfl rfl ?_;refine yr2 ?_;refine zn ?_;intro b2 b3 b4;refine yq6 fun T hT=>?_;refine(CallV.fn (on_K (R:=fun H'=> ∃ o,oOk uE x o∧H'=(b4,cells [oV o x.length] 108)::(oH uE 116 x o++(jx m++F))) fun b=>?_)).mono ?_
 ·refine CallV.clo (cap:=[.pointer (some ⟨b2,0,none⟩), .pointer (some ⟨b3,0,none⟩), .pointer (some ⟨b4,0,none⟩)]) ?_;refine Call.enter3 (n:=7) (by kernel_rfl) Tryz.func199 rfl rfl rfl ?_;refine yq3 fun T hT=>?_;refine(CallV.part (CallV.fn (region_K ok ht)) ja).mono ?_;refine zq ?_
  have hs:Sli w0 (jx m++F) uE (j5 (oV m.ow m.R.flatten.length) (baseP m.R t) (baseP m.R t+x.length) 1) x:=by
   have h:=jf3 (w0:=w0) (F:=F) (a:=0) (n:=x.length) ok ht (by omega)
   rw[Nat.zero_add,Nat.add_zero,List.take_length,List.drop_zero] at h;exact h
  refine za ?_;clear hT T;refine zz fun T hT=>?_;refine(CallV.pure fun w hw'=>CallV.fn (jfN (hs w (hw'.part ja)) (by omega))).mono ?_;rintro _ _ ⟨_,⟨o1,ko1,rfl,rfl⟩,rfl⟩;refine za ?_;clear hT T;refine yr2 ?_;exact KE.finN (H':=(b,cells [.int .i64 0] 61)::(b4,cells [oV o1 x.length] 108)::(oH uE 116 x o1++(jx m++F))) jd rfl jc ja ⟨_,⟨o1,ko1,rfl⟩,Part.all⟩
 ·rintro _ _ ⟨rfl,o1,ko1,rfl⟩;refine za ?_;clear hT T;refine yr12 ?_;exact KE.fin jd rfl jc ja ⟨o1,ko1,rfl,rfl⟩
open Go.RowKit
set_option maxRecDepth 10000
def sumN (f:Nat→Int):Nat→Int
 |0=>0
 |k+1=>sumN f k+f k
theorem jbW {f:Nat→Int} {B:Int}: ∀ {n:Nat},(∀ i,i<n→0≤f i∧f i≤B)→0≤sumN f n∧sumN f n≤(n:Int)*B
 |0,_=>by simp[sumN]
 |n+1,h=>by
  obtain⟨h1,h2⟩:=jbW (n:=n) (fun i hi=>h i (by omega))
  obtain⟨h3,h4⟩:=h n (by omega)
  have e:((n+1:Nat):Int)*B=(n:Int)*B+B:=by rw[Int.natCast_add,Int.add_mul];simp
  rw[e];simp only[sumN]
  omega
structure SmS where
 k:Nat
theorem sumI_K {w0:World} {H:jb} {v fv:Value} {l:List Int} {f:Nat→Int} (hS:Sli w0 H iE v l) (hl:l.length≤8) (hB: ∀ i,i<l.length→0≤f i∧f i≤1048576)
  (hf: ∀ i,i<l.length→CallV Tryz.prog w0 fv [.int .i64 (i:Nat)] H (fun r H'=>r= .int .i64 (f i)∧H'=H)):
  Call Tryz.prog w0 197 [v,fv] H (fun r H'=>r= .int .i64 (sumN f l.length)∧H'=H):=by
 refine Call.enter2 (n:=19) (by kernel_rfl) Tryz.func197 rfl rfl rfl ?_;refine yr19 ?_;refine zfa ?_;rintro⟨k⟩ hk;dsimp only at hk⊢
 by_cases hlt:k<l.length
 ·have b1:=jbW (f:=f) (n:=k) (fun i hi=>hB i (by omega))
  have b2:=hB k hlt
  obtain⟨a,ha⟩: ∃ a,a=sumN f k:=⟨_,rfl⟩
  obtain⟨b,hb⟩: ∃ b,b=f k:=⟨_,rfl⟩
  have hs:sumN f (k+1)=a+b:=by rw[ha,hb];rfl
  rw[←ha] at b1⊢;rw[←hb] at b2
  have hfk:=hf k hlt
  rw[←hb] at hfk;refine yq21 fun T hT=>?_;refine hfk.mono ?_;rintro _ _ ⟨rfl,rfl⟩;refine hT _ _ ?_;clear hT T;refine yr9 ?_;rw[←hs];exact zfb
 ·have hke:k=l.length:=by omega
  subst hke;refine yr19 ?_;exact zd
theorem sumT_K {w0:World} {H:jb} {v fv:Value} {l:List Tn} {f:Nat→Int} (hS:Sli w0 H tnE v l) (hl:l.length≤8) (hB: ∀ i,i<l.length→0≤f i∧f i≤1048576)
  (hf: ∀ i,i<l.length→CallV Tryz.prog w0 fv [.int .i64 (i:Nat)] H (fun r H'=>r= .int .i64 (f i)∧H'=H)):
  Call Tryz.prog w0 175 [v,fv] H (fun r H'=>r= .int .i64 (sumN f l.length)∧H'=H):=by
 refine Call.enter2 (n:=19) (by kernel_rfl) Tryz.func175 rfl rfl rfl ?_;refine yr19 ?_;refine zfa ?_;rintro⟨k⟩ hk;dsimp only at hk⊢
 by_cases hlt:k<l.length
 ·have b1:=jbW (f:=f) (n:=k) (fun i hi=>hB i (by omega))
  have b2:=hB k hlt
  obtain⟨a,ha⟩: ∃ a,a=sumN f k:=⟨_,rfl⟩
  obtain⟨b,hb⟩: ∃ b,b=f k:=⟨_,rfl⟩
  have hs:sumN f (k+1)=a+b:=by rw[ha,hb];rfl
  rw[←ha] at b1⊢;rw[←hb] at b2
  have hfk:=hf k hlt
  rw[←hb] at hfk;refine yq21 fun T hT=>?_;refine hfk.mono ?_;rintro _ _ ⟨rfl,rfl⟩;refine hT _ _ ?_;clear hT T;refine yr9 ?_;rw[←hs];exact zfb
 ·have hke:k=l.length:=by omega
  subst hke;refine yr19 ?_;exact zd
set_option maxRecDepth 10000
def rnP (x a b:Int):Bool:=decide (a≤x)&&decide (x≤b)
theorem rfrom_K {w0:World} {H:jb} {x a b:Int}:Call Tryz.prog w0 97 [.int .i64 x, .int .i64 a, .int .i64 b] H (fun r H'=>r= .bool (rnP x a b)∧H'=H):=by
 refine Call.enter3 (n:=15) (by kernel_rfl) Tryz.func97 rfl rfl rfl ?_
 by_cases h1:x≥a
 ·have he:rnP x a b=decide (x≤b):=by unfold rnP;rw [decide_eq_true (show a≤x from h1),Bool.true_and]
  refine yr22 ?_;exact zaM
 ·have he:rnP x a b=false:=by unfold rnP;rw [decide_eq_false (show ¬a≤x from h1),Bool.false_and]
  refine yr19 ?_;exact zaM
theorem class_el {l:List Int} (h:Jv l=true):(∀ x∈l,1<x∧x≤64)∧l.Pairwise (· < ·):=by
 have hc:=h
 simp only[Jv,Bool.and_eq_true,decide_eq_true_eq] at hc;refine⟨fun x hx=>⟨(jcD hc.2).1 x hx,?_⟩,(jcD hc.2).2⟩
 obtain⟨i,hi⟩:=List.getElem?_of_mem hx
 obtain⟨z,hz⟩:=jn (l:=l) (k:=l.length-1) (by omega)
 have h1:=jgM h (by have:=jl hi;omega:i≤l.length-1) hi hz
 have hzl:l.getLast?=some z:=by rw[List.getLast?_eq_getElem?];exact hz
 have h2:=hc.1.2
 rw[hzl] at h2;simp only[Option.getD_some] at h2
 omega
structure RcS where
 k:Nat
 last:Int
set_option maxHeartbeats 1000000 in
theorem rCheck_K {w0:World} {H:jb} {v:Value} {l:List Int} (hS:Sli w0 H iE v l) (hl:l.length≤140737488355328):
  Call Tryz.prog w0 96 [v] H (fun r H'=>r= .int .i64 (errB (Jv l) 2)∧H'=H):=by
 refine Call.enter1 (n:=46) (by kernel_rfl) Tryz.func96 rfl rfl rfl ?_
 by_cases h1:l.length<1
 ·have hc:Jv l=false:=by simp[Jv];omega
  have h1':((l.length:Nat):Int)<1:=by omega
  refine yr26 ?_;exact zaz
 by_cases h8:8<l.length
 ·have hc:Jv l=false:=by simp[Jv];omega
  refine yr29 ?_;exact zaz
 refine yr31 ?_;refine K.loopT (σ:=RcS) [(0,_)] (fun s kp_=>(3, .int .i64 (s.k:Nat))::kp_) (fun s=>H) (fun s=>s.k≤l.length∧ja3 1 l=ja3 s.last (l.drop s.k)∧(s.k=0→s.last=1)∧(0<s.k→l[s.k-1]?=some s.last)∧s.last≤64) (fun s=>l.length-s.k) (⟨0,1⟩) jg ja (⟨by simp,by simp,by simp,by simp,by simp⟩) ?_;rintro⟨k,last⟩ ⟨hk,hr,hz,hp,h64⟩;dsimp only at hk hr hz hp h64⊢
 by_cases hlt:k<l.length
 ·obtain⟨x,hx⟩:=jn hlt
  have hmem:=List.mem_of_getElem? hx
  have hd:l.drop k=x::l.drop (k+1):=by
   obtain⟨h1,e⟩:=List.getElem?_eq_some_iff.1 hx
   rw[List.drop_eq_getElem_cons h1,e]
  have hfalse:(x<2∨x>64∨(0<k∧x≤last))→Jv l=false:=by
   intro h
   cases hc:Jv l with
   |false=>rfl
   |true=>
    exfalso
    obtain⟨e1,e2⟩:=class_el hc
    have:=e1 x hmem
    rcases h with h|h|⟨h,h'⟩
    ·omega
    ·omega
    ·obtain⟨g1,f1⟩:=List.getElem?_eq_some_iff.1 (hp h)
     obtain⟨g2,f2⟩:=List.getElem?_eq_some_iff.1 hx
     have:=List.pairwise_iff_getElem.1 e2 (k-1) k g1 g2 (by omega)
     rw[f1,f2] at this
     omega
  by_cases hx2:x<2
  ·have hc:=hfalse (.inl hx2)
   refine yr15 ?_;refine zcv ?_;refine zS ?_;refine KD.v0 rfl rfl (Val.isT (Val.lss rfl rfl) jr) ?_;refine zaR ?_;refine zap ?_;refine zT ?_;refine zba ?_;refine zaS ?_;refine zaS ?_;refine zaS ?_;refine zaS ?_;refine zaS ?_;refine zap ?_;refine zaE ?_;refine yr13 ?_;exact zaz
  by_cases hx64:x>64
  ·have hc:=hfalse (.inr (.inl hx64))
   refine yr15 ?_;refine zcv ?_;refine zS ?_;refine zbg ?_;refine zA ?_;refine zC ?_;refine za8 ?_;refine zc7 ?_;refine zag ?_;refine zg ?_;refine zba ?_;refine zaS ?_;refine zaS ?_;refine zaS ?_;refine zaS ?_;refine zaS ?_;refine zap ?_;refine zaE ?_;refine yr13 ?_;exact zaz
  by_cases hk0:0<k
  ·have hp':=hp hk0
   have hp2:l[((k:Int)-1).toNat]?=some last:=by rw[show((k:Int)-1).toNat=k-1 by omega];exact hp'
   by_cases hxl:x≤last
   ·have hc:=hfalse (.inr (.inr ⟨hk0,hxl⟩))
    refine yr15 ?_;refine zcv ?_;refine zS ?_;refine zbg ?_;refine zA ?_;refine zC ?_;refine za8 ?_;refine zcu ?_;refine zag ?_;refine zA ?_;refine zc7 ?_;refine zaF ?_;refine zC ?_;refine za8 ?_;refine zaF ?_;refine KD.y0 rfl rfl rfl rfl (Val.sub rfl rfl (by simp only[qL,qH];omega)) ?_;refine zb4 ?_;refine zaq ?_;refine zea ?_;refine zcw ?_;refine zI ?_;refine yr13 ?_;exact zaz
   ·rw[hd] at hr;simp only[ja3] at hr;rw[decide_eq_true (show last<x by omega),Bool.true_and] at hr;refine yr15 ?_;refine zcv ?_;refine zS ?_;refine zbg ?_;refine zA ?_;refine zC ?_;refine za8 ?_;refine zcu ?_;refine zag ?_;refine zA ?_;refine zc7 ?_;refine zaF ?_;refine zC ?_;refine za8 ?_;refine zaF ?_;refine KD.y0 rfl rfl rfl rfl (Val.sub rfl rfl (by simp only[qL,qH];omega)) ?_;refine zb4 ?_;refine zaq ?_;refine zeb ?_;refine zcw ?_;refine zI ?_;refine yr10 ?_;exact zfd
  ·have hk1:k=0:=by omega
   have hl1:=hz hk1
   have hk1': ¬((k:Nat):Int)>0:=by omega
   rw[hd] at hr;simp only[ja3] at hr;rw[decide_eq_true (show last<x by omega),Bool.true_and] at hr;refine yr15 ?_;refine zcv ?_;refine zS ?_;refine zbg ?_;refine zA ?_;refine zC ?_;refine za8 ?_;refine zcu ?_;refine zag ?_;refine zA ?_;refine zcu ?_;refine zC ?_;refine zZ ?_;refine zZ ?_;refine zbu ?_;refine zc8 ?_;refine zI ?_;refine yr10 ?_;exact zfd
 ·have hke:k=l.length:=by omega
  have hlast:=hp (by omega)
  have hzl:l.getLast?=some last:=by rw[List.getLast?_eq_getElem?,←hke];exact hlast
  have hc:Jv l=true:=by
   rw[List.drop_of_length_le (by omega)] at hr;simp only[Jv,Bool.and_eq_true,decide_eq_true_eq,hzl,Option.getD_some];exact⟨⟨⟨by omega,by omega⟩,by omega⟩,hr⟩
  refine yr21 ?_;exact zaz
open Go.RowKit
set_option maxRecDepth 10000
theorem sub_perm {α:Type} {A S:List α} (h:A.Sublist S): ∃ F,S.Perm (A++F):=by
 induction h with
 |slnil=>exact⟨[],List.Perm.refl _⟩
 |cons a h ih=>obtain⟨F,hF⟩:=ih;exact⟨a::F,(hF.cons a).trans List.perm_middle.symm⟩
 |cons_cons a h ih=>obtain⟨F,hF⟩:=ih;exact⟨F,hF.cons a⟩
theorem Call.ro {P:Program} {w0:World} {f:FuncId} {args:List Value} {A H:jb} {R:Value→Prop} (h: ∀ F,Call P w0 f args (A++F) (fun r H'=>R r∧H'=A++F)) (hp:Part H A):Call P w0 f args H (fun r H'=>R r∧H'=H):=by
 obtain⟨S,h1,h2⟩:=hp.sub
 obtain⟨F,h3⟩:=sub_perm h2
 have hF:=h1.trans h3
 refine⟨(h F).ent,fun w hw=>((h F).out w (hw.perm hF)).mono ?_⟩;rintro e w' ⟨v,H',rfl,hw',hr,rfl⟩;exact⟨v,H,rfl,hw'.perm hF.symm,hr,rfl⟩
def jb8 (x:PartP):List Value:=[.int .i64 (x.size:Nat), .int .i64 (x.first:Nat), .int .i64 (x.many:Nat), .int .i64 (x.page:Nat), .int .i64 (x.per:Nat)]
def jcw:Enc PartP:=⟨jb8,5,fun _=>rfl,by intro x v hv;simp[jb8] at hv;rcases hv with rfl|rfl|rfl|rfl|rfl<;>rfl⟩
theorem partE_enc (x:PartP):jcw.enc x=[.int .i64 (x.size:Nat), .int .i64 (x.first:Nat), .int .i64 (x.many:Nat), .int .i64 (x.page:Nat), .int .i64 (x.per:Nat)]:=rfl
structure jO where
 b:Nat
 g:PlG
 o:Own
def planH (p:jO):jb:=(p.b,cells [oV p.o p.g.parts.length, .int .i64 (p.g.slots:Nat), .int .i64 (p.g.pages:Nat), .int .i64 (p.g.pg:Nat)] 221)::oH jcw 224 p.g.parts p.o
theorem jN {p:jO} {F:jb}:planH p++F=(p.b,cells [oV p.o p.g.parts.length, .int .i64 (p.g.slots:Nat), .int .i64 (p.g.pages:Nat), .int .i64 (p.g.pg:Nat)] 221)::(oH jcw 224 p.g.parts p.o++F):=rfl
structure J2 (p:jO):Prop where
 g:je p.g
 o:oOk jcw p.g.parts p.o
theorem plnone_K {w0:World} {F:jb} {p:jO} (ok:J2 p):
  Call Tryz.prog w0 124 [.pointer (some ⟨p.b,0,none⟩)] (planH p++F) (fun r H'=>r= .bool false∧H'=planH p++F):=by
 have h1:=ok.g.pg1
 have hne: ¬((p.g.pg:Nat):Int)=0:=by omega
 refine Call.enter1 (n:=12) (by kernel_rfl) Tryz.func124 rfl rfl rfl ?_;simp only[jB,jV,jN];refine yr25 ?_;exact zaB
theorem jco {w0:World} {F:jb} {p:jO} (ok:J2 p):
  Call Tryz.prog w0 61 [.pointer (some ⟨p.b,0,none⟩)] (planH p++F) (fun r H'=>r= .int .i64 (p.g.slots:Nat)∧H'=planH p++F):=by
 refine Call.enter1 (n:=9) (by kernel_rfl) Tryz.func61 rfl rfl rfl ?_;refine yq9 fun T hT=>?_;refine zbD ?_;rintro _ _ ⟨rfl,rfl⟩;refine za ?_;clear hT T;simp only[jB,jV,jN];refine yr15 ?_;exact zaB
theorem Words0_K {w0:World} {F:jb} {p:jO} (ok:J2 p):
  Call Tryz.prog w0 121 [.pointer (some ⟨p.b,0,none⟩)] (planH p++F) (fun r H'=>r= .int .i64 (p.g.words:Nat)∧H'=planH p++F):=by
 have hw:=ok.g.words
 have e:((p.g.pages:Nat):Int)*((p.g.pg:Nat):Int)=((p.g.words:Nat):Int):=rfl
 refine Call.enter1 (n:=14) (by kernel_rfl) Tryz.func121 rfl rfl rfl ?_;refine yq9 fun T hT=>?_;refine zbD ?_;rintro _ _ ⟨rfl,rfl⟩;refine za ?_;clear hT T;simp only[jB,jV,jN];refine yr6 ?_;refine zbE ?_;refine zu ?_;refine z8 ?_;refine zaW ?_;refine zbF ?_;refine zy ?_;refine yr2 ?_;exact zaB
theorem last_K {w0:World} {F:jb} {p:jO} {g:FuncId} {cap:List Value} {q:Nat→Bool} (ok:J2 p) (hmono: ∀ i j,i≤j→j<p.g.m→q j=true→q i=true)
  (hso: ∀ H' i,Part H' (planH p++F)→i<p.g.m→CallV Tryz.prog w0 (.func (.func g) #[] cap.toArray) [.agg (jb8 (p.g.pt i)).toArray] H' (fun r H''=>r= .bool (q i)∧H''=H')):
  Call Tryz.prog w0 283 [.pointer (some ⟨p.b,0,none⟩), .func (.func g) #[] cap.toArray] (planH p++F) (fun r H'=> ∃ i:Nat,i≤p.g.m∧(∀ j,j<i→q j=true)∧(∀ j,i≤j→j<p.g.m→q j=false)∧r= .int .i64 ((i:Int)-1)∧H'=planH p++F):=by
 have hm:=ok.g.m
 have hpl:p.g.parts.length=p.g.m:=jbP
 have ho:=ok.o
 refine Call.enter2 (n:=13) (by kernel_rfl) Tryz.func283 rfl rfl rfl ?_;simp only[jB,jV,jN];refine yr2 ?_;refine zH ?_;intro b2 b3;refine yq11 fun T hT=>?_;refine(CallV.part (CallV.fn (Search_K (H:=(b2,cells [.pointer (some ⟨p.b,0,none⟩)] 72)::(b3,cells [.func (.func g) #[] cap.toArray] 361)::(planH p++F)) (n:=p.g.parts.length) (fun i=>!q i) (by omega) ?_ ?_)) (by simp only[jB,jV,jN];exact ja)).mono ?_
 ·intro i j h1 h2 h3
  cases hq:q j with
  |false=>rfl
  |true=>rw [hmono i j h1 (by omega) hq] at h3;cases h3
 ·intro i hi0
  have hi:i<p.g.m:=by omega
  have hx:p.g.parts[i]?=some (p.g.pt i):=jch hi
  refine CallV.clo (cap:=[.pointer (some ⟨b3,0,none⟩), .pointer (some ⟨b2,0,none⟩)]) ?_;refine Call.enter3 (n:=15) (by kernel_rfl) Tryz.func310 rfl rfl rfl ?_;simp only[jB,jV,jN];refine yr6 ?_;refine K.drawn [] [(0,0),(1,0),(2,0),(3,0),(4,0),(5,0),(6,0),(7,0),(8,2),(9,0),(10,0)] (by kernel_rfl) (by kernel_rfl) (by kernel_rfl) (by kernel_rfl) (by kernel_rfl) (by kernel_rfl) Part.nil ?_;refine zo ?_;refine zaa ?_;refine zQ ?_;refine zg ?_;refine zN ?_;refine KD.v0 rfl rfl (Val.loadAP rfl rfl rfl jc4) ?_;refine zi fun T hT=>?_;refine(hso _ i (by simp only[jB,jV,jN];exact ja) hi).mono ?_;refine zl ?_;clear hT T;refine KD.v0 rfl rfl (Val.notB rfl) ?_;refine zy ?_;refine yr2 ?_;exact zaB
 ·rintro _ _ ⟨i,hi,h1,h2,rfl,rfl⟩;refine za ?_;clear hT T;refine yr5 ?_;exact KE.fin jd rfl jc (by first|exact ja|(simp only[jB,jV,jN];exact ja)) ⟨i,by omega,fun j hj=>by have:=h1 j hj;simpa using this,fun j h3 h4=>by have:=h2 j h3 (by omega);simpa using this,rfl,rfl⟩
theorem find_K {w0:World} {F:jb} {p:jO} {s k d:Nat} (ok:J2 p) (hk:k<p.g.m) (hd:d<p.g.n k) (hs:s=p.g.first k+d):
  Call Tryz.prog w0 247 [.pointer (some ⟨p.b,0,none⟩), .int .i64 (s:Nat)] (planH p++F) (fun r H'=>r= .tuple [.int .i64 (k:Nat), .int .i64 (d:Nat), .int .i64 0].toArray∧H'=planH p++F):=by
 have hm:=ok.g.m
 have hpl:p.g.parts.length=p.g.m:=jbP
 have ho:=ok.o
 have hst:s<p.g.slots:=by
  have:=ja7 (n:=p.g.n) hk
  unfold PlG.slots;unfold PlG.first at*;omega
 have hge: ¬((s:Nat):Int)≥(p.g.slots:Nat):=by omega
 have hslb:=ok.g.slots.2
 have hq: ∀ j,decide (p.g.first j≤s)=decide (((p.g.first j:Nat):Int)≤(s:Nat)):=fun j=>decide_eq_decide.2 (by omega)
 refine Call.enter2 (n:=35) (by kernel_rfl) Tryz.func247 rfl rfl rfl ?_;refine yr2 ?_;refine ze ?_;intro b3;refine yq10 fun T hT=>?_;refine(CallV.part (CallV.fn (plnone_K ok)) ja).mono ?_;refine zc ?_;clear hT T;simp only[jB,jV,jN];refine yr5 ?_;refine zbi ?_;refine zo ?_;refine zbg ?_;refine zg ?_;refine zbb ?_;refine zac ?_;refine zec ?_;refine zaU ?_;refine yq9 fun T hT=>?_;refine(CallV.part (CallV.fn (last_K (F:=(b3,cells [.int .i64 (s:Nat)] 3)::F) (g:=284) (cap:=[.pointer (some ⟨b3,0,none⟩)]) (q:=fun j=>decide (p.g.first j≤s)) ok ?_ ?_)) (by first|exact ja|(simp only[jB,jV,jN];exact ja))).mono ?_
 ·intro i j h1 h2 h3
  have h4:p.g.first i≤p.g.first j:=jfg h1
  have h5:=of_decide_eq_true h3
  exact decide_eq_true (by omega)
 ·intro H' i hp hi;refine CallV.clo (cap:=[.pointer (some ⟨b3,0,none⟩)]) ?_
  have hsee:jA w0 H' ⟨b3,0,none⟩ (.int .i64 (s:Nat)):=(jA.cell (H:=planH p++((b3,cells [.int .i64 (s:Nat)] 3)::F)) jq rfl).more hp
  rw[hq];unfold jb8 PlG.pt;dsimp only;refine Call.enter2 (n:=8) (by kernel_rfl) Tryz.func284 rfl rfl rfl ?_;refine yr2 ?_;refine ze ?_;intro b2;refine yr13 ?_;exact zd
 ·rintro _ _ ⟨i,hi,h1,h2,rfl,rfl⟩
  have hf0:p.g.first 0=0:=rfl
  have hi1:1≤i:=by
   rcases Nat.eq_zero_or_pos i with h|h
   ·subst h
    have:=h2 0 (by omega) (by omega)
    simp[hf0] at this
   ·exact h
  have hik:i=k+1:=by
   have e1:k<i:=by
    rcases Nat.lt_or_ge k i with h|h
    ·exact h
    ·have:=h2 k h hk
     have:=of_decide_eq_false this
     omega
   rcases Nat.lt_or_ge (k+1) i with h|h
   ·have h3:=of_decide_eq_true (h1 (k+1) h)
    have h4:p.g.first (k+1)=p.g.first k+p.g.n k:=rfl
    omega
   ·omega
  have he:(i:Int)-1=((k:Nat):Int):=by omega
  have hx:p.g.parts[k]?=some (p.g.pt k):=jch hk
  have hsd:((s:Nat):Int)-((p.g.first k:Nat):Int)=(d:Nat):=by omega
  have hpt:(p.g.pt k).first=p.g.first k:=rfl
  have hf:=ok.g.first (Nat.le_of_lt hk)
  rw[he];refine za ?_;clear hT T;simp only[jB,jV,jN];refine yr4 ?_;refine zbG ?_;refine zg ?_;refine zo ?_;refine zbd ?_;refine zN ?_;refine zb6 ?_;refine zbj ?_;refine zbH ?_;refine zbC ?_;refine zab ?_;refine yr2 ?_;rw[hpt,hsd];exact zaB
open Go.RowKit
set_option maxRecDepth 10000
structure jj where
 st:Int
 slot:Int
 gen:Int
def enE:Enc jj:=⟨fun e=> [.int .i64 e.st, .int .i64 e.slot, .int .u32 e.gen],3,fun _=>rfl,by intro x v hv;simp at hv;rcases hv with rfl|rfl|rfl<;>rfl⟩
def j6 (s:Int) (l:List jj):Nat:=l.countP fun e=>decide (e.st=s)
structure TbM where
 b:Nat
 l:List jj
 gens:Int
 o:Own
def jL (t:TbM):jb:=(t.b,cells [oV t.o t.l.length, .int .i64 t.gens, .int .i64 (j6 0 t.l:Nat), .int .i64 (j6 1 t.l:Nat), .int .i64 (j6 2 t.l:Nat), .int .i64 (j6 3 t.l:Nat)] 172)::oH enE 174 t.l t.o
theorem Jf {t:TbM} {F:jb}:jL t++F=(t.b,cells [oV t.o t.l.length, .int .i64 t.gens, .int .i64 (j6 0 t.l:Nat), .int .i64 (j6 1 t.l:Nat), .int .i64 (j6 2 t.l:Nat), .int .i64 (j6 3 t.l:Nat)] 172)::(oH enE 174 t.l t.o++F):=rfl
structure TbOk (t:TbM):Prop where
 o:oOk enE t.l t.o
 n:1≤t.l.length∧t.l.length≤1024
 g:1≤t.gens∧t.gens≤2147483648
 e: ∀ e∈t.l,0≤e.st∧e.st<4∧1≤e.gen∧e.gen≤2147483648∧0≤e.slot∧e.slot≤1000000
theorem Mul_K {w0:World} {H:jb} (x y:Nat) (hx:x<18446744073709551616) (hy:y<18446744073709551616):
  Call Tryz.prog w0 201 [.int .u64 x, .int .u64 y] H (fun r H'=>r= .tuple #[.int .u64 ((x*y/18446744073709551616:Nat):Int), .int .u64 ((x*y%18446744073709551616:Nat):Int)]∧H'=H):=by
 refine⟨by kernel_rfl,fun w hw=>?_⟩;refine(Tryz.bits_Mul x y hx hy w).mono ?_;rintro e w' ⟨he,rfl⟩;exact⟨_,_,he,hw,rfl,rfl⟩
structure RqS where
 k:Nat
 zs:List jj
theorem jgL {α:Type} {n k j:Nat} {z:α} {zs:List α} (h:zs.length=n) (hk:k≤n) (ht:zs.take k=List.replicate k z) {ys:List α} (hy:ys=List.replicate j z):
  (jaJ zs ys k).length=n∧(jaJ zs ys k).take (k+min j (n-k))=List.replicate (k+min j (n-k)) z:=by
 subst hy;unfold jaJ
 have e0:min (min j (n-k)) j=min j (n-k):=by omega
 simp only[List.length_replicate,h,List.take_replicate,ht,e0]
 constructor
 ·simp;omega
 ·rw[List.take_append_of_le_length (by simp),List.take_of_length_le (by simp),List.replicate_append_replicate]
set_option maxHeartbeats 1000000 in
theorem Repeat_K {w0:World} {H:jb} {v:Value} {z:jj} {n:Nat} (hS:Sli w0 H enE v [z]) (hn:n≤100000):
  Call Tryz.prog w0 123 [v, .int .i64 (n:Nat)] H (fun r H'=> ∃ o,oOk enE (List.replicate n z) o∧r=oV o (List.replicate n z).length∧H'=oH enE 174 (List.replicate n z) o++H):=by
 refine Call.enter2 (n:=48) (by kernel_rfl) Tryz.func123 rfl rfl rfl ?_;refine yq22 fun T hT=>?_;refine(CallV.fn (Mul_K 1 n (by omega) (by omega))).mono ?_;rintro _ H ⟨rfl,rfl⟩
 have e1:1*n/18446744073709551616=0:=by omega
 have e2:1*n%18446744073709551616=n:=by omega
 rw[e1,e2];refine za ?_;clear hT T;refine yr23 ?_;refine zk ?_;refine yr2 ?_;refine KL.e rfl (Eff.makeR (E:=enE) (x0:=⟨0,0,0⟩) rfl rfl rfl rfl rfl rfl (by omega)) ?_;rintro _ _ ⟨o30,ok30,rfl,rfl⟩;refine yr7 ?_;refine KL.e rfl (Eff.copyS0 rfl rfl rfl rfl jh (by assumption) (by first|exact Sli.blk jq rfl (by first|decide|simp) (by first|decide|(unfold maxLen;omega)) rfl|exact Sli.old (by assumption)|exact Sli.own jh (by assumption) jG|assumption|exact Sli.part (by assumption) ja)) ?_;rintro _ _ ⟨rfl,ok33,rfl⟩;refine yr5 ?_
 have hc0:=jgL (k:=0) (j:=1) (z:=z) (zs:=List.replicate n (⟨0,0,0⟩:jj)) (n:=n) (by simp) (by omega) (by simp) (ys:=[z]) rfl
 refine K.loopT (σ:=RqS) [] (fun s kp_=>(8, .int .i64 (s.k:Nat))::(7,oV o30 s.zs.length)::kp_) (fun s=>oH enE 174 s.zs o30++H) (fun s=>s.zs.length=n∧s.k≤n∧s.zs.take s.k=List.replicate s.k z∧oOk enE s.zs o30∧(s.k=0→n=0)) (fun s=>n-s.k) (⟨min 1 n,jaJ (List.replicate n ⟨0,0,0⟩) [z] 0⟩) jg ja (⟨hc0.1,by dsimp only;omega,by have:=hc0.2;simpa using this,ok33,by dsimp only;omega⟩) ?_;rintro⟨k,zs⟩ ⟨hl,hk,ht,ok,h0⟩;dsimp only at hl hk ht ok h0⊢
 by_cases hlt:k<n
 ·have hkl:k≤zs.length:=by omega
  have hkl':k<zs.length:=by omega
  have hsli:Sli w0 (oH enE 174 zs o30++H) enE (oV o30 zs.length) zs:=Sli.own jP.head ok rfl
  refine yr13 ?_;refine zw ?_
  (first|refine K.seq (K.drawn (H) [(0,1),(1,0),(2,0),(3,0),(4,0),(5,0),(6,0),(7,2),(8,0),(9,0)] (by kernel_rfl) (by kernel_rfl) (by kernel_rfl) (by kernel_rfl) (by kernel_rfl) (by kernel_rfl) ja ?_)|refine K.seq (K.seq (K.drawn (H) [(0,1),(1,0),(2,0),(3,0),(4,0),(5,0),(6,0),(7,2),(8,0),(9,0)] (by kernel_rfl) (by kernel_rfl) (by kernel_rfl) (by kernel_rfl) (by kernel_rfl) (by kernel_rfl) ja ?_))|refine K.drawn (H) [(0,1),(1,0),(2,0),(3,0),(4,0),(5,0),(6,0),(7,2),(8,0),(9,0)] (by kernel_rfl) (by kernel_rfl) (by kernel_rfl) (by kernel_rfl) (by kernel_rfl) (by kernel_rfl) ja ?_)
  refine zm ?_;refine zg ?_;refine zg ?_;refine zed ?_;refine zg ?_;refine zg ?_;refine KD.v0 rfl rfl (Val.sliceH rfl rfl rfl Jm rfl jr) ?_
  --STOP before op 7
  refine KD.e rfl rfl (Eff.copyS (E:=enE) (xs:=zs) (ys:=(zs.take k).drop 0) (o:=o30) (i:=k) rfl rfl rfl rfl rfl hkl jP.head ok (hsli.sub (Nat.zero_le _) hkl)) ?_;rintro _ _ ⟨rfl,ok',rfl⟩;refine⟨ja,?_⟩
  have hys:(zs.take k).drop 0=List.replicate k z:=by simpa using ht
  have hc:=jgL (j:=k) hl hk ht hys
  rw[hys] at ok' hc⊢;simp only[List.length_replicate]
  have hmin:min k (zs.length-k)+k≤n:=by omega
  refine zfg ?_;refine zy ?_;refine yr1 ?_;exact KE.again ⟨k+min k (zs.length-k),jaJ zs (List.replicate k z) k⟩ jg ja ⟨hc.1,by dsimp only;omega,by have:=hc.2;rw [hl];exact this,ok',by dsimp only;omega⟩ (by dsimp only;omega)
 ·have hkn:k=n:=by omega
  subst hkn
  have hzs:zs=List.replicate k z:=by rw[←ht,List.take_of_length_le (by omega)]
  subst hzs;refine yr22 ?_;exact KE.fin jd rfl jc ja ⟨o30,ok,rfl,rfl⟩
theorem cnt_rep (s:Int) (z:jj) (n:Nat):j6 s (List.replicate n z)=if z.st=s then n else 0:=by
 unfold j6;rw[List.countP_replicate]
 simp
theorem tbNew_K {w0:World} {H:jb} {n:Nat} {gens:Int} (hn:1≤n∧n≤1024) (hg:1≤gens∧gens≤2147483648):
  Call Tryz.prog w0 59 [.int .i64 (n:Nat), .int .i64 gens] H (fun r H'=> ∃ t,TbOk t∧t.l=List.replicate n ⟨0,0,1⟩∧t.gens=gens∧r= .tuple [.pointer (some ⟨t.b,0,none⟩), .int .i64 0].toArray∧H'=jL t++H):=by
 have h1: ¬((n:Nat):Int)<1:=by omega
 have h2: ¬((n:Nat):Int)>1024:=by omega
 refine Call.enter2 (n:=34) (by kernel_rfl) Tryz.func59 rfl rfl rfl ?_;refine yr37 ?_;refine zt ?_;intro b22;refine yq1 fun T hT=>?_;refine(CallV.fn (Repeat_K (z:=⟨0,0,1⟩) (n:=n) (Sli.blk jq rfl (by simp) (by simp[maxLen]) rfl) (by omega))).mono ?_;rintro _ _ ⟨o,ko,rfl,rfl⟩;refine za ?_;clear hT T;refine yr2 ?_;refine ze ?_;intro b27;refine yr21 ?_;refine KE.fin (H':=jL ⟨b27,List.replicate n ⟨0,0,1⟩,gens,o⟩++H) jd rfl jc (by simp only[Jf,cnt_rep];exact ja) ⟨⟨b27,List.replicate n ⟨0,0,1⟩,gens,o⟩,⟨ko,by simpa using hn,hg,fun e he=>?_⟩,rfl,rfl,rfl,rfl⟩;rw[(List.mem_replicate.1 he).2];decide
section
variable {w0 : World} {F : jb} {t : TbM}
theorem tbnone_K (ok:TbOk t):Call Tryz.prog w0 82 [.pointer (some ⟨t.b,0,none⟩)] (jL t++F) (fun r H'=>r= .bool false∧H'=jL t++F):=by
 have ho:=ok.o
 have hn:=ok.n
 have hne: ¬((t.l.length:Nat):Int)=0:=by omega
 refine Call.enter1 (n:=13) (by kernel_rfl) Tryz.func82 rfl rfl rfl ?_;simp only[Jf];refine yr27 ?_;exact zbk
theorem jfT (ok:TbOk t):Call Tryz.prog w0 125 [.pointer (some ⟨t.b,0,none⟩)] (jL t++F) (fun r H'=>r= .int .i64 (t.l.length:Nat)∧H'=jL t++F):=by
 have ho:=ok.o
 refine Call.enter1 (n:=10) (by kernel_rfl) Tryz.func125 rfl rfl rfl ?_;refine yq9 fun T hT=>?_;refine(CallV.fn (tbnone_K ok)).mono ?_;rintro _ _ ⟨rfl,rfl⟩;refine za ?_;clear hT T;simp only[Jf];refine yr16 ?_;exact zbk
end
end Go.Proofs.YtldomapkmopomaaGreatDoor.Sw
