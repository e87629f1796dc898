/-The walker and the contracts that the law needs,part 17. -/
import Derived.Test.YtpcgafhgfjlkmaaGreatDoorD1
import Derived.ArgAppend
import Derived.ChangeMaps5
import Derived.Deep.Fields
import Derived.Deep.LoopGhost
import Derived.Deep.OwnRows
import Derived.Deep.Quiet
import Derived.Deep.Slices
import Derived.IntWalk
import Derived.Laws.Cells
import Derived.Laws.CopyOwn
import Derived.Laws.Externs
import Derived.Laws.FloatArith
import Derived.Laws.IdiomStrings
import Derived.Laws.NewFold
import Derived.Laws.StructEq
import Derived.Lib.BitFns
import Derived.Lib.Hide
import Derived.Lib.SmallJoins
import Derived.Lib.TrailingZeros
import Derived.Maps.RangeRun
import Derived.OrdersIn
import Derived.ProofKit
import Derived.RangeFuncBound
import Derived.RangeFuncCalls
import Derived.RangeFuncLeaves
import Derived.RangeFuncNested
import Derived.RecoverIn
import Derived.Shelf.Bits.Mul64
import Derived.Shelf.Slices.Turned
import Derived.Shelf.Spec.TrailingZeros
import Derived.Shelf.Strconv.Itoa0
import Derived.SizedLaws
import Derived.Sort.BigQuietIn
import Derived.StillTailTactics
import Derived.Test.YtpcgafhgfjlkmaaGreatDoorProg
import Derived.WalkKit
import Derived.Test.YtpcgafhgfjlkmaaGreatDoorJ15
import Derived.Test.YtpcgafhgfjlkmaaGreatDoorJ16
set_option linter.unusedVariables false set_option linter.unusedSimpArgs false set_option linter.unusedVariables false
set_option linter.unusedSimpArgs false
namespace Go.Proofs.YtpcgafhgfjlkmaaGreatDoor.Sw
set_option maxHeartbeats 8000000
open Go.Proofs.YtpcgafhgfjlkmaaGreatDoor renaming lo → qL, hi → qH
open Go.RowKit
set_option maxRecDepth 10000
def baseP (R:List (List Int)) (t:Nat):Nat:=((R.take t).map List.length).sum
def jaI (R:List (List Int)):List Int:=(List.range (R.length+1)).map fun t=>((baseP R t:Nat):Int)
theorem jjP (R:List (List Int)):(jaI R).length=R.length+1:=by simp[jaI]
theorem jjQ {R:List (List Int)} {t:Nat} (h:t≤R.length):(jaI R)[t]?=some ((baseP R t:Nat):Int):=by
 grind[jaI]
theorem jln (R:List (List Int)):R.flatten.length=(R.map List.length).sum:=by
 grind
theorem jdt {A B:List (List Int)} {x:List Int}:baseP (A++x::B) A.length=A.flatten.length∧baseP (A++x::B) (A.length+1)=A.flatten.length+x.length:=by
 grind[baseP]
theorem jcY {R:List (List Int)} {t:Nat} {x:List Int} (h:R[t]?=some x): ∃ A B,R=A++x::B∧A.length=t:=by
 obtain⟨hl,e⟩:=List.getElem?_eq_some_iff.1 h
 exact⟨R.take t,R.drop (t+1),by rw[←e,←List.drop_eq_getElem_cons hl,List.take_append_drop],by grind⟩
theorem jcA {R:List (List Int)} {t:Nat} {x:List Int} (h:R[t]?=some x):baseP R (t+1)=baseP R t+x.length∧baseP R t+x.length≤R.flatten.length:=by
 grind[jcY,jdt]
theorem flat_at_r {R:List (List Int)} {t i:Nat} {x:List Int} {w:Int} (h:R[t]?=some x) (hw:x[i]?=some w):R.flatten[baseP R t+i]?=some w:=by
 obtain⟨A,B,rfl,rfl⟩:=jcY h
 have hi:=jx hw
 rw[jdt.1,List.flatten_append,List.flatten_cons,List.getElem?_append_right (by omega),show A.flatten.length+i-A.flatten.length=i by omega,List.getElem?_append_left hi,hw]
theorem flat_part {R:List (List Int)} {t:Nat} {x:List Int} (h:R[t]?=some x):(R.flatten.take (baseP R t+x.length)).drop (baseP R t)=x:=by
 grind[jcY,jdt]
theorem set_r {R:List (List Int)} {t:Nat} {x x':List Int} (h:R[t]?=some x) (hl:x'.length=x.length):(R.set t x').flatten=R.flatten.take (baseP R t)++x'++R.flatten.drop (baseP R t+x.length)∧jaI (R.set t x')=jaI R:=by
 obtain⟨A,B,rfl,rfl⟩:=jcY h
 have hs:(A++x::B).set A.length x'=A++x'::B:=by simp
 constructor
 ·rw[hs,jdt.1,List.flatten_append,List.flatten_cons,List.flatten_append,List.flatten_cons,List.take_left',←List.append_assoc,←List.append_assoc,show A.flatten.length+x.length=(A.flatten++x).length by simp,List.drop_left']
  ·rfl
  ·rfl
 simp_all[jaI,baseP]
theorem set_word {R:List (List Int)} {t i:Nat} {x:List Int} {w:Int} (h:R[t]?=some x) (hi:i<x.length):(R.set t (x.set i w)).flatten=R.flatten.set (baseP R t+i) w:=by
 grind[jcY,jdt]
theorem set_clear {R:List (List Int)} {t i h':Nat} {x:List Int} (h:R[t]?=some x) (hi:i≤h') (hh:h'≤x.length):(R.set t (cleared x i h' 0)).flatten=cleared R.flatten (baseP R t+i) (baseP R t+h') 0:=by
 obtain⟨A,B,rfl,rfl⟩:=jcY h
 have hs:(A++x::B).set A.length (cleared x i h' 0)=A++cleared x i h' 0::B:=by simp
 rw[hs,jdt.1,List.flatten_append,List.flatten_cons,List.flatten_append,List.flatten_cons];unfold cleared;rw[show A.flatten.length+h'-(A.flatten.length+i)=h'-i by omega,List.take_append,List.take_of_length_le (show A.flatten.length≤A.flatten.length+i by omega),show A.flatten.length+i-A.flatten.length=i by omega,List.take_append_of_le_length (by omega),List.drop_append,List.drop_of_length_le (show A.flatten.length≤A.flatten.length+h' by omega),List.nil_append,show A.flatten.length+h'-A.flatten.length=h' by omega,List.drop_append_of_le_length hh]
 grind
structure Js where
 b:Nat
 R:List (List Int)
 ow:Own
 ob:Own
def jv (m:Js):jb:=(m.b,cells [oV m.ow m.R.flatten.length,oV m.ob (jaI m.R).length] 110)::(oH uE 33 m.R.flatten m.ow++oH iE 3 (jaI m.R) m.ob)
theorem Jy {m:Js} {F:jb}:jv m++F=(m.b,cells [oV m.ow m.R.flatten.length,oV m.ob (jaI m.R).length] 110)::(oH uE 33 m.R.flatten m.ow++(oH iE 3 (jaI m.R) m.ob++F)):=by
 simp[jv]
structure jau (m:Js):Prop where
 w:oOk uE m.R.flatten m.ow
 b:oOk iE (jaI m.R) m.ob
 n:m.R.flatten.length≤1000000000
 t:1≤m.R.length∧m.R.length≤1000
theorem subV_two {o:Own} {n a b c d:Nat} (hn: ∀ ob,o=some ob→n≤ob.c) (h0:o=none→n=0) (hb:b≤n) (hcd:c<d) (hd:d≤b-a) (hab:a≤b):Jc (Jc (oV o n) a b 1) c d 1=Jc (oV o n) (a+c) (a+d) 1:=by
 cases o with
 |none=>grind
 |some ob=>
  simp only[oV,Jc];simp only[Option.map_some,Addr.add]
  grind
theorem adr_sub {o:Own} {n a b:Nat} (hn: ∀ ob,o=some ob→n≤ob.c) (h0:o=none→n=0) (hab:a<b) (hb:b≤n):adr (Jc (oV o n) a b 1) (0*1)=adr (oV o n) (a*1):=by
 cases o with
 |none=>grind
 |some ob=>
  simp only[oV,Jc];simp only[Option.map_some,Addr.add,adr]
  grind
theorem own_cap {E:Enc Int} {xs:List Int} {o:Own} (ok:oOk E xs o):(∀ ob,o=some ob→xs.length≤ob.c)∧(o=none→xs.length=0):=by
 grind[oOk]
open Go.RowKit
set_option maxRecDepth 10000
structure CfgOk (c:Cfg):Prop where
 cl:1≤c.cl.length∧c.cl.length≤8
 tn:1≤c.tn.length∧c.tn.length≤8
 el: ∀ x∈c.cl,1<x∧x≤jbL c.cl
 page:jbL c.cl≤c.page∧c.page≤64
 workers:0≤c.workers∧c.workers≤8
 grey:1≤c.grey∧c.grey≤64
 gens:1≤c.gens∧c.gens≤2147483648
 ten: ∀ t∈c.tn,(jbL c.cl≤t.quota∧t.quota≤4096)∧(1≤t.trigger∧t.trigger≤1048576)∧(1≤t.caps∧t.caps≤1024)∧(0≤t.assist∧t.assist≤1024)
theorem ja2 {c:Cfg} (h:jX c=true):CfgOk c:=by
 simp only[jX,jc9,Bool.and_eq_true,List.all_eq_true,jbM,jao,decide_eq_true_eq] at h
 obtain⟨hc,⟨p1,p2,p3,p4,p5,p6,p7,p8,p9,p10,_⟩,ht⟩:=h
 have hcc:=hc
 simp only[Jq,Bool.and_eq_true,decide_eq_true_eq] at hcc
 obtain⟨⟨⟨c1,c2⟩,c3⟩,c4⟩:=hcc
 refine⟨⟨c1,c2⟩,⟨by omega,by omega⟩,?_,⟨p1,p2⟩,⟨p5,p6⟩,⟨p7,p8⟩,⟨p9,p10⟩,?_⟩
 ·intro x hx;refine⟨(jdi c4).1 x hx,?_⟩
  obtain⟨i,hi⟩:=List.getElem?_of_mem hx
  obtain⟨z,hz⟩:=jA (l:=c.cl) (k:=c.cl.length-1) (by omega)
  have:=jgQ hc (by grind:i≤c.cl.length-1) hi hz
  grind[jbL]
 grind
def j9 (c:Cfg) (t k:Int):Bool:=jX c&&jao [0,t,(c.tn.length:Nat)-1,0,k,(c.cl.length:Nat)-1]
theorem jbQ {c:Cfg} {t k:Int} (h:j9 c t k=true): ∃ (i j:Nat) (x:Tn) (y:Int),t=i∧k=j∧c.tn[i]?=some x∧c.cl[j]?=some y∧CfgOk c:=by
 simp only[j9,Bool.and_eq_true,jao,decide_eq_true_eq] at h
 obtain⟨x,hx⟩:=jA (l:=c.tn) (k:=t.toNat) (by omega)
 obtain⟨y,hy⟩:=jA (l:=c.cl) (k:=k.toNat) (by omega)
 grind[ja2]
theorem jh2 {w0:World} {H:jb} {c:Cfg} {vc vt:Value} {t k:Int} (hR:Jo w0 H c vc vt):
  Call Tryz.prog w0 123 [jw c vc vt, .int .i64 t, .int .i64 k] H (fun r H'=>r= .bool (j9 c t k)∧H'=H):=by
 have hc0:=fun A (hp:Part A H)=>jiQ (hR.part hp)
 obtain⟨hS,hT',o1,o2,l1,l2⟩:=hR
 have he:j9 c t k=(jX c&&jao [0,t,(c.tn.length:Nat)-1,0,k,(c.cl.length:Nat)-1]):=rfl
 obtain⟨cl,page,tn,workers,grey,gens⟩:=c
 dsimp only at hS hT' l1 l2 he;simp only[jw,jT] at hc0⊢;refine Call.enter3 (n:=24) (by rfl) Tryz.func123 rfl rfl rfl ?_;refine zcN ?_;intro b3;refine zc2 fun T hT=>?_;refine zg1 ?_;rintro _ _ ⟨rfl,rfl⟩
 cases hc:jX ⟨cl,page,tn,workers,grey,gens⟩ with
 |false=>
  rw[hc,Bool.false_and] at he;refine ziB ?_;clear hT T;refine zG ?_;refine zdZ ?_;refine zcc ?_;refine zcc ?_;refine zcc ?_;refine zC ?_;refine zf ?_;exact zep
 |true=>
  rw[hc,Bool.true_and] at he;simp only[jbe,if_true];refine zd ?_;clear hT T;refine zd8 ?_;refine zga ?_;refine zfo ?_;refine zbg ?_;refine zcx ?_;refine zfo ?_;refine zaj ?_;intro b21;refine zdk ?_;refine jq (jhj (l:=[0,t,(tn.length:Nat)-1,0,k,(cl.length:Nat)-1]) (n:=2) (Sli.blk jF rfl (by simp) (by decide) rfl) rfl (by decide)) ?_;refine zcE ?_;exact zep
set_option maxRecDepth 10000
def rnP (x a b:Int):Bool:=decide (a≤x)&&decide (x≤b)
theorem rfrom_K {w0:World} {H:jb} {x a b:Int}:Call Tryz.prog w0 118 [.int .i64 x, .int .i64 a, .int .i64 b] H (fun r H'=>r= .bool (rnP x a b)∧H'=H):=by
 refine Call.enter3 (n:=15) (by rfl) Tryz.func118 rfl rfl rfl ?_
 by_cases h1:x≥a
 ·have he:rnP x a b=decide (x≤b):=by grind[rnP]
  refine zdx ?_;refine zaz ?_;refine zbM ?_;refine KL.v rfl (Val.leq rfl rfl) ?_;refine zcE ?_;exact zep
 ·have he:rnP x a b=false:=by grind[rnP]
  refine zdx ?_;refine zbO ?_;refine zax ?_;refine zf ?_;exact zep
theorem class_el {l:List Int} (h:Jq l=true):(∀ x∈l,1<x∧x≤64)∧l.Pairwise (· < ·):=by
 have hc:=h
 simp only[Jq,Bool.and_eq_true,decide_eq_true_eq] at hc;refine⟨fun x hx=>⟨(jdi hc.2).1 x hx,?_⟩,(jdi hc.2).2⟩
 obtain⟨i,hi⟩:=List.getElem?_of_mem hx
 obtain⟨z,hz⟩:=jA (l:=l) (k:=l.length-1) (by omega)
 have h1:=jgQ h (by grind:i≤l.length-1) hi hz
 grind
structure RcS where
 k:Nat
 last:Int
set_option maxHeartbeats 1000000 in
theorem jhy {w0:World} {H:jb} {v:Value} {l:List Int} (hS:Sli w0 H iE v l) (hl:l.length≤140737488355328):
  Call Tryz.prog w0 62 [v] H (fun r H'=>r= .int .i64 (jbe (Jq l) 2)∧H'=H):=by
 refine Call.enter1 (n:=46) (by kernel_rfl) Tryz.func62 rfl rfl rfl ?_
 by_cases h1:l.length<1
 ·have hc:Jq l=false:=by simp[Jq];omega
  have h1':((l.length:Nat):Int)<1:=by omega
  refine zaa ?_;refine zce ?_;refine zd7 ?_;refine zav ?_;exact zdN
 by_cases h8:8<l.length
 ·have hc:Jq l=false:=by simp[Jq];omega
  refine zaa ?_;refine zdi ?_;refine zA ?_;refine zcx ?_;refine zbs ?_;refine zC ?_;refine zav ?_;exact zdN
 refine zaa ?_;refine zdi ?_;refine zA ?_;refine zcx ?_;refine zfi ?_;refine z9 ?_;refine zcO ?_;refine K.loopT (σ:=RcS) [(0,_)] (fun s kp_=>(3, .int .i64 (s.k:Nat))::kp_) (fun s=>H) (fun s=>s.k≤l.length∧jbU 1 l=jbU s.last (l.drop s.k)∧(s.k=0→s.last=1)∧(0<s.k→l[s.k-1]?=some s.last)∧s.last≤64) (fun s=>l.length-s.k) (⟨0,1⟩) jj ja (⟨by simp,by simp,by simp,by simp,by simp⟩) ?_;rintro⟨k,last⟩ ⟨hk,hr,hz,hp,h64⟩;dsimp only at hk hr hz hp h64⊢
 by_cases hlt:k<l.length
 ·obtain⟨x,hx⟩:=jA hlt
  have hmem:=List.mem_of_getElem? hx
  have hd:l.drop k=x::l.drop (k+1):=by
   obtain⟨h1,e⟩:=List.getElem?_eq_some_iff.1 hx
   rw[List.drop_eq_getElem_cons h1,e]
  have hfalse:(x<2∨x>64∨(0<k∧x≤last))→Jq l=false:=by
   intro h
   cases hc:Jq l with
   |false=>rfl
   |true=>
    exfalso
    obtain⟨e1,e2⟩:=class_el hc
    have:=e1 x hmem
    rcases h with h|h|⟨h,h'⟩
    ·omega
    ·omega
    ·obtain⟨g1,f1⟩:=List.getElem?_eq_some_iff.1 (hp h)
     obtain⟨g2,f2⟩:=List.getElem?_eq_some_iff.1 hx
     have:=List.pairwise_iff_getElem.1 e2 (k-1) k g1 g2 (by omega)
     rw[f1,f2] at this
     omega
  by_cases hx2:x<2
  ·have hc:=hfalse (.inl hx2)
   refine zfp ?_;refine zhN ?_;refine zd3 ?_;refine zhL ?_;refine zcT ?_;refine zel ?_;refine zem ?_;refine zj ?_;refine zft ?_;refine zeM ?_;refine zeM ?_;refine zeM ?_;refine zeM ?_;refine zeM ?_;refine zel ?_;refine zcB ?_;refine zcs ?_;refine zfj ?_;exact zdN
  by_cases hx64:x>64
  ·have hc:=hfalse (.inr (.inl hx64))
   refine zfp ?_;refine zhN ?_;refine zgl ?_;refine zdn ?_;refine ziS ?_;refine zbV ?_;refine zj ?_;refine zft ?_;refine zeM ?_;refine zeM ?_;refine zeM ?_;refine zeM ?_;refine zeM ?_;refine zel ?_;refine zcB ?_;refine zcs ?_;refine zfj ?_;exact zdN
  by_cases hk0:0<k
  ·have hp':=hp hk0
   have hp2:l[((k:Int)-1).toNat]?=some last:=by rw[show((k:Int)-1).toNat=k-1 by omega];exact hp'
   by_cases hxl:x≤last
   ·have hc:=hfalse (.inr (.inr ⟨hk0,hxl⟩))
    refine zfp ?_;refine zhN ?_;refine zgl ?_;refine zdn ?_;refine zhM ?_;refine zbV ?_;refine zf8 ?_;refine ziS ?_;refine zbi ?_;refine zbt ?_;refine zdn ?_;refine zbi ?_;refine KD.y0 rfl rfl rfl rfl (Val.sub rfl rfl (by simp only[qL,qH];omega)) ?_;refine zgn ?_;refine zke ?_;refine zhO ?_;refine zaB ?_;refine zcs ?_;refine zfj ?_;exact zdN
   ·rw[hd] at hr;simp only[jbU] at hr;rw[decide_eq_true (show last<x by omega),Bool.true_and] at hr;refine zfp ?_;refine zhN ?_;refine zgl ?_;refine zdn ?_;refine zhM ?_;refine zbV ?_;refine zf8 ?_;refine ziS ?_;refine zbi ?_;refine zbt ?_;refine zdn ?_;refine zbi ?_;refine KD.y0 rfl rfl rfl rfl (Val.sub rfl rfl (by simp only[qL,qH];omega)) ?_;refine zgn ?_;refine zkf ?_;refine zhO ?_;refine zaB ?_;refine zbH ?_;refine zcg ?_;exact zlw
  ·have hk1:k=0:=by omega
   have hl1:=hz hk1
   have hk1': ¬((k:Nat):Int)>0:=by omega
   rw[hd] at hr;simp only[jbU] at hr;rw[decide_eq_true (show last<x by omega),Bool.true_and] at hr;refine zfp ?_;refine zhN ?_;refine zgl ?_;refine zdn ?_;refine zhM ?_;refine zbV ?_;refine zf8 ?_;refine zhM ?_;refine zbt ?_;refine zfg ?_;refine zfg ?_;refine zhs ?_;refine ziU ?_;refine zaB ?_;refine zbH ?_;refine zcg ?_;exact zlw
 ·have hke:k=l.length:=by omega
  have hlast:=hp (by omega)
  have hzl:l.getLast?=some last:=by rw[List.getLast?_eq_getElem?,←hke];exact hlast
  have hc:Jq l=true:=by
   rw[List.drop_of_length_le (by omega)] at hr;simp only[Jq,Bool.and_eq_true,decide_eq_true_eq,hzl,Option.getD_some];exact⟨⟨⟨by omega,by omega⟩,by omega⟩,hr⟩
  refine za4 ?_;refine zcV ?_;refine zf ?_;exact zdN
open Go.RowKit
set_option maxRecDepth 10000
theorem sub_perm {α:Type} {A S:List α} (h:A.Sublist S): ∃ F,S.Perm (A++F):=by
 induction h with
 |slnil=>simp_all
 |cons a h ih=>obtain⟨F,hF⟩:=ih;exact⟨a::F,(hF.cons a).trans List.perm_middle.symm⟩
 |cons_cons a h ih=>simp_all
theorem Call.ro {P:Program} {w0:World} {f:FuncId} {args:List Value} {A H:jb} {R:Value→Prop} (h: ∀ F,Call P w0 f args (A++F) (fun r H'=>R r∧H'=A++F)) (hp:Part H A):Call P w0 f args H (fun r H'=>R r∧H'=H):=by
 obtain⟨S,h1,h2⟩:=hp.sub
 obtain⟨F,h3⟩:=sub_perm h2
 have hF:=h1.trans h3
 refine⟨(h F).ent,fun w hw=>((h F).out w (hw.perm hF)).mono ?_⟩;rintro e w' ⟨v,H',rfl,hw',hr,rfl⟩;exact⟨v,H,rfl,hw'.perm hF.symm,hr,rfl⟩
def jck (x:jeu):List Value:=[.int .i64 (x.size:Nat), .int .i64 (x.first:Nat), .int .i64 (x.many:Nat), .int .i64 (x.page:Nat), .int .i64 (x.per:Nat)]
def jdQ:Enc jeu:=⟨jck,5,fun _=>rfl,by intro x v hv;simp[jck] at hv;rcases hv with rfl|rfl|rfl|rfl|rfl<;>rfl⟩
theorem partE_enc (x:jeu):jdQ.enc x=[.int .i64 (x.size:Nat), .int .i64 (x.first:Nat), .int .i64 (x.many:Nat), .int .i64 (x.page:Nat), .int .i64 (x.per:Nat)]:=rfl
structure jQ where
 b:Nat
 g:PlG
 o:Own
def planH (p:jQ):jb:=(p.b,cells [oV p.o p.g.parts.length, .int .i64 (p.g.slots:Nat), .int .i64 (p.g.pages:Nat), .int .i64 (p.g.pg:Nat)] 189)::oH jdQ 202 p.g.parts p.o
theorem jO {p:jQ} {F:jb}:planH p++F=(p.b,cells [oV p.o p.g.parts.length, .int .i64 (p.g.slots:Nat), .int .i64 (p.g.pages:Nat), .int .i64 (p.g.pg:Nat)] 189)::(oH jdQ 202 p.g.parts p.o++F):=rfl
structure J6 (p:jQ):Prop where
 g:jc p.g
 o:oOk jdQ p.g.parts p.o
theorem jfK {w0:World} {F:jb} {p:jQ} (ok:J6 p):
  Call Tryz.prog w0 113 [.pointer (some ⟨p.b,0,none⟩)] (planH p++F) (fun r H'=>r= .bool false∧H'=planH p++F):=by
 have h1:=ok.g.pg1
 have hne: ¬((p.g.pg:Nat):Int)=0:=by omega
 refine Call.enter1 (n:=12) (by rfl) Tryz.func113 rfl rfl rfl ?_;simp only[jO];refine zcp ?_;refine zd9 ?_;refine zbz ?_;refine zf ?_;exact zdP
theorem jdu {w0:World} {F:jb} {p:jQ} (ok:J6 p):
  Call Tryz.prog w0 102 [.pointer (some ⟨p.b,0,none⟩)] (planH p++F) (fun r H'=>r= .int .i64 (p.g.slots:Nat)∧H'=planH p++F):=by
 refine Call.enter1 (n:=9) (by rfl) Tryz.func102 rfl rfl rfl ?_;refine zY ?_;refine zgv ?_;simp only[jO];refine zR ?_;refine zF ?_;refine zf ?_;exact zdP
theorem jhT {w0:World} {F:jb} {p:jQ} (ok:J6 p):
  Call Tryz.prog w0 114 [.pointer (some ⟨p.b,0,none⟩)] (planH p++F) (fun r H'=>r= .int .i64 (p.g.words:Nat)∧H'=planH p++F):=by
 have hw:=ok.g.words
 have e:((p.g.pages:Nat):Int)*((p.g.pg:Nat):Int)=((p.g.words:Nat):Int):=rfl
 refine Call.enter1 (n:=14) (by rfl) Tryz.func114 rfl rfl rfl ?_;refine zY ?_;refine zgv ?_;simp only[jO];refine zbU ?_;refine K.drawn [] [(0,0),(1,0),(2,0),(3,0),(4,0),(5,0),(6,0),(7,0),(8,0),(9,0)] (by rfl) (by rfl) (by kernel_rfl) (by rfl) (by rfl) (by rfl) Part.nil ?_;refine zeV ?_;refine zdD ?_;refine zhP ?_;refine zaV ?_;exact zdP
theorem last_K {w0:World} {F:jb} {p:jQ} {g:FuncId} {cap:List Value} {q:Nat→Bool} (ok:J6 p) (hmono: ∀ i j,i≤j→j<p.g.m→q j=true→q i=true)
  (hso: ∀ H' i,Part H' (planH p++F)→i<p.g.m→CallV Tryz.prog w0 (.func (.func g) #[] cap.toArray) [.agg (jck (p.g.pt i)).toArray] H' (fun r H''=>r= .bool (q i)∧H''=H')):
  Call Tryz.prog w0 204 [.pointer (some ⟨p.b,0,none⟩), .func (.func g) #[] cap.toArray] (planH p++F) (fun r H'=> ∃ i:Nat,i≤p.g.m∧(∀ j,j<i→q j=true)∧(∀ j,i≤j→j<p.g.m→q j=false)∧r= .int .i64 ((i:Int)-1)∧H'=planH p++F):=by
 have hm:=ok.g.m
 have hpl:p.g.parts.length=p.g.m:=jcL
 have ho:=ok.o
 refine Call.enter2 (n:=13) (by rfl) Tryz.func204 rfl rfl rfl ?_;simp only[jO];refine zaU ?_;intro b2 b3;refine zu ?_;refine zec ?_;refine zbp ?_;refine zaJ fun T hT=>?_;refine(CallV.part (CallV.fn (jkX (H:=(b2,cells [.pointer (some ⟨p.b,0,none⟩)] 102)::(b3,cells [.func (.func g) #[] cap.toArray] 267)::(planH p++F)) (n:=p.g.parts.length) (fun i=>!q i) (by omega) ?_ ?_)) (by simp only[jO];exact ja)).mono ?_
 ·grind
 ·intro i hi0
  have hi:i<p.g.m:=by omega
  have hx:p.g.parts[i]?=some (p.g.pt i):=jdj hi
  refine CallV.clo (cap:=[.pointer (some ⟨b3,0,none⟩), .pointer (some ⟨b2,0,none⟩)]) ?_;refine Call.enter3 (n:=15) (by rfl) Tryz.func258 rfl rfl rfl ?_;simp only[jO];refine zeW ?_;refine K.drawn [] [(0,0),(1,0),(2,0),(3,0),(4,0),(5,0),(6,0),(7,0),(8,2),(9,0),(10,0)] (by rfl) (by rfl) (by kernel_rfl) (by rfl) (by rfl) (by rfl) Part.nil ?_;refine zP ?_;refine zbN ?_;refine zdf ?_;refine zj ?_;refine zbP ?_;refine KD.v0 rfl rfl (Val.loadAP rfl rfl rfl jep) ?_;refine zl fun T hT=>?_;refine(hso _ i (by simp only[jO];exact ja) hi).mono ?_;rintro _ _ ⟨rfl,rfl⟩;refine zg ?_;clear hT T;refine KD.v0 rfl rfl (Val.notB rfl) ?_;refine zaV ?_;exact zdP
 ·rintro _ _ ⟨i,hi,h1,h2,rfl,rfl⟩;refine zd ?_;clear hT T;refine zdM ?_;refine zf ?_;exact KE.fin je rfl jd (by first|exact ja|(simp only[Jg,Jy,jO];exact ja)) ⟨i,by omega,fun j hj=>by grind,fun j h3 h4=>by grind,rfl,rfl⟩
theorem find_K {w0:World} {F:jb} {p:jQ} {s k d:Nat} (ok:J6 p) (hk:k<p.g.m) (hd:d<p.g.n k) (hs:s=p.g.first k+d):
  Call Tryz.prog w0 141 [.pointer (some ⟨p.b,0,none⟩), .int .i64 (s:Nat)] (planH p++F) (fun r H'=>r= .tuple [.int .i64 (k:Nat), .int .i64 (d:Nat), .int .i64 0].toArray∧H'=planH p++F):=by
 have hm:=ok.g.m
 have hpl:p.g.parts.length=p.g.m:=jcL
 have ho:=ok.o
 have hst:s<p.g.slots:=by
  have:=jbD (n:=p.g.n) hk
  grind[PlG.slots,PlG.first]
 have hge: ¬((s:Nat):Int)≥(p.g.slots:Nat):=by omega
 have hslb:=ok.g.slots.2
 have hq: ∀ j,decide (p.g.first j≤s)=decide (((p.g.first j:Nat):Int)≤(s:Nat)):=fun j=>decide_eq_decide.2 (by omega)
 refine Call.enter2 (n:=35) (by rfl) Tryz.func141 rfl rfl rfl ?_;refine zgK ?_;intro b3;refine zch ?_;refine zaP ?_;refine ji (jfK ok) ja ?_;simp only[jO];refine zk ?_;refine zg3 ?_;refine ziV ?_;refine zP ?_;refine zjY ?_;refine zao ?_;refine zd2 ?_;refine zgw ?_;refine zao ?_;refine ziW ?_;refine zbV ?_;refine zb0 ?_;refine zbH ?_;refine zeU ?_;refine ze ?_;refine zaJ fun T hT=>?_;refine(CallV.part (CallV.fn (last_K (F:=(b3,cells [.int .i64 (s:Nat)] 3)::F) (g:=205) (cap:=[.pointer (some ⟨b3,0,none⟩)]) (q:=fun j=>decide (p.g.first j≤s)) ok ?_ ?_)) (by first|exact ja|(simp only[Jg,Jy,jO];exact ja))).mono ?_
 ·intro i j h1 h2 h3
  have h4:p.g.first i≤p.g.first j:=jhe h1
  grind
 ·intro H' i hp hi;refine CallV.clo (cap:=[.pointer (some ⟨b3,0,none⟩)]) ?_
  have hsee:jI w0 H' ⟨b3,0,none⟩ (.int .i64 (s:Nat)):=(jI.cell (H:=planH p++((b3,cells [.int .i64 (s:Nat)] 3)::F)) jF rfl).more hp
  rw[hq];unfold jck PlG.pt;dsimp only;refine Call.enter2 (n:=8) (by rfl) Tryz.func205 rfl rfl rfl ?_;refine zcN ?_;intro b2;refine zF ?_;refine KL.v rfl (Val.loadP rfl rfl (jI.more (by assumption) ja)) ?_;refine KL.v rfl (Val.leq rfl rfl) ?_;exact zt
 ·rintro _ _ ⟨i,hi,h1,h2,rfl,rfl⟩
  have hf0:p.g.first 0=0:=rfl
  have hi1:1≤i:=by
   grind
  have hik:i=k+1:=by
   have e1:k<i:=by
    grind
   rcases Nat.lt_or_ge (k+1) i with h|h
   ·have h3:=of_decide_eq_true (h1 (k+1) h)
    have h4:p.g.first (k+1)=p.g.first k+p.g.n k:=rfl
    omega
   omega
  have he:(i:Int)-1=((k:Nat):Int):=by omega
  have hx:p.g.parts[k]?=some (p.g.pt k):=jdj hk
  have hsd:((s:Nat):Int)-((p.g.first k:Nat):Int)=(d:Nat):=by omega
  have hpt:(p.g.pt k).first=p.g.first k:=rfl
  have hf:=ok.g.first (Nat.le_of_lt hk)
  rw[he];refine zd ?_;clear hT T;simp only[jO];refine zk ?_;refine zcK ?_;refine ziX ?_;refine zj ?_;refine zP ?_;refine zfJ ?_;refine zbP ?_;refine KD.v0 rfl rfl (Val.fieldSl (k:=1) rfl rfl) ?_;refine zhQ ?_;refine zg4 ?_;refine zgu ?_;refine zfL ?_;rw[hpt,hsd];exact zdP
open Go.RowKit
set_option maxRecDepth 10000
structure jh where
 st:Int
 slot:Int
 gen:Int
def enE:Enc jh:=⟨fun e=> [.int .i64 e.st, .int .i64 e.slot, .int .u32 e.gen],3,fun _=>rfl,by intro x v hv;simp at hv;rcases hv with rfl|rfl|rfl<;>rfl⟩
def cntP (s:Int) (l:List jh):Nat:=l.countP fun e=>decide (e.st=s)
structure TbM where
 b:Nat
 l:List jh
 gens:Int
 o:Own
def jy (t:TbM):jb:=(t.b,cells [oV t.o t.l.length, .int .i64 t.gens, .int .i64 (cntP 0 t.l:Nat), .int .i64 (cntP 1 t.l:Nat), .int .i64 (cntP 2 t.l:Nat), .int .i64 (cntP 3 t.l:Nat)] 121)::oH enE 124 t.l t.o
theorem Jf {t:TbM} {F:jb}:jy t++F=(t.b,cells [oV t.o t.l.length, .int .i64 t.gens, .int .i64 (cntP 0 t.l:Nat), .int .i64 (cntP 1 t.l:Nat), .int .i64 (cntP 2 t.l:Nat), .int .i64 (cntP 3 t.l:Nat)] 121)::(oH enE 124 t.l t.o++F):=rfl
structure TbOk (t:TbM):Prop where
 o:oOk enE t.l t.o
 n:1≤t.l.length∧t.l.length≤1024
 g:1≤t.gens∧t.gens≤2147483648
 e: ∀ e∈t.l,0≤e.st∧e.st<4∧1≤e.gen∧e.gen≤2147483648∧0≤e.slot∧e.slot≤1000000
theorem Mul_K {w0:World} {H:jb} (x y:Nat) (hx:x<18446744073709551616) (hy:y<18446744073709551616):
  Call Tryz.prog w0 207 [.int .u64 x, .int .u64 y] H (fun r H'=>r= .tuple #[.int .u64 ((x*y/18446744073709551616:Nat):Int), .int .u64 ((x*y%18446744073709551616:Nat):Int)]∧H'=H):=by
 refine⟨by rfl,fun w hw=>?_⟩;refine(Tryz.bits_Mul x y hx hy w).mono ?_;rintro e w' ⟨he,rfl⟩;exact⟨_,_,he,hw,rfl,rfl⟩
structure RqS where
 k:Nat
 zs:List jh
theorem ji6 {α:Type} {n k j:Nat} {z:α} {zs:List α} (h:zs.length=n) (hk:k≤n) (ht:zs.take k=List.replicate k z) {ys:List α} (hy:ys=List.replicate j z):
  (jbo zs ys k).length=n∧(jbo zs ys k).take (k+min j (n-k))=List.replicate (k+min j (n-k)) z:=by
 subst hy;unfold jbo
 have e0:min (min j (n-k)) j=min j (n-k):=by omega
 simp only[List.length_replicate,h,List.take_replicate,ht,e0]
 constructor
 ·simp;omega
 ·rw[List.take_append_of_le_length (by simp),List.take_of_length_le (by simp),List.replicate_append_replicate]
set_option maxHeartbeats 1000000 in
theorem Repeat_K {w0:World} {H:jb} {v:Value} {z:jh} {n:Nat} (hS:Sli w0 H enE v [z]) (hn:n≤100000):
  Call Tryz.prog w0 146 [v, .int .i64 (n:Nat)] H (fun r H'=> ∃ o,oOk enE (List.replicate n z) o∧r=oV o (List.replicate n z).length∧H'=oH enE 124 (List.replicate n z) o++H):=by
 refine Call.enter2 (n:=48) (by kernel_rfl) Tryz.func146 rfl rfl rfl ?_;refine zaa ?_;refine zT ?_;refine zaG ?_;refine zad ?_;refine KL.v rfl (Val.convW rfl rfl rfl) ?_;refine ze ?_;refine zeo ?_;refine zq fun T hT=>?_;refine(CallV.fn (Mul_K 1 n (by omega) (by omega))).mono ?_;rintro _ H ⟨rfl,rfl⟩
 have e1:1*n/18446744073709551616=0:=by omega
 have e2:1*n%18446744073709551616=n:=by omega
 rw[e1,e2];refine zd ?_;clear hT T;refine zaM ?_;refine zcq ?_;refine zdE ?_;refine zaR ?_;refine zdC ?_
 (first|(refine KL.v rfl (Val.conv rfl rfl rfl (by simp only[qL,qH];omega)) ?_)|(refine KL.v rfl (Val.convW rfl rfl rfl) ?_))
 refine KL.e rfl (Eff.makeR (E:=enE) (x0:=⟨0,0,0⟩) rfl rfl rfl rfl rfl rfl (by omega)) ?_;rintro _ _ ⟨o30,ok30,rfl,rfl⟩;refine zu ?_;refine zm ?_;refine KL.e rfl (Eff.copyS0 rfl rfl rfl rfl jn (by assumption) (by first|exact Sli.blk jF rfl (by first|decide|simp) (by first|decide|(unfold maxLen;omega)) rfl|exact Sli.old (by assumption)|exact Sli.own jn (by assumption) j6|assumption|exact Sli.part (by assumption) ja)) ?_;rintro _ _ ⟨rfl,ok33,rfl⟩;refine zk ?_;refine KL.nil (KE.next (K.seq (K.block ?_)))
 have hc0:=ji6 (k:=0) (j:=1) (z:=z) (zs:=List.replicate n (⟨0,0,0⟩:jh)) (n:=n) (by simp) (by omega) (by simp) (ys:=[z]) rfl
 refine K.loopT (σ:=RqS) [] (fun s kp_=>(8, .int .i64 (s.k:Nat))::(7,oV o30 s.zs.length)::kp_) (fun s=>oH enE 124 s.zs o30++H) (fun s=>s.zs.length=n∧s.k≤n∧s.zs.take s.k=List.replicate s.k z∧oOk enE s.zs o30∧(s.k=0→n=0)) (fun s=>n-s.k) (⟨min 1 n,jbo (List.replicate n ⟨0,0,0⟩) [z] 0⟩) jj ja (⟨hc0.1,by dsimp only;omega,by have:=hc0.2;simpa using this,ok33,by dsimp only;omega⟩) ?_;rintro⟨k,zs⟩ ⟨hl,hk,ht,ok,h0⟩;dsimp only at hl hk ht ok h0⊢
 by_cases hlt:k<n
 ·have hkl:k≤zs.length:=by omega
  have hkl':k<zs.length:=by omega
  have hsli:Sli w0 (oH enE 124 zs o30++H) enE (oV o30 zs.length) zs:=Sli.own Jn.head ok rfl
  refine za4 ?_;refine zbW ?_;refine zab ?_;refine KL.nil (KE.next (K.condT rfl (K.skip (KE.next (K.block ?_)))));refine zar ?_
  (first|refine K.seq (K.drawn (H) [(0,1),(1,0),(2,0),(3,0),(4,0),(5,0),(6,0),(7,2),(8,0),(9,0)] (by kernel_rfl) (by kernel_rfl) (by kernel_rfl) (by kernel_rfl) (by kernel_rfl) (by kernel_rfl) ja ?_)|refine K.seq (K.seq (K.drawn (H) [(0,1),(1,0),(2,0),(3,0),(4,0),(5,0),(6,0),(7,2),(8,0),(9,0)] (by kernel_rfl) (by kernel_rfl) (by kernel_rfl) (by kernel_rfl) (by kernel_rfl) (by kernel_rfl) ja ?_))|refine K.drawn (H) [(0,1),(1,0),(2,0),(3,0),(4,0),(5,0),(6,0),(7,2),(8,0),(9,0)] (by kernel_rfl) (by kernel_rfl) (by kernel_rfl) (by kernel_rfl) (by kernel_rfl) (by kernel_rfl) ja ?_)
  refine zH ?_;refine zbf ?_
  (first|refine KD.v0 rfl rfl (Val.sliceL rfl rfl rfl J3 rfl jL) ?_|refine KD.v0 rfl rfl (Val.sliceLZ rfl rfl rfl J3 rfl (by omega)) ?_)
  refine zbf ?_;refine KD.v0 rfl rfl (Val.sliceH rfl rfl rfl J3 rfl jL) ?_
  --STOP before op 7
  refine KD.e rfl rfl (Eff.copyS (E:=enE) (xs:=zs) (ys:=(zs.take k).drop 0) (o:=o30) (i:=k) rfl rfl rfl rfl rfl hkl Jn.head ok (hsli.sub (Nat.zero_le _) hkl)) ?_;rintro _ _ ⟨rfl,ok',rfl⟩;refine⟨ja,?_⟩
  have hys:(zs.take k).drop 0=List.replicate k z:=by simpa using ht
  have hc:=ji6 (j:=k) hl hk ht hys
  rw[hys] at ok' hc⊢;simp only[List.length_replicate]
  have hmin:min k (zs.length-k)+k≤n:=by omega
  refine zgx ?_;refine zb0 ?_;refine zbD ?_;exact KE.again ⟨k+min k (zs.length-k),jbo zs (List.replicate k z) k⟩ jj ja ⟨hc.1,by dsimp only;omega,by have:=hc.2;rw [hl];exact this,ok',by dsimp only;omega⟩ (by dsimp only;omega)
 ·have hkn:k=n:=by omega
  subst hkn
  have hzs:zs=List.replicate k z:=by rw[←ht,List.take_of_length_le (by omega)]
  subst hzs;refine za4 ?_;refine zbW ?_;refine zT ?_;refine zdh ?_;refine za8 ?_;exact KE.fin je rfl jd ja ⟨o30,ok,rfl,rfl⟩
theorem cnt_rep (s:Int) (z:jh) (n:Nat):cntP s (List.replicate n z)=if z.st=s then n else 0:=by
 unfold cntP;rw[List.countP_replicate]
 simp
theorem tbNew_K {w0:World} {H:jb} {n:Nat} {gens:Int} (hn:1≤n∧n≤1024) (hg:1≤gens∧gens≤2147483648):
  Call Tryz.prog w0 100 [.int .i64 (n:Nat), .int .i64 gens] H (fun r H'=> ∃ t,TbOk t∧t.l=List.replicate n ⟨0,0,1⟩∧t.gens=gens∧r= .tuple [.pointer (some ⟨t.b,0,none⟩), .int .i64 0].toArray∧H'=jy t++H):=by
 have h1: ¬((n:Nat):Int)<1:=by omega
 have h2: ¬((n:Nat):Int)>1024:=by omega
 refine Call.enter2 (n:=34) (by rfl) Tryz.func100 rfl rfl rfl ?_;refine zae ?_;refine z6 ?_;refine zT ?_;refine zdE ?_;refine zf3 ?_;refine zdE ?_;refine zz ?_;refine zM ?_;refine zaj ?_;intro b22;refine zo ?_;refine jat (Repeat_K (z:=⟨0,0,1⟩) (n:=n) (Sli.blk jF rfl (by simp) (by simp[maxLen]) rfl) (by omega)) ?_;rintro _ _ ⟨o,ko,rfl,rfl⟩;refine zco ?_;refine zbR ?_;intro b27;refine zu ?_;refine zcy ?_;refine zbn ?_;refine ze1 ?_;refine zaw ?_;refine zbl ?_;refine KE.fin (H':=jy ⟨b27,List.replicate n ⟨0,0,1⟩,gens,o⟩++H) je rfl jd (by simp only[Jf,cnt_rep];exact ja) ⟨⟨b27,List.replicate n ⟨0,0,1⟩,gens,o⟩,⟨ko,by grind,hg,fun e he=>?_⟩,rfl,rfl,rfl,rfl⟩
 grind
section
variable {w0 : World} {F : jb} {t : TbM}
theorem jjZ (ok:TbOk t):Call Tryz.prog w0 63 [.pointer (some ⟨t.b,0,none⟩)] (jy t++F) (fun r H'=>r= .bool false∧H'=jy t++F):=by
 have ho:=ok.o
 have hn:=ok.n
 have hne: ¬((t.l.length:Nat):Int)=0:=by omega
 refine Call.enter1 (n:=13) (by rfl) Tryz.func63 rfl rfl rfl ?_;simp only[Jf];refine zcp ?_;refine zaq ?_;refine zbp ?_;refine zi ?_;refine zbz ?_;refine zf ?_;exact zaK
theorem jeS (ok:TbOk t):Call Tryz.prog w0 28 [.pointer (some ⟨t.b,0,none⟩)] (jy t++F) (fun r H'=>r= .int .i64 (t.l.length:Nat)∧H'=jy t++F):=by
 have ho:=ok.o
 refine Call.enter1 (n:=10) (by rfl) Tryz.func28 rfl rfl rfl ?_;refine zY ?_;refine jq (jjZ ok) ?_;simp only[Jf];refine zR ?_;refine zB ?_;refine zbp ?_;refine zf ?_;exact zaK
end
end Go.Proofs.YtpcgafhgfjlkmaaGreatDoor.Sw
