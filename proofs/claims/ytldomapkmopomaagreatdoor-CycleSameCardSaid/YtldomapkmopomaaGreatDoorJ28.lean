/-The walker and the contracts that the law needs,part 28. -/
import Derived.Test.YtldomapkmopomaaGreatDoorD1
import Derived.ArgAppend
import Derived.ChangeMaps5
import Derived.Deep.Fields
import Derived.Deep.LoopGhost
import Derived.Deep.OwnRows
import Derived.Deep.Quiet
import Derived.Deep.Slices
import Derived.IntWalk
import Derived.Laws.Cells
import Derived.Laws.CopyOwn
import Derived.Laws.Externs
import Derived.Laws.FloatArith
import Derived.Laws.IdiomStrings
import Derived.Laws.NewFold
import Derived.Laws.StructEq
import Derived.Lib.BitFns
import Derived.Lib.Hide
import Derived.Lib.SmallJoins
import Derived.Lib.TrailingZeros
import Derived.Maps.RangeRun
import Derived.OrdersIn
import Derived.ProofKit
import Derived.RangeFuncBound
import Derived.RangeFuncCalls
import Derived.RangeFuncLeaves
import Derived.RangeFuncNested
import Derived.RecoverIn
import Derived.Shelf.Bits.Mul64
import Derived.Shelf.Slices.Turned
import Derived.Shelf.Spec.TrailingZeros
import Derived.Shelf.Strconv.Itoa0
import Derived.SizedLaws
import Derived.Sort.BigQuietIn
import Derived.StillTailTactics
import Derived.Test.YtldomapkmopomaaGreatDoorProg
import Derived.WalkKit
import Derived.Test.YtldomapkmopomaaGreatDoorJ22
import Derived.Test.YtldomapkmopomaaGreatDoorJ23
set_option linter.unusedVariables false set_option linter.unusedSimpArgs false namespace Go.Proofs.YtldomapkmopomaaGreatDoor.Sw
set_option maxHeartbeats 8000000
open Go.Proofs.YtldomapkmopomaaGreatDoor renaming lo → qL, hi → qH
open Go.RowKit
set_option linter.unusedVariables false
set_option linter.unusedSimpArgs false
set_option maxRecDepth 10000
structure GyV where
 Q:Value
 ow:Value
 di:Value
def natI (q:List Nat):List Int:=q.map fun n=>((n:Nat):Int)
theorem jcL (q:List Nat):(natI q).length=q.length:=by simp[natI]
def pgI (G:GyP):Int:=match G.pg with
 |some k=>((k:Nat):Int)
 |none=> -1
def gyL (v:PlV) (g:PlG) (long:Nat) (u:GyV) (G:GyP):List Value:=[v.L,v.F,v.M, .int .i64 (g.words:Nat),v.C, .int .i64 (long:Nat),u.Q,u.ow,u.di, .int .i64 (pgI G), .int .i64 (G.at_:Nat)]
structure GyD (w0:World) (D:jb) (u:GyV) (G:GyP):Prop where
 Q:Sli w0 D iE u.Q (natI G.q)
 ow:Sli w0 D boE u.ow G.ow
 di:Sli w0 D boE u.di G.di
 o1:u.Q.oneCell'=true
 o2:u.ow.oneCell'=true
 o3:u.di.oneCell'=true
theorem GyD.part {w0:World} {D D':jb} {u:GyV} {G:GyP} (h:GyD w0 D u G) (hp:Part D' D):GyD w0 D' u G:=⟨h.Q.part hp,h.ow.part hp,h.di.part hp,h.o1,h.o2,h.o3⟩
structure DyS where
 k:Nat
theorem next_is {bs:List Bool} {k:Nat} (h:bs[k]?=some true) (hno: ∀ j:Nat,j<k→bs[j]?≠some true):nextB bs 0 true=some k:=by
 unfold nextB;rw[List.find?_range_eq_some];refine⟨by rw[h];simp,List.mem_range.2 (jl h),fun j hj=>?_⟩
 have h1:=hno j hj
 cases hb:bs[j]? with
 |none=>simp
 |some b=>cases b<;>simp_all
theorem next_no {bs:List Bool} (h: ∀ j:Nat,bs[j]?≠some true):nextB bs 0 true=none:=by
 unfold nextB;rw[List.find?_eq_none];intro j hj
 have h1:=h j
 cases hb:bs[j]? with
 |none=>simp
 |some b=>cases b<;>simp_all
section
variable {w0 : World} {D F : jb} {v : PlV} {g : PlG} {long : Nat} {u : GyV} {G : GyP}
theorem ryNew_K (hP:J3 w0 D v g) (ok:je g):
  Call Tryz.prog w0 178 [.agg (plL v g).toArray, .int .i64 (long:Nat)] (D++F) (fun r H'=> ∃ (u:GyV) (N:jb),GyD w0 (N++D) u (nilG g)∧r= .agg (gyL v g long u (nilG g)).toArray∧H'=N++(D++F)):=by
 have hL:=hP.L
 have hFi:=hP.F
 have q1:=hP.oL
 have q2:=hP.oF
 have q3:=hP.oM
 have q4:=hP.oC
 have hlen:=jah (g:=g)
 have hfl:=jeW (g:=g)
 have hbl:=jf8 ok
 have hpb:=ok.pages
 unfold plL;refine Call.enter2 (n:=16) (by kernel_rfl) Tryz.func178 rfl rfl rfl ?_;refine yr2 ?_;refine zj ?_;intro b2 b4;refine yr3 ?_;refine zw ?_;refine K.drawn ((b2,cells [v.L,v.F,v.M, .int .i64 (g.words:Nat),v.C] 32)::D) [(0,1),(1,1),(2,1),(3,1),(4,1),(6,1),(7,1),(8,1),(5,3),(9,2),(10,0),(11,2)] (by kernel_rfl) (by kernel_rfl) (by kernel_rfl) (by kernel_rfl) (by kernel_rfl) (by kernel_rfl) ja ?_;refine zar ?_;refine zm ?_;refine zX ?_;refine zF ?_;refine zdD ?_;refine zbm ?_;refine zF ?_;refine zdD ?_;refine KD.fork2 (x:=5) (y:=9) (o1:=[(9,2),(10,0),(11,2)]) (o2:=[(5,2),(10,0),(11,2)]) (by kernel_rfl) rfl rfl (by kernel_rfl) (by kernel_rfl) ?_ ?_
 ·(refine j3.e rfl (Eff.makeR (E:=boE) (x0:=false) rfl rfl rfl rfl rfl rfl (by first|assumption|omega|(simp<;>fail)|(simp;omega))) ?_;rintro _ _ ⟨o10,ok10,rfl,rfl⟩;refine⟨ja,?_⟩)
  refine KD.e rfl rfl (Eff.makeR (E:=boE) (x0:=false) rfl rfl rfl rfl rfl rfl (by first|assumption|omega|(simp<;>fail)|(simp;omega))) ?_;rintro _ _ ⟨o14,ok14,rfl,rfl⟩;refine⟨ja,?_⟩;refine zbz ?_;refine KE.fin (H':=(oH boE 4 (List.replicate g.firsts.length false) o14++oH boE 4 (List.replicate g.L.length false) o10)++(D++F)) jd rfl jc (by simp only[List.append_assoc];exact ja) ⟨⟨.slice none 0 0,oV o10 (List.replicate g.L.length false).length,oV o14 (List.replicate g.firsts.length false).length⟩,oH boE 4 (List.replicate g.firsts.length false) o14++oH boE 4 (List.replicate g.L.length false) o10,⟨Sli.own (o:=none) (e:=3) jP.nil rfl rfl,(by show Sli _ _ _ _ (List.replicate g.slots false);rw [←hlen];exact Sli.own (by first|exact jh|(simp only[List.append_assoc];exact jh)) ok10 rfl),(by show Sli _ _ _ _ (List.replicate g.pages false);rw [←hfl];exact Sli.own (by first|exact jh|(simp only[List.append_assoc];exact jh)) ok14 rfl),rfl,jK _ _,jK _ _⟩,rfl,rfl⟩
 ·(refine j3.e rfl (Eff.makeR (E:=boE) (x0:=false) rfl rfl rfl rfl rfl rfl (by first|assumption|omega|(simp<;>fail)|(simp;omega))) ?_;rintro _ _ ⟨o14,ok14,rfl,rfl⟩;refine⟨ja,?_⟩)
  refine KD.e rfl rfl (Eff.makeR (E:=boE) (x0:=false) rfl rfl rfl rfl rfl rfl (by first|assumption|omega|(simp<;>fail)|(simp;omega))) ?_;rintro _ _ ⟨o10,ok10,rfl,rfl⟩;refine⟨ja,?_⟩;refine zbz ?_;refine KE.fin (H':=(oH boE 4 (List.replicate g.firsts.length false) o14++oH boE 4 (List.replicate g.L.length false) o10)++(D++F)) jd rfl jc (by simp only[List.append_assoc];exact ja) ⟨⟨.slice none 0 0,oV o10 (List.replicate g.L.length false).length,oV o14 (List.replicate g.firsts.length false).length⟩,oH boE 4 (List.replicate g.firsts.length false) o14++oH boE 4 (List.replicate g.L.length false) o10,⟨Sli.own (o:=none) (e:=3) jP.nil rfl rfl,(by show Sli _ _ _ _ (List.replicate g.slots false);rw [←hlen];exact Sli.own (by first|exact jh|(simp only[List.append_assoc];exact jh)) ok10 rfl),(by show Sli _ _ _ _ (List.replicate g.pages false);rw [←hfl];exact Sli.own (by first|exact jh|(simp only[List.append_assoc];exact jh)) ok14 rfl),rfl,jK _ _,jK _ _⟩,rfl,rfl⟩
set_option maxHeartbeats 1000000 in
theorem jdS (hP:J3 w0 D v g) (hY:GyD w0 D u G) (hok:JR g long G) (ok:je g) (hlg:long≤64):
  Call Tryz.prog w0 322 [.agg (gyL v g long u G).toArray] (D++F)
   (fun r H'=> ∃ o1 o2 o3,oOk iE (natI G.q) o1∧oOk boE G.ow o2∧oOk boE G.di o3∧r= .agg (gyL v g long ⟨oV o1 (natI G.q).length,oV o2 G.ow.length,oV o3 G.di.length⟩ G).toArray∧H'=oH boE 4 G.di o3++(oH boE 4 G.ow o2++(oH iE 3 (natI G.q) o1++(D++F)))):=by
 have q1:=hP.oL
 have q2:=hP.oF
 have q3:=hP.oM
 have q4:=hP.oC
 have q5:=hY.o1
 have q6:=hY.o2
 have q7:=hY.o3
 have hQ:=hY.Q
 have how:=hY.ow
 have hdi:=hY.di
 have l1:=hok.ql
 have l2:=hok.ow
 have l3:=hok.di
 have b2:=ok.slots
 have b3:=ok.pages
 have l4:=jcL G.q
 unfold gyL;refine Call.enter1 (n:=19) (by kernel_rfl) Tryz.func322 rfl rfl rfl ?_;refine yr2 ?_;refine zj ?_;intro b1 b2;refine yr4 ?_;refine zt ?_;intro b3;refine yr2 ?_;refine KL.e rfl (Eff.appLit (E:=iE) (ys:=natI G.q) rfl rfl rfl rfl rfl rfl rfl jq (by first|exact Sli.blk jq rfl (by first|decide|simp) (by first|decide|(unfold maxLen;omega)) rfl|exact Sli.old (by assumption)|exact Sli.own jh (by assumption) jG|assumption|exact Sli.part (by assumption) ja) (by first|assumption|omega|(simp<;>fail)|(simp;omega)) rfl) ?_;rintro _ _ ⟨o1,ok1,rfl,rfl⟩;refine yr6 ?_;refine zt ?_;intro b8;refine yr2 ?_;refine KL.e rfl (Eff.appLit (E:=boE) (ys:=G.ow) rfl rfl rfl rfl rfl rfl rfl jq (by first|exact Sli.blk jq rfl (by first|decide|simp) (by first|decide|(unfold maxLen;omega)) rfl|exact Sli.old (by assumption)|exact Sli.own jh (by assumption) jG|assumption|exact Sli.part (by assumption) ja) (by first|assumption|omega|(simp<;>fail)|(simp;omega)) rfl) ?_;rintro _ _ ⟨o2,ok2,rfl,rfl⟩;refine yr6 ?_;refine zt ?_;intro b13;refine yr2 ?_;refine KL.e rfl (Eff.appLit (E:=boE) (ys:=G.di) rfl rfl rfl rfl rfl rfl rfl jq (by first|exact Sli.blk jq rfl (by first|decide|simp) (by first|decide|(unfold maxLen;omega)) rfl|exact Sli.old (by assumption)|exact Sli.own jh (by assumption) jG|assumption|exact Sli.part (by assumption) ja) (by first|assumption|omega|(simp<;>fail)|(simp;omega)) rfl) ?_;rintro _ _ ⟨o3,ok3,rfl,rfl⟩;refine yr11 ?_;exact KE.fin jd rfl jc ja ⟨o1,o2,o3,ok1,ok2,ok3,rfl,rfl⟩
theorem natI_snoc (q:List Nat) (s:Nat):natI q++ [((s:Nat):Int)]=natI (q++ [s]):=by simp[natI]
set_option maxHeartbeats 1000000 in
theorem ryPut_K {s:Nat} (hP:J3 w0 D v g) (hY:GyD w0 D u G) (hok:JR g long G) (ok:je g) (hlg:long≤64) (hs:s<g.slots):
  Call Tryz.prog w0 319 [.agg (gyL v g long u G).toArray, .int .i64 (s:Nat)] (D++F)
   (fun r H'=> ∃ (u':GyV) (N:jb),GyD w0 (N++D) u' (JC g long G s)∧r= .tuple [.agg (gyL v g long u' (JC g long G s)).toArray, .int .i64 0].toArray∧H'=N++(D++F)):=by
 obtain⟨y,hy⟩:=Jg (g:=g) hs
 have hHas:=fun A=>jc3 (w0:=w0) (D:=D) (F:=A) (n:=(s:Nat)) hP ok
 simp only[jdv hy] at hHas
 have hcop:=fun A=>jdS (F:=A) hP hY hok ok hlg
 have q1:=hP.oL
 have q2:=hP.oF
 have q3:=hP.oM
 have q4:=hP.oC
 have q5:=hY.o1
 have q6:=hY.o2
 have q7:=hY.o3
 have hL:=hP.L
 have hQ:=hY.Q
 have l1:=hok.ql
 have l2:=hok.ow
 have l3:=hok.di
 have l4:=jcL G.q
 have hpg:=jcT hy
 have hpb:=(jcv ok hy).1
 unfold plL at hHas;unfold gyL at hcop⊢;dsimp only at hcop⊢
 by_cases hl:G.q.length<long
 ·have hput:JC g long G s={G with q:=G.q++ [s]}:=by unfold JC;rw [if_pos hl]
  rw[hput]
  have hl':((natI G.q).length:Int)<(long:Nat):=by omega
  have hbd:(natI (G.q++ [s])).length≤4294967296:=by rw[jcL,List.length_append,List.length_singleton];omega
  refine Call.enter2 (n:=42) (by kernel_rfl) Tryz.func319 rfl rfl rfl ?_;refine yr2 ?_;refine zj ?_;intro b2 b4;refine yq9 fun T hT=>?_;refine zaI ?_;clear hT T;refine yq9 fun T hT=>?_;refine zdE ?_;rintro _ _ ⟨o1,o2,o3,k1,k2,k3,rfl,rfl⟩;refine za ?_;clear hT T;refine yr15 ?_;refine zk ?_;refine yr3 ?_;refine zt ?_;intro b23;refine KL.e rfl (Eff.appZ (E:=iE) (xs:=natI G.q) (o:=o1) (ys:=[((s:Nat):Int)]) (zs:=natI (G.q++ [s])) rfl rfl rfl rfl rfl rfl jh (by assumption) (by first|exact Sli.blk jq rfl (by first|decide|simp) (by first|decide|(unfold maxLen;omega)) rfl|exact Sli.old (by assumption)|exact Sli.own jh (by assumption) jG|assumption|exact Sli.part (by assumption) ja) (natI_snoc G.q s) (by first|assumption|omega|(simp<;>fail)|(simp;omega)) rfl) ?_;rintro _ _ ⟨o',ok',rfl,rfl⟩;refine yr13 ?_;refine KE.fin (H':=(oH boE 4 G.di o3++(oH boE 4 G.ow o2++oH iE 3 (natI (G.q++ [s])) o'))++(D++F)) jd rfl jc (by simp only[List.append_assoc];exact ja) ⟨⟨oV o' (natI (G.q++ [s])).length,oV o2 G.ow.length,oV o3 G.di.length⟩,oH boE 4 G.di o3++(oH boE 4 G.ow o2++oH iE 3 (natI (G.q++ [s])) o'),⟨Sli.own (by first|exact jh|(simp only[List.append_assoc];exact jh)) ok' rfl,Sli.own (by first|exact jh|(simp only[List.append_assoc];exact jh)) k2 rfl,Sli.own (by first|exact jh|(simp only[List.append_assoc];exact jh)) k3 rfl,jK _ _,jK _ _,jK _ _⟩,rfl,rfl⟩
 ·have hput:JC g long G s={G with ow:=G.ow.set s true,di:=G.di.set y.page true}:=by unfold JC;rw [if_neg hl,hpg]
  rw[hput]
  have hl': ¬((natI G.q).length:Int)<(long:Nat):=by omega
  have hso:s<G.ow.length:=by omega
  have hsd:y.page<G.di.length:=by omega
  have hyl:=jl hy
  obtain⟨z1,hz1⟩:=jn hso
  obtain⟨z2,hz2⟩:=jn hsd
  refine Call.enter2 (n:=42) (by kernel_rfl) Tryz.func319 rfl rfl rfl ?_;refine yr2 ?_;refine zj ?_;intro b2 b4;refine yq9 fun T hT=>?_;refine zaI ?_;clear hT T;refine yq9 fun T hT=>?_;refine zdE ?_;rintro _ _ ⟨o1,o2,o3,k1,k2,k3,rfl,rfl⟩;refine za ?_;clear hT T;refine yr27 ?_;refine zbL ?_;refine KD.v0 rfl rfl (Val.fieldAddr0 (k:=8) rfl rfl) ?_;refine zo ?_;refine zaY ?_;refine zQ ?_;refine zaD ?_;refine KD.v0 rfl rfl (Val.fieldSl (k:=3) rfl rfl) ?_;refine zJ ?_;refine zN ?_;refine zbX ?_;refine zY ?_;refine yr9 ?_;refine KE.fin (H':=(oH boE 4 (G.di.set y.page true) o3++(oH boE 4 (G.ow.set s true) o2++oH iE 3 (natI G.q) o1))++(D++F)) jd rfl jc (by simp only[List.append_assoc];exact ja) ⟨⟨oV o1 (natI G.q).length,oV o2 G.ow.length,oV o3 G.di.length⟩,oH boE 4 (G.di.set y.page true) o3++(oH boE 4 (G.ow.set s true) o2++oH iE 3 (natI G.q) o1),⟨Sli.own (by first|exact jh|(simp only[List.append_assoc];exact jh)) k1 rfl,Sli.own (by first|exact jh|(simp only[List.append_assoc];exact jh)) (k2.set _ _) (by simp),Sli.own (by first|exact jh|(simp only[List.append_assoc];exact jh)) (k3.set _ _) (by simp),jK _ _,jK _ _,jK _ _⟩,rfl,rfl⟩
set_option maxHeartbeats 1000000 in
theorem ryNext_K (hP:J3 w0 D v g) (hY:GyD w0 D u G) (hok:JR g long G) (ok:je g) (hlg:long≤64):
  Call Tryz.prog w0 304 [.agg (gyL v g long u G).toArray] (D++F)
   (fun r H'=>(G.q=[]∧r= .tuple [.agg (gyL v g long u G).toArray, .int .i64 0, .bool false].toArray∧H'=D++F)∨ ∃ (s:Nat) (q:List Nat) (u':GyV) (N:jb),G.q=s::q∧GyD w0 (N++D) u' {G with q:=q}∧r= .tuple [.agg (gyL v g long u' {G with q:=q}).toArray, .int .i64 (s:Nat), .bool true].toArray∧H'=N++(D++F)):=by
 have hcop:=fun A=>jdS (F:=A) hP hY hok ok hlg
 have q1:=hP.oL
 have q2:=hP.oF
 have q3:=hP.oM
 have q4:=hP.oC
 have q5:=hY.o1
 have q6:=hY.o2
 have q7:=hY.o3
 have hQ:=hY.Q
 have l4:=jcL G.q
 unfold gyL at hcop⊢;dsimp only at hcop⊢
 cases hq:G.q with
 |nil=>
  rw[hq] at hQ l4
  have hl':((natI []).length:Int)=0:=rfl
  refine Call.enter1 (n:=23) (by kernel_rfl) Tryz.func304 rfl rfl rfl ?_;refine yr2 ?_;refine zj ?_;intro b1 b2;refine yr24 ?_;exact KE.fin jd rfl jc ja (.inl ⟨rfl,rfl,rfl⟩)
 |cons s q=>
  have hQ2:=hQ
  rw[hq] at hQ2 l4
  have hx:(natI (s::q))[0]?=some ((s:Nat):Int):=rfl
  have hl': ¬((natI (s::q)).length:Int)=0:=by simp at l4;omega
  have hl2:1≤(natI (s::q)).length:=by simp at l4;omega
  have hd:natI q=(natI (s::q)).drop 1:=rfl
  have hdl:((natI (s::q)).drop 1).length=(natI (s::q)).length-1:=by simp
  refine Call.enter1 (n:=23) (by kernel_rfl) Tryz.func304 rfl rfl rfl ?_;refine yr2 ?_;refine zj ?_;intro b1 b2;refine yq28 fun T hT=>?_;refine zdE ?_;rintro _ _ ⟨o1,o2,o3,k1,k2,k3,rfl,rfl⟩;rw[hq] at k1⊢
  have hone:(j5 (oV o1 (natI (s::q)).length) 1 (natI (s::q)).length iE.sz).oneCell'=true:=by cases o1<;>rfl
  refine za ?_;clear hT T;refine yr22 ?_;refine KE.fin (H':=(oH boE 4 G.di o3++(oH boE 4 G.ow o2++oH iE 3 (natI (s::q)) o1))++(D++F)) jd rfl jc (by simp only[List.append_assoc];exact ja) (.inr ⟨s,q,⟨j5 (oV o1 (natI (s::q)).length) 1 (natI (s::q)).length iE.sz,oV o2 G.ow.length,oV o3 G.di.length⟩,oH boE 4 G.di o3++(oH boE 4 G.ow o2++oH iE 3 (natI (s::q)) o1),rfl,⟨?_,Sli.own (by first|exact jh|(simp only[List.append_assoc];exact jh)) k2 rfl,Sli.own (by first|exact jh|(simp only[List.append_assoc];exact jh)) k3 rfl,hone,jK _ _,jK _ _⟩,rfl,rfl⟩)
  have:=(Sli.own (w0:=w0) (H:=(oH boE 4 G.di o3++(oH boE 4 G.ow o2++oH iE 3 (natI (s::q)) o1))++D) (by first|exact jh|(simp only[List.append_assoc];exact jh)) k1 rfl).sub hl2 (Nat.le_refl _)
  rw[List.take_length] at this;exact this
theorem rydirty_K (hP:J3 w0 D v g) (hY:GyD w0 D u G) (hok:JR g long G) (ok:je g):
  Call Tryz.prog w0 323 [.agg (gyL v g long u G).toArray] (D++F) (fun r H'=>r= .int .i64 (match nextB G.di 0 true with|some k=>((k:Nat):Int)|none=> -1)∧H'=D++F):=by
 have q1:=hP.oL
 have q2:=hP.oF
 have q3:=hP.oM
 have q4:=hP.oC
 have q5:=hY.o1
 have q6:=hY.o2
 have q7:=hY.o3
 have hdi:=hY.di
 have l3:=hok.di
 have b3:=ok.pages
 unfold gyL;refine Call.enter1 (n:=17) (by kernel_rfl) Tryz.func323 rfl rfl rfl ?_;refine yr2 ?_;refine ze ?_;intro b1;refine yr10 ?_;refine K.loopT (σ:=DyS) [(1,_)] (fun s kp_=>(3, .int .i64 (s.k:Nat))::kp_) (fun s=>(b1,cells [v.L,v.F,v.M, .int .i64 (g.words:Nat),v.C, .int .i64 (long:Nat),u.Q,u.ow,u.di, .int .i64 (pgI G), .int .i64 (G.at_:Nat)] 48)::(D++F)) (fun s=>s.k≤G.di.length∧ ∀ j:Nat,j<s.k→G.di[j]?≠some true) (fun s=>G.di.length-s.k) (⟨0⟩) jg ja (⟨Nat.zero_le _,fun _ h=>absurd h (Nat.not_lt_zero _)⟩) ?_;rintro⟨k⟩ ⟨hk,hno⟩;dsimp only at hk hno⊢
 by_cases hlt:k<G.di.length
 ·obtain⟨d,hd⟩:=jn hlt
  cases d with
  |true=>
   have hn:nextB G.di 0 true=some k:=next_is hd hno
   rw[hn];dsimp only;refine yr37 ?_;exact zd
  |false=>
   refine yr33 ?_
   exact KE.again ⟨k+1⟩ jg ja ⟨hlt,fun j (hj:j<k+1)=>by
    rcases Nat.lt_or_ge j k with h|h
    ·exact hno j h
    ·have:j=k:=by omega
     subst this
     rw[hd];simp⟩ (by show G.di.length-(k+1)<G.di.length-k;omega)
 ·have hn:nextB G.di 0 true=none:=next_no fun j hj=>hno j (by have:=jl hj;omega) hj
  rw[hn];dsimp only;refine yr22 ?_;exact zd
theorem ryOwed_K (hP:J3 w0 D v g) (hY:GyD w0 D u G) (hok:JR g long G) (ok:je g):
  Call Tryz.prog w0 324 [.agg (gyL v g long u G).toArray] (D++F) (fun r H'=>r= .int .i64 (G.ow.count true:Nat)∧H'=D++F):=by
 have q1:=hP.oL
 have q2:=hP.oF
 have q3:=hP.oM
 have q4:=hP.oC
 have q5:=hY.o1
 have q6:=hY.o2
 have q7:=hY.o3
 have how:=hY.ow
 have l3:=hok.ow
 have b3:=ok.slots
 unfold gyL;refine Call.enter1 (n:=20) (by kernel_rfl) Tryz.func324 rfl rfl rfl ?_;refine yr2 ?_;refine ze ?_;intro b1;refine yr15 ?_;refine K.loopT (σ:=DyS) [(1,_)] (fun s kp_=>(4, .int .i64 (s.k:Nat))::(3, .int .i64 ((G.ow.take s.k).count true:Nat))::kp_) (fun s=>(b1,cells [v.L,v.F,v.M, .int .i64 (g.words:Nat),v.C, .int .i64 (long:Nat),u.Q,u.ow,u.di, .int .i64 (pgI G), .int .i64 (G.at_:Nat)] 48)::(D++F)) (fun s=>s.k≤G.ow.length) (fun s=>G.ow.length-s.k) (⟨0⟩) jg ja (Nat.zero_le _) ?_;rintro⟨k⟩ hk;dsimp only at hk⊢
 have hcl:(G.ow.take k).count true≤k:=Nat.le_trans List.count_le_length (by simp;omega)
 by_cases hlt:k<G.ow.length
 ·obtain⟨d,hd⟩:=jn hlt
  have hs:G.ow.take (k+1)=G.ow.take k++ [d]:=jaP hd
  cases d with
  |true=>
   have hc:(((G.ow.take k).count true:Nat):Int)+1=(((G.ow.take (k+1)).count true:Nat):Int):=by rw[hs];simp
   refine yr37 ?_;rw[hc];exact KE.again ⟨k+1⟩ jg ja hlt (by show G.ow.length-(k+1)<G.ow.length-k;omega)
  |false=>
   have hc:(((G.ow.take k).count true:Nat):Int)=(((G.ow.take (k+1)).count true:Nat):Int):=by rw[hs];simp
   rw[hc];refine yr33 ?_;exact KE.again ⟨k+1⟩ jg ja hlt (by show G.ow.length-(k+1)<G.ow.length-k;omega)
 ·have hkn:k=G.ow.length:=by omega
  subst hkn;rw[List.take_length] at*;refine yr23 ?_;exact zd
theorem ryEmpty_K (hP:J3 w0 D v g) (hY:GyD w0 D u G) (hok:JR g long G) (ok:je g):
  Call Tryz.prog w0 308 [.agg (gyL v g long u G).toArray] (D++F) (fun r H'=>r= .bool (JU G)∧H'=D++F):=by
 have how:=fun A=>ryOwed_K (F:=A) hP hY hok ok
 have q1:=hP.oL
 have q2:=hP.oF
 have q3:=hP.oM
 have q4:=hP.oC
 have q5:=hY.o1
 have q6:=hY.o2
 have q7:=hY.o3
 have hQ:=hY.Q
 have l4:=jcL G.q
 unfold gyL at how⊢
 cases hq:G.q with
 |cons s q=>
  have hem:JU G=false:=by unfold JU;rw [hq];rfl
  rw[hq] at l4
  have hl': ¬((natI G.q).length:Int)=0:=by rw[hq];simp at l4;omega
  rw[hem];refine zdF ?_;refine yr2 ?_;refine ze ?_;intro b1;refine yr23 ?_;exact zd
 |nil=>
  have hl':((natI G.q).length:Int)=0:=by rw[hq];rfl
  by_cases hc:G.ow.count true=0
  ·have hc':((G.ow.count true:Nat):Int)=0:=by omega
   cases hp:G.pg with
   |none=>
    have hem:JU G=true:=by unfold JU;rw [hq,hp,hc];rfl
    have hpi:pgI G= -1:=by unfold pgI;rw [hp]
    rw[hem];rw[hpi] at how⊢;refine zdF ?_;refine yr2 ?_;refine ze ?_;intro b1;refine yq13 fun T hT=>?_;refine ze0 ?_;clear hT T;refine yr15 ?_;exact zd
   |some k=>
    have hem:JU G=false:=by unfold JU;rw [hp];simp
    have hpi:pgI G=(k:Nat):=by unfold pgI;rw [hp]
    rw[hem];rw[hpi] at how⊢;refine zdF ?_;refine yr2 ?_;refine ze ?_;intro b1;refine yq13 fun T hT=>?_;refine ze0 ?_;clear hT T;refine yr15 ?_;exact zd
  ·have hc': ¬((G.ow.count true:Nat):Int)=0:=by omega
   have hem:JU G=false:=by unfold JU;rw [decide_eq_false hc];simp
   rw[hem];refine zdF ?_;refine yr2 ?_;refine ze ?_;intro b1;refine yq13 fun T hT=>?_;refine ze0 ?_;clear hT T;refine yr12 ?_;exact zd
end
open Go.RowKit
set_option maxRecDepth 10000
def stB:Nat→ByteArray
 |0=>⟨#[102,114,101,101]⟩
 |1=>⟨#[108,105,118,101]⟩
 |2=>⟨#[100,114,111,112,112,101,100]⟩
 |_=>⟨#[114,101,116,105,114,101,100]⟩
theorem stB_ne0 {a:Int} (h:0≤a∧a<4) (h0: ¬a=0): ¬(stB a.toNat).1.toList=[102,114,101,101]:=by
 obtain⟨n,rfl⟩: ∃ n:Nat,a=n:=⟨a.toNat,by omega⟩
 rw[Int.toNat_natCast]
 rcases(show n=1∨n=2∨n=3 by omega) with rfl|rfl|rfl<;>simp[stB]
theorem jfU {a:Int} (h:0≤a∧a<4) (h0: ¬a=1): ¬(stB a.toNat).1.toList=[108,105,118,101]:=by
 obtain⟨n,rfl⟩: ∃ n:Nat,a=n:=⟨a.toNat,by omega⟩
 rw[Int.toNat_natCast]
 rcases(show n=0∨n=2∨n=3 by omega) with rfl|rfl|rfl<;>simp[stB]
def docE (e:jj):jj:=if e.st=1 then e else⟨e.st,0,e.gen⟩
def wE:Enc jj:=⟨fun e=> [.string (stB e.st.toNat), .int .i64 e.slot, .int .u32 e.gen],3,fun _=>rfl,by intro x v hv;simp at hv;rcases hv with rfl|rfl|rfl<;>rfl⟩
theorem jbd (e:jj):(docE e).st=e.st∧(docE e).gen=e.gen:=by unfold docE;split<;>exact⟨rfl,rfl⟩
def StOk (L:List jj):Prop:=L.length≤1024∧ ∀ e∈L,0≤e.st∧e.st<4
section
variable {w0 : World} {D F : jb} {v : Value} {L : List jj} {gens : Int}
theorem je4 {i:Nat} {x:jj} (hS:Sli w0 D wE v L) (hv:v.oneCell'=true) (hl:L.length≤1024) (hi:i<L.length):
  Call Tryz.prog w0 173 [.agg [v, .int .i64 gens].toArray, .int .i64 (i:Nat), .agg [.string (stB x.st.toNat), .int .i64 x.slot, .int .u32 x.gen].toArray] (D++F)
   (fun r H'=> ∃ (v':Value) (N:jb),Sli w0 (N++D) wE v' (L.set i x)∧v'.oneCell'=true∧r= .agg [v', .int .i64 gens].toArray∧H'=N++(D++F)):=by
 obtain⟨y,hy⟩:=jn hi
 refine Call.enter3 (n:=20) (by kernel_rfl) Tryz.func173 rfl rfl rfl ?_;refine yr2 ?_;refine zn ?_;intro b3 b5 b6;refine yr4 ?_;refine zt ?_;intro b8;refine yr2 ?_;refine KL.e rfl (Eff.appLit (E:=wE) (ys:=L) rfl rfl rfl rfl rfl rfl rfl jq (by first|exact Sli.blk jq rfl (by first|decide|simp) (by first|decide|(unfold maxLen;omega)) rfl|exact Sli.old (by assumption)|exact Sli.own jh (by assumption) jG|assumption|exact Sli.part (by assumption) ja) (by first|assumption|omega|(simp<;>fail)|(simp;omega)) rfl) ?_;rintro _ _ ⟨o',ok',rfl,rfl⟩;refine yr3 ?_;refine zk ?_;refine yr4 ?_;refine KL.eN (Eff.stSlA (x1:=x) rfl rfl rfl rfl jh (by assumption) (by assumption)) ?_;rintro _ _ rfl;refine yr12 ?_;exact KE.fin (H':=oH wE 179 (L.set i x) o'++(D++F)) jd rfl jc ja ⟨oV o' L.length,_,Sli.own jh (ok'.set i x) (by simp),jK _ _,rfl,rfl⟩
structure MiS where
 k:Nat
theorem rMint_K {s:Nat} (hS:Sli w0 D wE v L) (hv:v.oneCell'=true) (ok:StOk L):
  Call Tryz.prog w0 234 [.agg [v, .int .i64 gens].toArray, .int .i64 (s:Nat)] (D++F)
   (fun r H'=> ∃ (v':Value) (N:jb),Sli w0 (N++D) wE v' (jZ L s)∧v'.oneCell'=true∧r= .tuple [.agg [v', .int .i64 gens].toArray, .int .i64 (mintV L).1, .int .u32 (mintV L).2.1, .int .i64 (mintV L).2.2].toArray∧H'=N++(D++F)):=by
 have hl:=ok.1
 refine Call.enter2 (n:=45) (by kernel_rfl) Tryz.func234 rfl rfl rfl ?_;refine yr2 ?_;refine zj ?_;intro b2 b4;refine yr22 ?_;refine K.loopT (σ:=MiS) [(1,_),(2,_),(4,_)] (fun s kp_=>(8, .int .i64 (s.k:Nat))::kp_) (fun s=>(b2,cells [v, .int .i64 gens] 43)::(b4,cells [.slice none 0 0, .int .i64 0] 43)::(D++F)) (fun s=>s.k≤L.length∧ ∀ (j:Nat) (y:jj),j<s.k→L[j]?=some y→y.st≠0) (fun s=>L.length-s.k) (⟨0⟩) jg ja (⟨Nat.zero_le _,fun _ _ h=>absurd h (Nat.not_lt_zero _)⟩) ?_;rintro⟨k⟩ ⟨hk,hN⟩;dsimp only at hk hN⊢
 by_cases hlt:k<L.length
 ·obtain⟨x,hx⟩:=jn hlt
  have hst:=ok.2 x (List.mem_of_getElem? hx)
  by_cases h0:x.st=0
  ·have h0':(stB x.st.toNat).1.toList=[102,114,101,101]:=by rw[h0];rfl
   have hF:=freeT_is hx h0 hN
   have h1:mintV L=(((k:Nat):Int),x.gen,0):=by unfold mintV;rw [hF];dsimp only;rw [jeD hx]
   have h2:jZ L s=L.set k ⟨1,(s:Nat),x.gen⟩:=by unfold jZ;rw [hF];dsimp only;rw [jeD hx]
   rw[h1,h2];refine yr27 ?_;refine zw ?_
   (first|refine K.seq (K.drawn ((b2,cells [v, .int .i64 gens] 43)::D) [(0,0),(1,0),(2,0),(3,0),(4,0),(5,0),(6,0),(7,0),(8,0),(9,0),(11,1),(12,1),(13,1),(14,1),(15,1),(16,1),(17,1),(10,2),(18,2),(19,0),(20,0),(21,0)] (by kernel_rfl) (by kernel_rfl) (by kernel_rfl) (by kernel_rfl) (by kernel_rfl) (by kernel_rfl) ja ?_)|refine K.seq (K.seq (K.drawn ((b2,cells [v, .int .i64 gens] 43)::D) [(0,0),(1,0),(2,0),(3,0),(4,0),(5,0),(6,0),(7,0),(8,0),(9,0),(11,1),(12,1),(13,1),(14,1),(15,1),(16,1),(17,1),(10,2),(18,2),(19,0),(20,0),(21,0)] (by kernel_rfl) (by kernel_rfl) (by kernel_rfl) (by kernel_rfl) (by kernel_rfl) (by kernel_rfl) ja ?_))|refine K.drawn ((b2,cells [v, .int .i64 gens] 43)::D) [(0,0),(1,0),(2,0),(3,0),(4,0),(5,0),(6,0),(7,0),(8,0),(9,0),(11,1),(12,1),(13,1),(14,1),(15,1),(16,1),(17,1),(10,2),(18,2),(19,0),(20,0),(21,0)] (by kernel_rfl) (by kernel_rfl) (by kernel_rfl) (by kernel_rfl) (by kernel_rfl) (by kernel_rfl) ja ?_)
   refine zcO ?_;refine zg ?_;refine zg ?_;refine za2 ?_;refine zaG ?_;refine zcs ?_;refine zdg ?_;refine zaL ?_;refine zay ?_;refine zm ?_;refine zX ?_;refine zaT ?_;refine zaj ?_;refine zF ?_;refine zi fun T hT=>?_;refine(CallV.part (CallV.fn (je4 (x:=⟨1,(s:Nat),x.gen⟩) hS hv hl hlt)) ja).mono ?_;rintro _ _ ⟨v',N,hS',hv',rfl,rfl⟩;refine zh ?_;clear hT T;refine zeq ?_;refine zbC ?_;refine zab ?_;refine yr7 ?_;exact KE.fin jd rfl jc ja ⟨v',N,hS',hv',rfl,rfl⟩
  ·have h0': ¬(stB x.st.toNat).1.toList=[102,114,101,101]:=stB_ne0 hst h0
   refine yr35 ?_
   exact KE.again ⟨k+1⟩ jg ja ⟨hlt,fun j y (hj:j<k+1) hy=>by
    rcases Nat.lt_or_ge j k with h|h
    ·exact hN j y h hy
    ·have:j=k:=by omega
     subst this
     rw[hx] at hy;cases hy;exact h0⟩ (by show L.length-(k+1)<L.length-k;omega)
 ·have hF:=freeT_no (T:=L) (fun j y hy=>hN j y (by have:=jl hy;omega) hy)
  have h1:mintV L=(0,0,131):=by unfold mintV;rw [hF]
  have h2:jZ L s=L:=by unfold jZ;rw [hF]
  rw[h1,h2];refine yr26 ?_;exact KE.fin jd rfl jc ja ⟨v,[],hS,hv,rfl,rfl⟩
theorem rLook_K {i:Nat} {e:jj} (hS:Sli w0 D wE v L) (hv:v.oneCell'=true) (hl:L.length≤1024) (he:L[i]?=some e) (h1:e.st=1):
  Call Tryz.prog w0 229 [.agg [v, .int .i64 gens].toArray, .int .i64 (i:Nat), .int .u32 e.gen] (D++F) (fun r H'=>r= .tuple [.int .i64 e.slot, .int .i64 0].toArray∧H'=D++F):=by
 have hil:=jl he
 refine Call.enter3 (n:=44) (by kernel_rfl) Tryz.func229 rfl rfl rfl ?_;refine yr2 ?_;refine ze ?_;intro b3;refine yr11 ?_;refine K.loopT (σ:=MiS) [(1,_),(2,_),(3,_)] (fun s kp_=>(8, .int .i64 (s.k:Nat))::kp_) (fun s=>(b3,cells [v, .int .i64 gens] 43)::(D++F)) (fun s=>s.k≤i) (fun s=>i+1-s.k) (⟨0⟩) jg ja (Nat.zero_le _) ?_;rintro⟨k⟩ hk;dsimp only at hk⊢
 have hlt:k<L.length:=by omega
 by_cases hki:k=i
 ·subst hki
  have h2:(stB e.st.toNat).1.toList=[108,105,118,101]:=by rw[h1];rfl
  have h3:((k:Nat):Int)=(k:Nat):=rfl
  refine yr75 ?_;exact zd
 ·have h3: ¬((k:Nat):Int)=(i:Nat):=by omega
  refine yr50 ?_;exact KE.again ⟨k+1⟩ jg ja (by show k+1≤i;omega) (by show i+1-(k+1)<i+1-k;omega)
theorem rDrop_K {i:Nat} {e:jj} (hS:Sli w0 D wE v L) (hv:v.oneCell'=true) (hl:L.length≤1024) (he:L[i]?=some e) (h1:e.st=1):
  Call Tryz.prog w0 158 [.agg [v, .int .i64 gens].toArray, .int .i64 (i:Nat), .int .u32 e.gen] (D++F)
   (fun r H'=> ∃ (v':Value) (N:jb),Sli w0 (N++D) wE v' (L.set i ⟨2,0,e.gen⟩)∧v'.oneCell'=true∧r= .tuple [.agg [v', .int .i64 gens].toArray, .int .i64 e.slot, .int .i64 0].toArray∧H'=N++(D++F)):=by
 have hil:=jl he
 refine Call.enter3 (n:=28) (by kernel_rfl) Tryz.func158 rfl rfl rfl ?_;refine yr2 ?_;refine zj ?_;intro b3 b6;refine yq9 fun T hT=>?_;refine(CallV.part (CallV.fn (rLook_K hS hv hl he h1)) ja).mono ?_;refine zc ?_;clear hT T;refine yq23 fun T hT=>?_;refine(CallV.part (CallV.fn (je4 (x:=⟨2,0,e.gen⟩) hS hv hl hil)) ja).mono ?_;rintro _ _ ⟨v',N,hS',hv',rfl,rfl⟩;refine za ?_;clear hT T;refine yr7 ?_;exact KE.fin jd rfl jc ja ⟨v',N,hS',hv',rfl,rfl⟩
structure NxS where
 k:Nat
 o:Own
def J5:jj:=⟨0,0,1⟩
theorem rtNew_K {n:Nat} {H:jb} (hn:1≤n∧n≤1024) (hg:1≤gens∧gens≤2147483648):
  Call Tryz.prog w0 101 [.int .i64 (n:Nat), .int .i64 gens] H
   (fun r H'=> ∃ o,oOk wE (List.replicate n J5) o∧r= .tuple [.agg [oV o (List.replicate n J5).length, .int .i64 gens].toArray, .int .i64 0].toArray∧H'=oH wE 179 (List.replicate n J5) o++H):=by
 have h1: ¬((n:Nat):Int)<1:=by omega
 have h2: ¬((n:Nat):Int)>1024:=by omega
 refine Call.enter2 (n:=37) (by kernel_rfl) Tryz.func101 rfl rfl rfl ?_;refine yr2 ?_;refine zf ?_;intro b4;refine yr35 ?_;refine zf ?_;intro b6;refine yr10 ?_;refine K.loopT (σ:=NxS) [(0,_),(4,_),(6,_)] (fun s kp_=>(7, .int .i64 (s.k:Nat))::kp_) (fun s=>oH wE 179 (List.replicate s.k J5) s.o++((b6,cells [oV s.o (List.replicate s.k J5).length, .int .i64 gens] 43)::(b4,cells [.slice none 0 0, .int .i64 0] 43)::H)) (fun s=>s.k≤n∧oOk wE (List.replicate s.k J5) s.o) (fun s=>n-s.k) (⟨0,none⟩) jg ja (⟨Nat.zero_le _,rfl⟩) ?_;rintro⟨k,o⟩ ⟨hk,ok⟩;dsimp only at hk ok⊢
 by_cases hlt:k<n
 ·refine yr13 ?_;refine zk ?_;refine yr3 ?_;refine zt ?_;intro b33;refine KL.e rfl (Eff.appZ (E:=wE) (xs:=List.replicate k J5) (o:=o) (ys:=[J5]) (zs:=List.replicate (k+1) J5) rfl rfl rfl rfl rfl rfl jh (by assumption) (by first|exact Sli.blk jq rfl (by first|decide|simp) (by first|decide|(unfold maxLen;omega)) rfl|exact Sli.old (by assumption)|exact Sli.own jh (by assumption) jG|assumption|exact Sli.part (by assumption) ja) (List.replicate_succ'.symm) (by first|assumption|omega|(simp<;>fail)|(simp;omega)) rfl) ?_;rintro _ _ ⟨o',ok',rfl,rfl⟩;refine yr10 ?_;exact KE.again ⟨k+1,o'⟩ jg ja ⟨hlt,ok'⟩ (by show n-(k+1)<n-k;omega)
 ·have:k=n:=by omega
  subst this;refine yr22 ?_;exact KE.fin jd rfl jc ja ⟨o,ok,rfl,rfl⟩
end
theorem free_doc {T:List jj}:jao (T.map docE)=jao T:=by
 unfold jao;rw[List.findIdx?_map]
 congr 1
 funext e
 simp only[Function.comp,(jbd e).1]
theorem gen_doc {T:List jj} {i:Nat}:genA (T.map docE) i=genA T i:=by
 unfold genA;rw[List.getElem?_map]
 cases T[i]? with
 |none=>rfl
 |some e=>exact(jbd e).2
theorem mint_doc {T:List jj} {s:Int}:jZ (T.map docE) s=(jZ T s).map docE:=by
 unfold jZ;rw[free_doc]
 split
 ·rw[gen_doc,List.map_set];rfl
 ·rfl
theorem drop_doc {T:List jj} {i:Nat} {e:jj} (he:T[i]?=some e) (h1:e.st=1):(T.map docE).set i ⟨2,0,e.gen⟩=(Jt T i).map docE:=by
 unfold Jt;rw[if_pos (by omega),Int.toNat_natCast,he];dsimp only;rw[if_pos h1,List.map_set];rfl
open Go.RowKit
set_option maxRecDepth 10000
structure WyS where
 u:GyV
 G:GyP
 k:Nat
 N:jb
section
variable {w0 : World} {D F : jb} {v : PlV} {g : PlG} {long : Nat} {u : GyV} {G : GyP}
set_option maxHeartbeats 4000000 in
theorem ryWalk_K (hP:J3 w0 D v g) (hY:GyD w0 D u G) (hok:JR g long G) (ok:je g) (hlg:long≤64):
  Call Tryz.prog w0 306 [.agg (gyL v g long u G).toArray] (D++F)
   (fun r H'=>(walkG g G=none∧r= .tuple [.agg (gyL v g long u G).toArray, .int .i64 0, .bool false, .bool false].toArray∧H'=D++F)∨ ∃ (o:Option Nat) (G':GyP) (u':GyV) (N:jb),walkG g G=some (o,G')∧GyD w0 (N++D) u' G'∧r= .tuple [.agg (gyL v g long u' G').toArray, .int .i64 (nxI o), .bool o.isSome, .bool true].toArray∧H'=N++(D++F)):=by
 have q1:=hP.oL
 have q2:=hP.oF
 have q3:=hP.oM
 have q4:=hP.oC
 have q5:=hY.o1
 have q6:=hY.o2
 have q7:=hY.o3
 have hFi:=hP.F
 have hMa:=hP.M
 have hQ:=hY.Q
 have hdir:=fun A=>rydirty_K (w0:=w0) (F:=A) hP hY hok ok
 have hcop:=fun A=>jdS (w0:=w0) (F:=A) hP hY hok ok hlg
 have l4:=jcL G.q
 have hsl:=ok.slots
 have hpp:=ok.pages
 unfold gyL at hdir hcop⊢;dsimp only at hcop;refine Call.enter1 (n:=74) (by kernel_rfl) Tryz.func306 rfl rfl rfl ?_;refine yr2 ?_;refine zj ?_;intro b1 b2;refine yr5 ?_;refine K.cutT (σ:=WyS) [(1,_),(2,_)] jg (fun s kp_=>kp_) (fun s=>s.N++(D++((b1,cells [v.L,v.F,v.M, .int .i64 (g.words:Nat),v.C, .int .i64 (long:Nat),s.u.Q,s.u.ow,s.u.di, .int .i64 (s.k:Nat), .int .i64 (s.G.at_:Nat)] 48)::(b2,cells [.slice none 0 0, .slice none 0 0, .slice none 0 0, .int .i64 0, .slice none 0 0, .int .i64 0, .slice none 0 0, .slice none 0 0, .slice none 0 0, .int .i64 0, .int .i64 0] 48)::F))) (fun s=>GyD w0 (s.N++D) s.u s.G∧JR g long s.G∧s.G.pg=some s.k∧openG G=some (s.k,s.G)) ?_ ?_
 ·cases hp:G.pg with
  |some k=>
   have hpi:pgI G=(k:Nat):=by unfold pgI;rw [hp]
   have hge: ¬((k:Nat):Int)<0:=by omega
   rw[hpi];refine yr9 ?_;exact KE.meet ⟨u,G,k,[]⟩ jg ja ⟨hY,hok,hp,by unfold openG;rw [hp]⟩
  |none=>
   have hpi:pgI G= -1:=by unfold pgI;rw [hp]
   have hat:=hok.no hp
   rw[hpi] at hdir hcop⊢;refine yq11 fun T hT=>?_;refine(CallV.part (CallV.fn (hdir _)) ja).mono ?_;refine zc ?_;clear hT T
   cases hq:G.q with
   |cons s qq=>
    have hl':((natI G.q).length:Int)>0:=by rw[hq] at l4;simp at l4;rw [hq];omega
    have hno:walkG g G=none:=by unfold walkG openG;rw [hp,hq];rfl
    refine yr29 ?_;exact KE.fin jd rfl jc ja (.inl ⟨hno,rfl,rfl⟩)
   |nil=>
    have hl': ¬((natI G.q).length:Int)>0:=by rw[hq];decide
    cases hn:nextB G.di 0 true with
    |none=>
     have hno:walkG g G=none:=by unfold walkG openG;rw [hp,hq];dsimp only;rw [hn];rfl
     dsimp only;refine yr31 ?_;exact KE.fin jd rfl jc ja (.inl ⟨hno,rfl,rfl⟩)
    |some k=>
     obtain⟨n1,n2,n3,n4⟩:=jaZ hn
     have hk:k<g.pages:=by rw[←hok.di];exact n1
     obtain⟨z1,hz1⟩:=jn n1
     have hge: ¬((k:Nat):Int)<0:=by omega
     have hop:openG G=some (k,{G with di:=G.di.set k false,pg:=some k,at_:=0}):=by unfold openG;rw [hp,hq];dsimp only;rw [hn]
     have hok1:=(jdf ok hok hop).1
     dsimp only;refine yq24 fun T hT=>?_;refine zdE ?_;rintro _ _ ⟨o1,o2,o3,k1,k2,k3,rfl,rfl⟩;refine za ?_;clear hT T;refine yr23 ?_;exact KE.meet ⟨⟨oV o1 (natI G.q).length,oV o2 G.ow.length,oV o3 G.di.length⟩,{G with di:=G.di.set k false,pg:=some k,at_:=0},k,oH boE 4 (G.di.set k false) o3++(oH boE 4 G.ow o2++oH iE 3 (natI G.q) o1)⟩ jg (by simp only[List.append_assoc];exact ja)
      ⟨⟨Sli.own (by simp only[List.append_assoc];exact jh) k1 rfl,Sli.own (by simp only[List.append_assoc];exact jh) k2 rfl,Sli.own (by simp only[List.append_assoc];exact jh) (k3.set _ _) (by simp),jK _ _,jK _ _,jK _ _⟩,hok1,rfl,hop⟩
 ·rintro⟨u1,G1,k,N1⟩ ⟨hY1,hok1,hk1,hop⟩;dsimp only at hY1 hok1 hk1 hop⊢
  have p5:=hY1.o1
  have p6:=hY1.o2
  have p7:=hY1.o3
  have hpi:pgI G1=(k:Nat):=by unfold pgI;rw [hk1]
  have hcop1:=fun A=>jdS (w0:=w0) (D:=N1++D) (F:=A) (hP.part ja) hY1 hok1 ok hlg
  unfold gyL at hcop1;dsimp only at hcop1;rw[hpi] at hcop1
  obtain⟨c1,c2⟩:=hok1.pg k hk1
  obtain⟨b1',b2',b3'⟩:=jb3 ok c1
  have hfl:=jeW (g:=g)
  have hml:=jha (g:=g)
  have hfp:=fp_get (g:=g) c1
  have hmp:=mp_get (g:=g) c1
  have hs:g.fp k+G1.at_<g.slots:=by omega
  have e1:((g.fp k:Nat):Int)+((G1.at_:Nat):Int)=((g.fp k+G1.at_:Nat):Int):=by omega
  have e2:((G1.at_:Nat):Int)+1=((G1.at_+1:Nat):Int):=by omega
  obtain⟨a,ha⟩: ∃ a,g.fp k+G1.at_=a:=⟨_,rfl⟩
  have hal:a<G1.ow.length:=by rw[hok1.ow];omega
  obtain⟨wb,hwb⟩:=jn hal
  have hw:walkG g G=some (walk1 g k G1):=by unfold walkG;rw [hop];rfl
  have hwG:(G1.ow[g.fp k+G1.at_]?).getD false=wb:=by rw[ha,hwb];rfl
  rw[hw];unfold walk1;rw[hwG,ha];rw[ha] at e1;refine yq3 fun T hT=>?_;refine(CallV.part (CallV.fn (hcop1 _)) (by rw[List.append_assoc];exact ja)).mono ?_;rintro _ _ ⟨o1,o2,o3,k1,k2,k3,rfl,rfl⟩;simp only[List.append_assoc];refine za ?_;clear hT T;refine yr4 ?_;refine zbi ?_;refine zaY ?_;refine zB ?_;refine zcP ?_;refine zo ?_;refine zb2 ?_;refine zJ ?_;refine zcQ ?_;refine zo ?_;refine zK ?_;refine zy ?_;refine yr1 ?_;rw[e1]
  by_cases h:G1.at_+1=g.mp k
  ·have h':((G1.at_:Nat):Int)+1=(g.mp k:Nat):=by omega
   rw[if_pos h,if_pos h]
   cases wb with
   |true=>
    refine yr30 ?_;refine zbE ?_;refine zcQ ?_;refine zo ?_;refine zaY ?_;refine z8 ?_;refine zcP ?_;refine zo ?_;refine zb2 ?_;refine zJ ?_;refine zaC ?_;refine zp ?_;refine yr34 ?_;exact KE.fin (H':=((oH boE 4 G1.di o3++(oH boE 4 (G1.ow.set a false) o2++oH iE 3 (natI G1.q) o1))++N1)++(D++F)) jd rfl jc (by simp only[List.append_assoc];exact ja)
     (.inr ⟨some a,{G1 with ow:=G1.ow.set a false,pg:=none,at_:=0},⟨oV o1 (natI G1.q).length,oV o2 G1.ow.length,oV o3 G1.di.length⟩,(oH boE 4 G1.di o3++(oH boE 4 (G1.ow.set a false) o2++oH iE 3 (natI G1.q) o1))++N1,by simp only[if_true],⟨Sli.own (by simp only[List.append_assoc];exact jh) k1 rfl,Sli.own (by simp only[List.append_assoc];exact jh) (k2.set _ _) (by simp),Sli.own (by simp only[List.append_assoc];exact jh) k3 rfl,jK _ _,jK _ _,jK _ _⟩,rfl,by simp only[List.append_assoc]⟩)
   |false=>
    refine yr30 ?_;refine zbE ?_;refine zcQ ?_;refine zo ?_;refine zaY ?_;refine z8 ?_;refine zcP ?_;refine zo ?_;refine zb2 ?_;refine zJ ?_;refine zaC ?_;refine zp ?_;refine yr32 ?_;exact KE.fin (H':=((oH boE 4 G1.di o3++(oH boE 4 (G1.ow.set a false) o2++oH iE 3 (natI G1.q) o1))++N1)++(D++F)) jd rfl jc (by simp only[List.append_assoc];exact ja)
     (.inr ⟨none,{G1 with ow:=G1.ow.set a false,pg:=none,at_:=0},⟨oV o1 (natI G1.q).length,oV o2 G1.ow.length,oV o3 G1.di.length⟩,(oH boE 4 G1.di o3++(oH boE 4 (G1.ow.set a false) o2++oH iE 3 (natI G1.q) o1))++N1,by simp only[Bool.false_eq_true,if_false],⟨Sli.own (by simp only[List.append_assoc];exact jh) k1 rfl,Sli.own (by simp only[List.append_assoc];exact jh) (k2.set _ _) (by simp),Sli.own (by simp only[List.append_assoc];exact jh) k3 rfl,jK _ _,jK _ _,jK _ _⟩,rfl,by simp only[List.append_assoc]⟩)
  ·have h': ¬((G1.at_:Nat):Int)+1=(g.mp k:Nat):=by omega
   rw[if_neg h,if_neg h]
   cases wb with
   |true=>
    refine yr30 ?_;refine zbE ?_;refine zcQ ?_;refine zo ?_;refine zaY ?_;refine z8 ?_;refine zcP ?_;refine zo ?_;refine zb2 ?_;refine zJ ?_;refine za4 ?_;refine zp ?_;refine yr25 ?_;rw[e2];exact KE.fin (H':=((oH boE 4 G1.di o3++(oH boE 4 (G1.ow.set a false) o2++oH iE 3 (natI G1.q) o1))++N1)++(D++F)) jd rfl jc (by simp only[List.append_assoc];exact ja)
     (.inr ⟨some a,{G1 with ow:=G1.ow.set a false,pg:=some k,at_:=G1.at_+1},⟨oV o1 (natI G1.q).length,oV o2 G1.ow.length,oV o3 G1.di.length⟩,(oH boE 4 G1.di o3++(oH boE 4 (G1.ow.set a false) o2++oH iE 3 (natI G1.q) o1))++N1,by simp only[if_true],⟨Sli.own (by simp only[List.append_assoc];exact jh) k1 rfl,Sli.own (by simp only[List.append_assoc];exact jh) (k2.set _ _) (by simp),Sli.own (by simp only[List.append_assoc];exact jh) k3 rfl,jK _ _,jK _ _,jK _ _⟩,rfl,by simp only[List.append_assoc]⟩)
   |false=>
    refine yr30 ?_;refine zbE ?_;refine zcQ ?_;refine zo ?_;refine zaY ?_;refine z8 ?_;refine zcP ?_;refine zo ?_;refine zb2 ?_;refine zJ ?_;refine za4 ?_;refine zp ?_;refine yr23 ?_;rw[e2];exact KE.fin (H':=((oH boE 4 G1.di o3++(oH boE 4 (G1.ow.set a false) o2++oH iE 3 (natI G1.q) o1))++N1)++(D++F)) jd rfl jc (by simp only[List.append_assoc];exact ja)
     (.inr ⟨none,{G1 with ow:=G1.ow.set a false,pg:=some k,at_:=G1.at_+1},⟨oV o1 (natI G1.q).length,oV o2 G1.ow.length,oV o3 G1.di.length⟩,(oH boE 4 G1.di o3++(oH boE 4 (G1.ow.set a false) o2++oH iE 3 (natI G1.q) o1))++N1,by simp only[Bool.false_eq_true,if_false],⟨Sli.own (by simp only[List.append_assoc];exact jh) k1 rfl,Sli.own (by simp only[List.append_assoc];exact jh) (k2.set _ _) (by simp),Sli.own (by simp only[List.append_assoc];exact jh) k3 rfl,jK _ _,jK _ _,jK _ _⟩,rfl,by simp only[List.append_assoc]⟩)
end
end Go.Proofs.YtldomapkmopomaaGreatDoor.Sw
