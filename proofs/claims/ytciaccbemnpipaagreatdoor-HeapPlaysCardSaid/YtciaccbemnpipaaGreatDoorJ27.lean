/-The walker and contracts, part 27.-/
import Derived.Test.YtciaccbemnpipaaGreatDoorJ21
import Derived.Test.YtciaccbemnpipaaGreatDoorJ23
set_option linter.all false
namespace Go.Proofs.YtciaccbemnpipaaGreatDoor.Sw
set_option maxHeartbeats 8000000
open Go.Proofs.YtciaccbemnpipaaGreatDoor renaming lo -> qL, hi -> qH
open Go.RowKit
set_option maxRecDepth 10000
structure GyV where
 Q:Value
 ow:Value
 di:Value
def natI (q:List Nat):List Int:=q.map fun n=>((n:Nat):Int)
theorem jdA (q:List Nat):(natI q).length=q.length:=by simp[natI]
def pgI (G:GyP):Int:=match G.pg with
 |some k=>((k:Nat):Int)
 |none=> -1
def gyL (v:PlV) (g:PlG) (long:Nat) (u:GyV) (G:GyP):List Value:=[v.L,v.F,v.M, .int .i64 (g.words:Nat),v.C, .int .i64 (long:Nat),u.Q,u.ow,u.di, .int .i64 (pgI G), .int .i64 (G.at_:Nat)]
structure GyD (w0:World) (D:jb) (u:GyV) (G:GyP):Prop where
 Q:Sli w0 D iE u.Q (natI G.q)
 ow:Sli w0 D boE u.ow G.ow
 di:Sli w0 D boE u.di G.di
 o1:u.Q.oneCell'=true
 o2:u.ow.oneCell'=true
 o3:u.di.oneCell'=true
theorem GyD.part {w0:World} {D D':jb} {u:GyV} {G:GyP} (h:GyD w0 D u G) (hp:Part D' D):GyD w0 D' u G:=⟨h.Q.part hp,h.ow.part hp,h.di.part hp,h.o1,h.o2,h.o3⟩
structure DyS where
 k:Nat
theorem next_is {bs:List Bool} {k:Nat} (h:bs[k]?=some true) (hno: ∀ j:Nat,j<k->bs[j]?≠some true):nextB bs 0 true=some k:=by
 unfold nextB;rw[List.find?_range_eq_some];refine⟨by rw[h];simp,List.mem_range.2 (jl h),fun j hj=>?_⟩
 have h1:=hno j hj
 cases hb:bs[j]? with
 |none=>simp
 |some b=>cases b<;>simp_all
theorem next_no {bs:List Bool} (h: ∀ j:Nat,bs[j]?≠some true):nextB bs 0 true=none:=by
 unfold nextB;rw[List.find?_eq_none];intro j hj
 have h1:=h j
 cases hb:bs[j]? with
 |none=>simp
 |some b=>cases b<;>simp_all
section
variable {w0 : World} {D F : jb} {v : PlV} {g : PlG} {long : Nat} {u : GyV} {G : GyP}
theorem ryNew_K (hP:jad w0 D v g) (ok:jh g):
  Call Tryz.prog w0 99 [.agg (plL v g).toArray, .int .i64 (long:Nat)] (D++F) (fun r H'=> ∃ (u:GyV) (N:jb),GyD w0 (N++D) u (nilG g)/\r= .agg (gyL v g long u (nilG g)).toArray/\H'=N++(D++F)):=by
 have hL:=hP.L
 have hFi:=hP.F
 have q1:=hP.oL
 have q2:=hP.oF
 have q3:=hP.oM
 have q4:=hP.oC
 have hlen:=jak (g:=g)
 have hfl:=jfW (g:=g)
 have hbl:=jhh ok
 have hpb:=ok.pages
 unfold plL;refine en2 16 Tryz.func99 ?_;refine yr3 ?_;intro b2;refine yr1 ?_;intro b4;refine yr3 ?_;refine zi ?_;refine K.dr ((b2,cells [v.L,v.F,v.M, .int .i64 (g.words:Nat),v.C] 34)::D) [(0,1),(1,1),(2,1),(3,1),(4,1),(6,1),(7,1),(8,1),(5,3),(9,2),(10,0),(11,2)] ja ?_;refine yr8 ?_;refine KD.fork2 (x:=5) (y:=9) (o1:=[(9,2),(10,0),(11,2)]) (o2:=[(5,2),(10,0),(11,2)]) bu rfl rfl bu bu ?_ ?_
 ·(refine jR.e rfl (Eff.makeR (E:=boE) (x0:=false) rfl rfl rfl rfl rfl rfl be) ?_;rintro _ _ ⟨o10,ok10,rfl,rfl⟩;refine⟨ja,?_⟩)
  refine KD.e rfl rfl (Eff.makeR (E:=boE) (x0:=false) rfl rfl rfl rfl rfl rfl be) ?_;rintro _ _ ⟨o14,ok14,rfl,rfl⟩;refine⟨ja,?_⟩;refine yr4 ?_;refine zg ?_;refine KE.fin (H':=(oH boE 4 (List.replicate g.firsts.length false) o14++oH boE 4 (List.replicate g.L.length false) o10)++(D++F)) jd rfl jc bf ⟨⟨.slice none 0 0,oV o10 (List.replicate g.L.length false).length,oV o14 (List.replicate g.firsts.length false).length⟩,oH boE 4 (List.replicate g.firsts.length false) o14++oH boE 4 (List.replicate g.L.length false) o10,⟨Sli.own (o:=none) (e:=3) jE.nil rfl rfl,bU,bV,rfl,jJ _ _,jJ _ _⟩,rfl,rfl⟩
 ·(refine jR.e rfl (Eff.makeR (E:=boE) (x0:=false) rfl rfl rfl rfl rfl rfl be) ?_;rintro _ _ ⟨o14,ok14,rfl,rfl⟩;refine⟨ja,?_⟩)
  refine KD.e rfl rfl (Eff.makeR (E:=boE) (x0:=false) rfl rfl rfl rfl rfl rfl be) ?_;rintro _ _ ⟨o10,ok10,rfl,rfl⟩;refine⟨ja,?_⟩;refine yr4 ?_;refine zg ?_;refine KE.fin (H':=(oH boE 4 (List.replicate g.firsts.length false) o14++oH boE 4 (List.replicate g.L.length false) o10)++(D++F)) jd rfl jc bf ⟨⟨.slice none 0 0,oV o10 (List.replicate g.L.length false).length,oV o14 (List.replicate g.firsts.length false).length⟩,oH boE 4 (List.replicate g.firsts.length false) o14++oH boE 4 (List.replicate g.L.length false) o10,⟨Sli.own (o:=none) (e:=3) jE.nil rfl rfl,bU,bV,rfl,jJ _ _,jJ _ _⟩,rfl,rfl⟩
theorem jes (hP:jad w0 D v g) (hY:GyD w0 D u G) (hok:J4 g long G) (ok:jh g) (hlg:long<=64):
  Call Tryz.prog w0 276 [.agg (gyL v g long u G).toArray] (D++F)
   (fun r H'=> ∃ o1 o2 o3,oOk iE (natI G.q) o1/\oOk boE G.ow o2/\oOk boE G.di o3/\r= .agg (gyL v g long ⟨oV o1 (natI G.q).length,oV o2 G.ow.length,oV o3 G.di.length⟩ G).toArray/\H'=oH boE 4 G.di o3++(oH boE 4 G.ow o2++(oH iE 3 (natI G.q) o1++(D++F)))):=by
 have q1:=hP.oL
 have q2:=hP.oF
 have q3:=hP.oM
 have q4:=hP.oC
 have q5:=hY.o1
 have q6:=hY.o2
 have q7:=hY.o3
 have hQ:=hY.Q
 have how:=hY.ow
 have hdi:=hY.di
 have l1:=hok.ql
 have l2:=hok.ow
 have l3:=hok.di
 have b2:=ok.slots
 have b3:=ok.pages
 have l4:=jdA G.q
 unfold gyL;refine en1 19 Tryz.func276 ?_;refine yr3 ?_;intro b1;refine yr1 ?_;intro b2;refine yr5 ?_;intro b3;refine yr2 ?_;refine KL.e rfl (Eff.appLit (E:=iE) (ys:=natI G.q) rfl rfl rfl rfl rfl rfl rfl jK ba be rfl) ?_;rintro _ _ ⟨o1,ok1,rfl,rfl⟩
 (iterate 10 first|refine yS ?_|intro _)
 refine KL.e rfl (Eff.appLit (E:=boE) (ys:=G.ow) rfl rfl rfl rfl rfl rfl rfl jK ba be rfl) ?_;rintro _ _ ⟨o2,ok2,rfl,rfl⟩
 (iterate 10 first|refine yS ?_|intro _)
 refine KL.e rfl (Eff.appLit (E:=boE) (ys:=G.di) rfl rfl rfl rfl rfl rfl rfl jK ba be rfl) ?_;rintro _ _ ⟨o3,ok3,rfl,rfl⟩;refine yr11 ?_;exact KE.fin jd rfl jc ja ⟨o1,o2,o3,ok1,ok2,ok3,rfl,rfl⟩
theorem jmM (q:List Nat) (s:Nat):natI q++ [((s:Nat):Int)]=natI (q++ [s]):=by simp[natI]
theorem ryPut_K {s:Nat} (hP:jad w0 D v g) (hY:GyD w0 D u G) (hok:J4 g long G) (ok:jh g) (hlg:long<=64) (hs:s<g.slots):
  Call Tryz.prog w0 275 [.agg (gyL v g long u G).toArray, .int .i64 (s:Nat)] (D++F)
   (fun r H'=> ∃ (u':GyV) (N:jb),GyD w0 (N++D) u' (JP g long G s)/\r= .tuple [.agg (gyL v g long u' (JP g long G s)).toArray, .int .i64 0].toArray/\H'=N++(D++F)):=by
 obtain⟨y,hy⟩:=Je (g:=g) hs
 have hHas:=fun A=>jek (w0:=w0) (D:=D) (F:=A) (n:=(s:Nat)) hP ok
 simp only[jd5 hy] at hHas
 have hcop:=fun A=>jes (F:=A) hP hY hok ok hlg
 have q1:=hP.oL
 have q2:=hP.oF
 have q3:=hP.oM
 have q4:=hP.oC
 have q5:=hY.o1
 have q6:=hY.o2
 have q7:=hY.o3
 have hL:=hP.L
 have hQ:=hY.Q
 have l1:=hok.ql
 have l2:=hok.ow
 have l3:=hok.di
 have l4:=jdA G.q
 have hpg:=jdG hy
 have hpb:=(jdi ok hy).1
 unfold plL at hHas;unfold gyL at hcop|-;dsimp only at hcop|-
 by_cases hl:G.q.length<long
 ·have hput:JP g long G s={G with q:=G.q++ [s]}:=by unfold JP;rw [if_pos hl]
  rw[hput]
  have hl':((natI G.q).length:Int)<(long:Nat):=by omega
  have hbd:(natI (G.q++ [s])).length<=4294967296:=by rw[jdA,List.length_append,List.length_singleton];omega
  refine en2 42 Tryz.func275 ?_
  (iterate 16 first|refine yS ?_|intro _)
  refine zK ?_;refine yr10 ?_;refine je (hcop _) ja ?_;rintro _ _ ⟨o1,o2,o3,k1,k2,k3,rfl,rfl⟩;refine yr15 ?_;refine zg ?_
  (iterate 5 first|refine yS ?_|intro _)
  refine KL.e rfl (Eff.appZ (E:=iE) (xs:=natI G.q) (o:=o1) (ys:=[((s:Nat):Int)]) (zs:=natI (G.q++ [s])) rfl rfl rfl rfl rfl rfl jt bh ba (jmM G.q s) be rfl) ?_;rintro _ _ ⟨o',ok',rfl,rfl⟩;refine yr13 ?_;refine KE.fin (H':=(oH boE 4 G.di o3++(oH boE 4 G.ow o2++oH iE 3 (natI (G.q++ [s])) o'))++(D++F)) jd rfl jc bf ⟨⟨oV o' (natI (G.q++ [s])).length,oV o2 G.ow.length,oV o3 G.di.length⟩,oH boE 4 G.di o3++(oH boE 4 G.ow o2++oH iE 3 (natI (G.q++ [s])) o'),⟨Sli.own bv ok' rfl,Sli.own bv k2 rfl,Sli.own bv k3 rfl,jJ _ _,jJ _ _,jJ _ _⟩,rfl,rfl⟩
 ·have hput:JP g long G s={G with ow:=G.ow.set s true,di:=G.di.set y.page true}:=by unfold JP;rw [if_neg hl,hpg]
  rw[hput]
  have hl': ¬((natI G.q).length:Int)<(long:Nat):=by omega
  have hso:s<G.ow.length:=by omega
  have hsd:y.page<G.di.length:=by omega
  have hyl:=jl hy
  obtain⟨z1,hz1⟩:=jq hso
  obtain⟨z2,hz2⟩:=jq hsd
  refine en2 42 Tryz.func275 ?_
  (iterate 16 first|refine yS ?_|intro _)
  refine zK ?_;refine yr10 ?_;refine je (hcop _) ja ?_;rintro _ _ ⟨o1,o2,o3,k1,k2,k3,rfl,rfl⟩;refine yr27 ?_;refine zae ?_;refine yr22 ?_;refine KE.fin (H':=(oH boE 4 (G.di.set y.page true) o3++(oH boE 4 (G.ow.set s true) o2++oH iE 3 (natI G.q) o1))++(D++F)) jd rfl jc bf ⟨⟨oV o1 (natI G.q).length,oV o2 G.ow.length,oV o3 G.di.length⟩,oH boE 4 (G.di.set y.page true) o3++(oH boE 4 (G.ow.set s true) o2++oH iE 3 (natI G.q) o1),⟨Sli.own bv k1 rfl,Sli.own bv (k2.set _ _) bF,Sli.own bv (k3.set _ _) bF,jJ _ _,jJ _ _,jJ _ _⟩,rfl,rfl⟩
theorem ryNext_K (hP:jad w0 D v g) (hY:GyD w0 D u G) (hok:J4 g long G) (ok:jh g) (hlg:long<=64):
  Call Tryz.prog w0 183 [.agg (gyL v g long u G).toArray] (D++F)
   (fun r H'=>(G.q=[]/\r= .tuple [.agg (gyL v g long u G).toArray, .int .i64 0, .bool false].toArray/\H'=D++F)\/ ∃ (s:Nat) (q:List Nat) (u':GyV) (N:jb),G.q=s::q/\GyD w0 (N++D) u' {G with q:=q}/\r= .tuple [.agg (gyL v g long u' {G with q:=q}).toArray, .int .i64 (s:Nat), .bool true].toArray/\H'=N++(D++F)):=by
 have hcop:=fun A=>jes (F:=A) hP hY hok ok hlg
 have q1:=hP.oL
 have q2:=hP.oF
 have q3:=hP.oM
 have q4:=hP.oC
 have q5:=hY.o1
 have q6:=hY.o2
 have q7:=hY.o3
 have hQ:=hY.Q
 have l4:=jdA G.q
 unfold gyL at hcop|-;dsimp only at hcop|-
 cases hq:G.q with
 |nil=>
  rw[hq] at hQ l4
  have hl':((natI []).length:Int)=0:=rfl
  refine en1 23 Tryz.func183 ?_
  (iterate 30 first|refine yS ?_|intro _)
  exact KE.fin jd rfl jc ja (.inl ⟨rfl,rfl,rfl⟩)
 |cons s q=>
  have hQ2:=hQ
  rw[hq] at hQ2 l4
  have hx:(natI (s::q))[0]?=some ((s:Nat):Int):=rfl
  have hl': ¬((natI (s::q)).length:Int)=0:=by simp at l4;omega
  have hl2:1<=(natI (s::q)).length:=by simp at l4;omega
  have hd:natI q=(natI (s::q)).drop 1:=rfl
  have hdl:((natI (s::q)).drop 1).length=(natI (s::q)).length-1:=by simp
  refine en1 23 Tryz.func183 ?_
  (iterate 6 first|refine yS ?_|intro _);refine yq28 fun T hT=>?_
  refine(CallV.part (CallV.fn (hcop _)) ja).mono ?_;rintro _ _ ⟨o1,o2,o3,k1,k2,k3,rfl,rfl⟩;rw[hq] at k1|-
  have hone:(j9 (oV o1 (natI (s::q)).length) 1 (natI (s::q)).length iE.sz).oneCell'=true:=by cases o1<;>rfl
  refine ze ?_;clear hT T;refine yr22 ?_;refine KE.fin (H':=(oH boE 4 G.di o3++(oH boE 4 G.ow o2++oH iE 3 (natI (s::q)) o1))++(D++F)) jd rfl jc bf (.inr ⟨s,q,⟨j9 (oV o1 (natI (s::q)).length) 1 (natI (s::q)).length iE.sz,oV o2 G.ow.length,oV o3 G.di.length⟩,oH boE 4 G.di o3++(oH boE 4 G.ow o2++oH iE 3 (natI (s::q)) o1),rfl,⟨?_,Sli.own bv k2 rfl,Sli.own bv k3 rfl,hone,jJ _ _,jJ _ _⟩,rfl,rfl⟩)
  have:=(Sli.own (w0:=w0) (H:=(oH boE 4 G.di o3++(oH boE 4 G.ow o2++oH iE 3 (natI (s::q)) o1))++D) bv k1 rfl).sub hl2 (Nat.le_refl _)
  rw[List.take_length] at this;exact this
theorem jmm (hP:jad w0 D v g) (hY:GyD w0 D u G) (hok:J4 g long G) (ok:jh g):
  Cs w0 279 [.agg (gyL v g long u G).toArray] (D++F) (.int .i64 (match nextB G.di 0 true with|some k=>((k:Nat):Int)|none=> -1)):=by
 have q1:=hP.oL
 have q2:=hP.oF
 have q3:=hP.oM
 have q4:=hP.oC
 have q5:=hY.o1
 have q6:=hY.o2
 have q7:=hY.o3
 have hdi:=hY.di
 have l3:=hok.di
 have b3:=ok.pages
 unfold gyL;refine en1 17 Tryz.func279 ?_;refine yr3 ?_;intro b1;refine yr10 ?_;refine K.loopT (σ:=DyS) [(1,_)] (fun s kp_=>(3, .int .i64 (s.k:Nat))::kp_) (fun s=>(b1,cells [v.L,v.F,v.M, .int .i64 (g.words:Nat),v.C, .int .i64 (long:Nat),u.Q,u.ow,u.di, .int .i64 (pgI G), .int .i64 (G.at_:Nat)] 50)::(D++F)) (fun s=>s.k<=G.di.length/\ ∀ j:Nat,j<s.k->G.di[j]?≠some true) (fun s=>G.di.length-s.k) (⟨0⟩) jg ja (⟨Nat.zero_le _,fun _ h=>absurd h (Nat.not_lt_zero _)⟩) ?_;rintro⟨k⟩ ⟨hk,hno⟩;dsimp only at hk hno|-
 by_cases hlt:k<G.di.length
 ·obtain⟨d,hd⟩:=jq hlt
  cases d with
  |true=>
   have hn:nextB G.di 0 true=some k:=next_is hd hno
   rw[hn];dsimp only;refine yr37 ?_;exact zd
  |false=>
   refine jbf ?_
   exact KE.again ⟨k+1⟩ jg ja ⟨hlt,fun j (hj:j<k+1)=>by
    rcases Nat.lt_or_ge j k with h|h
    ·exact hno j h
    ·have:j=k:=by omega
     subst this
     rw[hd];simp⟩ (by show G.di.length-(k+1)<G.di.length-k;omega)
 ·have hn:nextB G.di 0 true=none:=next_no fun j hj=>hno j (by have:=jl hj;omega) hj
  rw[hn];dsimp only;refine yr22 ?_;exact zd
theorem ryOwed_K (hP:jad w0 D v g) (hY:GyD w0 D u G) (hok:J4 g long G) (ok:jh g):
  Cs w0 347 [.agg (gyL v g long u G).toArray] (D++F) (.int .i64 (G.ow.count true:Nat)):=by
 have q1:=hP.oL
 have q2:=hP.oF
 have q3:=hP.oM
 have q4:=hP.oC
 have q5:=hY.o1
 have q6:=hY.o2
 have q7:=hY.o3
 have how:=hY.ow
 have l3:=hok.ow
 have b3:=ok.slots
 unfold gyL;refine en1 20 Tryz.func347 ?_;refine yr3 ?_;intro b1;refine yr15 ?_;refine K.loopT (σ:=DyS) [(1,_)] (fun s kp_=>(4, .int .i64 (s.k:Nat))::(3, .int .i64 ((G.ow.take s.k).count true:Nat))::kp_) (fun s=>(b1,cells [v.L,v.F,v.M, .int .i64 (g.words:Nat),v.C, .int .i64 (long:Nat),u.Q,u.ow,u.di, .int .i64 (pgI G), .int .i64 (G.at_:Nat)] 50)::(D++F)) (fun s=>s.k<=G.ow.length) (fun s=>G.ow.length-s.k) (⟨0⟩) jg ja (Nat.zero_le _) ?_;rintro⟨k⟩ hk;dsimp only at hk|-
 have hcl:(G.ow.take k).count true<=k:=Nat.le_trans List.count_le_length (by simp;omega)
 by_cases hlt:k<G.ow.length
 ·obtain⟨d,hd⟩:=jq hlt
  have hs:G.ow.take (k+1)=G.ow.take k++ [d]:=ja6 hd
  cases d with
  |true=>
   have hc:(((G.ow.take k).count true:Nat):Int)+1=(((G.ow.take (k+1)).count true:Nat):Int):=by rw[hs];simp
   refine yr37 ?_;rw[hc];exact KE.again ⟨k+1⟩ jg ja hlt (by show G.ow.length-(k+1)<G.ow.length-k;omega)
  |false=>
   have hc:(((G.ow.take k).count true:Nat):Int)=(((G.ow.take (k+1)).count true:Nat):Int):=by rw[hs];simp
   rw[hc];refine jbf ?_;exact KE.again ⟨k+1⟩ jg ja hlt (by show G.ow.length-(k+1)<G.ow.length-k;omega)
 ·have hkn:k=G.ow.length:=by omega
  subst hkn;rw[List.take_length] at*;refine yr23 ?_;exact zd
theorem jmn (hP:jad w0 D v g) (hY:GyD w0 D u G) (hok:J4 g long G) (ok:jh g):
  Cs w0 280 [.agg (gyL v g long u G).toArray] (D++F) (.bool (J8 G)):=by
 have how:=fun A=>ryOwed_K (F:=A) hP hY hok ok
 have q1:=hP.oL
 have q2:=hP.oF
 have q3:=hP.oM
 have q4:=hP.oC
 have q5:=hY.o1
 have q6:=hY.o2
 have q7:=hY.o3
 have hQ:=hY.Q
 have l4:=jdA G.q
 unfold gyL at how|-
 cases hq:G.q with
 |cons s q=>
  have hem:J8 G=false:=by unfold J8;rw [hq];rfl
  rw[hq] at l4
  have hl': ¬((natI G.q).length:Int)=0:=by rw[hq];simp at l4;omega
  rw[hem];refine en1 17 Tryz.func280 ?_
  (iterate 27 first|refine yS ?_|intro _)
  exact zd
 |nil=>
  have hl':((natI G.q).length:Int)=0:=by rw[hq];rfl
  by_cases hc:G.ow.count true=0
  ·have hc':((G.ow.count true:Nat):Int)=0:=by omega
   cases hp:G.pg with
   |none=>
    have hem:J8 G=true:=by unfold J8;rw [hq,hp,hc];rfl
    have hpi:pgI G= -1:=by unfold pgI;rw [hp]
    rw[hem];rw[hpi] at how|-;refine en1 17 Tryz.func280 ?_
    (iterate 16 first|refine yS ?_|intro _)
    refine ji (how _) ja ?_;refine yr11 ?_;exact zd
   |some k=>
    have hem:J8 G=false:=by unfold J8;rw [hp];simp
    have hpi:pgI G=(k:Nat):=by unfold pgI;rw [hp]
    rw[hem];rw[hpi] at how|-;refine en1 17 Tryz.func280 ?_
    (iterate 16 first|refine yS ?_|intro _)
    refine ji (how _) ja ?_;refine yr11 ?_;exact zd
  ·have hc': ¬((G.ow.count true:Nat):Int)=0:=by omega
   have hem:J8 G=false:=by unfold J8;rw [decide_eq_false hc];simp
   rw[hem];refine en1 17 Tryz.func280 ?_
   (iterate 16 first|refine yS ?_|intro _)
   refine ji (how _) ja ?_;refine yr11 ?_;exact zd
end
def stB:Nat->ByteArray
 |0=>⟨#[102,114,101,101]⟩
 |1=>⟨#[108,105,118,101]⟩
 |2=>⟨#[100,114,111,112,112,101,100]⟩
 |_=>⟨#[114,101,116,105,114,101,100]⟩
theorem jkr {a:Int} (h:0<=a/\a<4) (h0: ¬a=0): ¬(stB a.toNat).1.toList=[102,114,101,101]:=by
 obtain⟨n,rfl⟩: ∃ n:Nat,a=n:=⟨a.toNat,by omega⟩
 rw[Int.toNat_natCast]
 rcases(show n=1\/n=2\/n=3 by omega) with rfl|rfl|rfl<;>simp[stB]
theorem jkq {a:Int} (h:0<=a/\a<4) (h0: ¬a=1): ¬(stB a.toNat).1.toList=[108,105,118,101]:=by
 obtain⟨n,rfl⟩: ∃ n:Nat,a=n:=⟨a.toNat,by omega⟩
 rw[Int.toNat_natCast]
 rcases(show n=0\/n=2\/n=3 by omega) with rfl|rfl|rfl<;>simp[stB]
def j5 (e:jk):jk:=if e.st=1 then e else⟨e.st,0,e.gen⟩
def wE:Enc jk:=⟨fun e=> [.string (stB e.st.toNat), .int .i64 e.slot, .int .u32 e.gen],3,fun _=>rfl,by intro x v hv;simp at hv;rcases hv with rfl|rfl|rfl<;>rfl⟩
theorem jbn (e:jk):(j5 e).st=e.st/\(j5 e).gen=e.gen:=by unfold j5;split<;>exact⟨rfl,rfl⟩
def StOk (L:List jk):Prop:=L.length<=1024/\ ∀ e∈L,0<=e.st/\e.st<4
section
variable {w0 : World} {D F : jb} {v : Value} {L : List jk} {gens : Int}
theorem jf5 {i:Nat} {x:jk} (hS:Sli w0 D wE v L) (hv:v.oneCell'=true) (hl:L.length<=1024) (hi:i<L.length):
  Call Tryz.prog w0 143 [.agg [v, .int .i64 gens].toArray, .int .i64 (i:Nat), .agg [.string (stB x.st.toNat), .int .i64 x.slot, .int .u32 x.gen].toArray] (D++F)
   (fun r H'=> ∃ (v':Value) (N:jb),Sli w0 (N++D) wE v' (L.set i x)/\v'.oneCell'=true/\r= .agg [v', .int .i64 gens].toArray/\H'=N++(D++F)):=by
 obtain⟨y,hy⟩:=jq hi
 refine en3 20 Tryz.func143 ?_
 (iterate 16 first|refine yS ?_|intro _)
 refine KL.e rfl (Eff.appLit (E:=wE) (ys:=L) rfl rfl rfl rfl rfl rfl rfl jK ba be rfl) ?_;rintro _ _ ⟨o',ok',rfl,rfl⟩;refine yr3 ?_;refine zg ?_;refine yr4 ?_;refine KL.eN (Eff.stSlA (x1:=x) rfl rfl rfl rfl jt bh bh) ?_;rintro _ _ rfl;refine yr12 ?_;exact KE.fin (H':=oH wE 202 (L.set i x) o'++(D++F)) jd rfl jc ja ⟨oV o' L.length,_,Sli.own jt (ok'.set i x) bF,jJ _ _,rfl,rfl⟩
structure MiS where
 k:Nat
theorem rMint_K {s:Nat} (hS:Sli w0 D wE v L) (hv:v.oneCell'=true) (ok:StOk L):
  Call Tryz.prog w0 230 [.agg [v, .int .i64 gens].toArray, .int .i64 (s:Nat)] (D++F)
   (fun r H'=> ∃ (v':Value) (N:jb),Sli w0 (N++D) wE v' (jS L s)/\v'.oneCell'=true/\r= .tuple [.agg [v', .int .i64 gens].toArray, .int .i64 (JT L).1, .int .u32 (JT L).2.1, .int .i64 (JT L).2.2].toArray/\H'=N++(D++F)):=by
 have hl:=ok.1
 refine en2 45 Tryz.func230 ?_;refine yr3 ?_;intro b2;refine yr1 ?_;intro b4;refine yr22 ?_;refine K.loopT (σ:=MiS) [(1,_),(2,_),(4,_)] (fun s kp_=>(8, .int .i64 (s.k:Nat))::kp_) (fun s=>(b2,cells [v, .int .i64 gens] 45)::(b4,cells [.slice none 0 0, .int .i64 0] 45)::(D++F)) (fun s=>s.k<=L.length/\ ∀ (j:Nat) (y:jk),j<s.k->L[j]?=some y->y.st≠0) (fun s=>L.length-s.k) (⟨0⟩) jg ja (⟨Nat.zero_le _,fun _ _ h=>absurd h (Nat.not_lt_zero _)⟩) ?_;rintro⟨k⟩ ⟨hk,hN⟩;dsimp only at hk hN|-
 by_cases hlt:k<L.length
 ·obtain⟨x,hx⟩:=jq hlt
  have hst:=ok.2 x (List.mem_of_getElem? hx)
  by_cases h0:x.st=0
  ·have h0':(stB x.st.toNat).1.toList=[102,114,101,101]:=by rw[h0];rfl
   have hF:=jjR hx h0 hN
   have h1:JT L=(((k:Nat):Int),x.gen,0):=by unfold JT;rw [hF];dsimp only;rw [jcp hx]
   have h2:jS L s=L.set k ⟨1,(s:Nat),x.gen⟩:=by unfold jS;rw [hF];dsimp only;rw [jcp hx]
   rw[h1,h2];refine yr27 ?_;refine zi ?_
   (repeat refine K.seq ?_)
   refine K.dr ((b2,cells [v, .int .i64 gens] 45)::D) [(0,0),(1,0),(2,0),(3,0),(4,0),(5,0),(6,0),(7,0),(8,0),(9,0),(11,1),(12,1),(13,1),(14,1),(15,1),(16,1),(17,1),(10,2),(18,2),(19,0),(20,0),(21,0)] ja ?_;refine yr18 ?_;refine je (jf5 (x:=⟨1,(s:Nat),x.gen⟩) hS hv hl hlt) ja ?_;rintro _ _ ⟨v',N,hS',hv',rfl,rfl⟩;refine yr14 ?_;exact KE.fin jd rfl jc ja ⟨v',N,hS',hv',rfl,rfl⟩
  ·have h0': ¬(stB x.st.toNat).1.toList=[102,114,101,101]:=jkr hst h0
   refine yr35 ?_
   exact KE.again ⟨k+1⟩ jg ja ⟨hlt,fun j y (hj:j<k+1) hy=>by
    rcases Nat.lt_or_ge j k with h|h
    ·exact hN j y h hy
    ·have:j=k:=by omega
     subst this
     rw[hx] at hy;cases hy;exact h0⟩ (by show L.length-(k+1)<L.length-k;omega)
 ·have hF:=jjQ (T:=L) (fun j y hy=>hN j y (by have:=jl hy;omega) hy)
  have h1:JT L=(0,0,131):=by unfold JT;rw [hF]
  have h2:jS L s=L:=by unfold jS;rw [hF]
  rw[h1,h2];refine yr26 ?_;exact KE.fin jd rfl jc ja ⟨v,[],hS,hv,rfl,rfl⟩
theorem jkG {i:Nat} {e:jk} (hS:Sli w0 D wE v L) (hv:v.oneCell'=true) (hl:L.length<=1024) (he:L[i]?=some e) (h1:e.st=1):
  Cs w0 137 [.agg [v, .int .i64 gens].toArray, .int .i64 (i:Nat), .int .u32 e.gen] (D++F) (.tuple [.int .i64 e.slot, .int .i64 0].toArray):=by
 have hil:=jl he
 refine en3 44 Tryz.func137 ?_;refine yr3 ?_;intro b3;refine yr11 ?_;refine K.loopT (σ:=MiS) [(1,_),(2,_),(3,_)] (fun s kp_=>(8, .int .i64 (s.k:Nat))::kp_) (fun s=>(b3,cells [v, .int .i64 gens] 45)::(D++F)) (fun s=>s.k<=i) (fun s=>i+1-s.k) (⟨0⟩) jg ja (Nat.zero_le _) ?_;rintro⟨k⟩ hk;dsimp only at hk|-
 have hlt:k<L.length:=by omega
 by_cases hki:k=i
 ·subst hki
  have h2:(stB e.st.toNat).1.toList=[108,105,118,101]:=by rw[h1];rfl
  have h3:((k:Nat):Int)=(k:Nat):=rfl
  refine yr60 ?_;exact zd
 ·have h3: ¬((k:Nat):Int)=(i:Nat):=by omega
  refine yr50 ?_;exact KE.again ⟨k+1⟩ jg ja (by show k+1<=i;omega) (by show i+1-(k+1)<i+1-k;omega)
theorem rDrop_K {i:Nat} {e:jk} (hS:Sli w0 D wE v L) (hv:v.oneCell'=true) (hl:L.length<=1024) (he:L[i]?=some e) (h1:e.st=1):
  Call Tryz.prog w0 74 [.agg [v, .int .i64 gens].toArray, .int .i64 (i:Nat), .int .u32 e.gen] (D++F)
   (fun r H'=> ∃ (v':Value) (N:jb),Sli w0 (N++D) wE v' (L.set i ⟨2,0,e.gen⟩)/\v'.oneCell'=true/\r= .tuple [.agg [v', .int .i64 gens].toArray, .int .i64 e.slot, .int .i64 0].toArray/\H'=N++(D++F)):=by
 have hil:=jl he
 refine en3 28 Tryz.func74 ?_
 (iterate 16 first|refine yS ?_|intro _)
 refine ji (jkG hS hv hl he h1) ja ?_;refine yr24 ?_;refine je (jf5 (x:=⟨2,0,e.gen⟩) hS hv hl hil) ja ?_;rintro _ _ ⟨v',N,hS',hv',rfl,rfl⟩;refine yr7 ?_;exact KE.fin jd rfl jc ja ⟨v',N,hS',hv',rfl,rfl⟩
structure NxS where
 k:Nat
 o:Own
def jal:jk:=⟨0,0,1⟩
theorem jky {n:Nat} {H:jb} (hn:1<=n/\n<=1024) (hg:1<=gens/\gens<=2147483648):
  Call Tryz.prog w0 47 [.int .i64 (n:Nat), .int .i64 gens] H
   (fun r H'=> ∃ o,oOk wE (List.replicate n jal) o/\r= .tuple [.agg [oV o (List.replicate n jal).length, .int .i64 gens].toArray, .int .i64 0].toArray/\H'=oH wE 202 (List.replicate n jal) o++H):=by
 have h1: ¬((n:Nat):Int)<1:=by omega
 have h2: ¬((n:Nat):Int)>1024:=by omega
 refine en2 37 Tryz.func47 ?_;refine yr3 ?_;intro b4;refine yr30 ?_;intro b6;refine yr10 ?_;refine K.loopT (σ:=NxS) [(0,_),(4,_),(6,_)] (fun s kp_=>(7, .int .i64 (s.k:Nat))::kp_) (fun s=>oH wE 202 (List.replicate s.k jal) s.o++((b6,cells [oV s.o (List.replicate s.k jal).length, .int .i64 gens] 45)::(b4,cells [.slice none 0 0, .int .i64 0] 45)::H)) (fun s=>s.k<=n/\oOk wE (List.replicate s.k jal) s.o) (fun s=>n-s.k) (⟨0,none⟩) jg ja (⟨Nat.zero_le _,rfl⟩) ?_;rintro⟨k,o⟩ ⟨hk,ok⟩;dsimp only at hk ok|-
 by_cases hlt:k<n
 ·refine yr13 ?_;refine zg ?_
  (iterate 5 first|refine yS ?_|intro _)
  refine KL.e rfl (Eff.appZ (E:=wE) (xs:=List.replicate k jal) (o:=o) (ys:=[jal]) (zs:=List.replicate (k+1) jal) rfl rfl rfl rfl rfl rfl jt bh ba (List.replicate_succ'.symm) be rfl) ?_;rintro _ _ ⟨o',ok',rfl,rfl⟩;refine yr10 ?_;exact KE.again ⟨k+1,o'⟩ jg ja ⟨hlt,ok'⟩ (by show n-(k+1)<n-k;omega)
 ·have:k=n:=by omega
  subst this;refine yr22 ?_;exact KE.fin jd rfl jc ja ⟨o,ok,rfl,rfl⟩
end
theorem jjP {T:List jk}:JN (T.map j5)=JN T:=by
 unfold JN;rw[List.findIdx?_map]
 congr 1
 funext e
 simp only[Function.comp,(jbn e).1]
theorem gen_doc {T:List jk} {i:Nat}:genA (T.map j5) i=genA T i:=by
 unfold genA;rw[List.getElem?_map]
 cases T[i]? with
 |none=>rfl
 |some e=>exact(jbn e).2
theorem mint_doc {T:List jk} {s:Int}:jS (T.map j5) s=(jS T s).map j5:=by
 unfold jS;rw[jjP]
 split
 ·rw[gen_doc,List.map_set];rfl
 ·rfl
theorem drop_doc {T:List jk} {i:Nat} {e:jk} (he:T[i]?=some e) (h1:e.st=1):(T.map j5).set i ⟨2,0,e.gen⟩=(Jr T i).map j5:=by
 unfold Jr;rw[if_pos bc,Int.toNat_natCast,he];dsimp only;rw[if_pos h1,List.map_set];rfl
structure KmV where
 c:Value
 u:GyV
 h:Value
def kmL (v:PlV) (g:PlG) (long:Nat) (q:KmV) (m:MaP):List Value:=[q.c,v.L,v.F,v.M, .int .i64 (g.words:Nat),v.C, .int .i64 (long:Nat),q.u.Q,q.u.ow,q.u.di, .int .i64 (pgI m.G), .int .i64 (m.G.at_:Nat),q.h, .int .i64 (m.root:Nat), .bool m.act, .int .i64 (m.steps:Nat)]
structure KmD (w0:World) (D:jb) (q:KmV) (m:MaP):Prop where
 C:Sli w0 D bE q.c m.C
 G:GyD w0 D q.u m.G
 H:Sli w0 D Jn q.h m.hs
 oc:q.c.oneCell'=true
 oh:q.h.oneCell'=true
theorem KmD.part {w0:World} {D D':jb} {q:KmV} {m:MaP} (h:KmD w0 D q m) (hp:Part D' D):KmD w0 D' q m:=⟨h.C.part hp,h.G.part hp,h.H.part hp,h.oc,h.oh⟩
def KmG (w0:World) (D F:jb) (v:PlV) (g:PlG) (long:Nat) (m':MaP) (f:Value->Value) (r:Value) (H':jb):Prop:=
 ∃ (q':KmV) (N:jb),KmD w0 (N++D) q' m'/\r=f (.agg (kmL v g long q' m').toArray)/\H'=N++(D++F)
section
variable {w0 : World} {D F : jb} {v : PlV} {g : PlG} {long : Nat} {q : KmV} {m : MaP} {W : MwP}
theorem jf7 {s:Nat} (hP:jad w0 D v g) (ok:jh g) (hK:KmD w0 D q m) (hm:jw g long W m) (hlg:long<=64) (hs:s<g.slots):
  Call Tryz.prog w0 182 [.agg (kmL v g long q m).toArray, .int .i64 (s:Nat)] (D++F) (KmG w0 D F v g long (Jt g long m (s:Nat)) id):=by
 have q1:=hP.oL
 have q2:=hP.oF
 have q3:=hP.oM
 have q4:=hP.oC
 have q5:=hK.G.o1
 have q6:=hK.G.o2
 have q7:=hK.G.o3
 have q8:=hK.oc
 have q9:=hK.oh
 have hsl:=ok.slots
 obtain⟨c,hc⟩:=jq (l:=m.C) (k:=s) (by rw[hm.C];exact hs)
 have hcl:m.C.length<=65536:=by rw[hm.C];omega
 have hsh:=fun A=>jmo (w0:=w0) (D:=D) (F:=A) hK.C hK.oc hc hcl
 unfold KmG id
 by_cases h0:c=0
 ·have hsm:Jt g long m (s:Nat)={m with C:=m.C.set s 1,G:=JP g long m.G s}:=by
   unfold Jt;rw[Int.toNat_natCast,hc,h0,if_pos ⟨by omega,rfl⟩]
  rw[hsm];rw[if_pos h0,decide_eq_true h0] at hsh;unfold kmL;dsimp only;refine en2 34 Tryz.func182 ?_
  (iterate 6 first|refine yS ?_|intro _);refine yq7 fun T hT=>?_
  refine(CallV.part (CallV.fn (hsh _)) ja).mono ?_;rintro _ _ ⟨vc',N1,hC',ov',rfl,rfl⟩
  have hput:=fun A=>ryPut_K (w0:=w0) (D:=N1++D) (F:=A) (hP.part ja) (hK.G.part ja) hm.G ok hlg hs
  unfold gyL at hput;refine ze ?_;clear hT T;refine yr36 ?_;refine je (hput _) bz ?_;rintro _ _ ⟨u',N2,hG',rfl,rfl⟩
  have p5:=hG'.o1
  have p6:=hG'.o2
  have p7:=hG'.o3
  refine yr14 ?_;exact KE.fin (H':=(N2++N1)++(D++F)) jd rfl jc bf ⟨⟨vc',u',q.h⟩,N2++N1,⟨hC'.part bf,by simp only[List.append_assoc];exact hG',hK.H.part bf,ov',q9⟩,rfl,rfl⟩
 ·have hsm:Jt g long m (s:Nat)=m:=by
   unfold Jt;rw[Int.toNat_natCast,hc,if_neg];rintro⟨_,h⟩;cases h;exact h0 rfl
  rw[hsm];rw[if_neg h0,decide_eq_false h0] at hsh;unfold kmL;refine en2 34 Tryz.func182 ?_
  (iterate 14 first|refine yS ?_|intro _)
  refine je (hsh _) ja ?_;rintro _ _ ⟨vc',N1,hC',ov',rfl,rfl⟩;refine yr29 ?_;exact zU
theorem jmz {s:Nat} (hP:jad w0 D v g) (ok:jh g) (hK:KmD w0 D q m) (hm:jw g long W m) (hlg:long<=64) (hs:s<g.slots):
  Call Tryz.prog w0 142 [.agg (kmL v g long q m).toArray, .int .i64 (s:Nat)] (D++F) (KmG w0 D F v g long (ja3 g long m (s:Nat)) id):=by
 have q1:=hP.oL
 have q2:=hP.oF
 have q3:=hP.oM
 have q4:=hP.oC
 have q5:=hK.G.o1
 have q6:=hK.G.o2
 have q7:=hK.G.o3
 have q8:=hK.oc
 have q9:=hK.oh
 have hsh:=fun A=>jf7 (w0:=w0) (F:=A) hP ok hK hm hlg hs
 unfold KmG id ja3 at*
 cases ha:m.act with
 |false=>
  simp only[Bool.false_eq_true,if_false];unfold kmL;rw[ha];refine en2 12 Tryz.func142 ?_
  (iterate 25 first|refine yS ?_|intro _)
  exact zU
 |true=>
  simp only[if_true];unfold kmL at*;rw[ha] at hsh|-;refine en2 12 Tryz.func142 ?_
  (iterate 24 first|refine yS ?_|intro _)
  refine je (hsh _) ja ?_;rintro _ _ ⟨q',N,hK',rfl,rfl⟩
  have p5:=hK'.G.o1
  have p6:=hK'.G.o2
  have p7:=hK'.G.o3
  have p8:=hK'.oc
  have p9:=hK'.oh
  refine yr4 ?_;exact za1
theorem jd1 {i:Nat} {h:J3} (hP:jad w0 D v g) (hK:KmD w0 D q m) (hm:jw g long W m) (hi:i<m.hs.length):
  Call Tryz.prog w0 184 [.agg (kmL v g long q m).toArray, .int .i64 (i:Nat), .agg [.int .i64 h.slot, .int .i64 h.field, .bool h.is].toArray] (D++F) (KmG w0 D F v g long {m with hs:=m.hs.set i h} id):=by
 have q1:=hP.oL
 have q2:=hP.oF
 have q3:=hP.oM
 have q4:=hP.oC
 have q5:=hK.G.o1
 have q6:=hK.G.o2
 have q7:=hK.G.o3
 have q8:=hK.oc
 have q9:=hK.oh
 have hH:=hK.H
 have h9:=hm.hs
 obtain⟨z,hz⟩:=jq hi
 unfold KmG id kmL;dsimp only;refine en3 19 Tryz.func184 ?_
 (iterate 16 first|refine yS ?_|intro _)
 refine KL.e rfl (Eff.appLit (E:=Jn) (ys:=m.hs) rfl rfl rfl rfl rfl rfl rfl jK ba be rfl) ?_;rintro _ _ ⟨o',ok',rfl,rfl⟩;refine yr3 ?_;refine zg ?_;refine yr4 ?_;refine KL.eN (Eff.stSlA (x1:=h) rfl rfl rfl rfl jt bh bh) ?_;rintro _ _ rfl;refine yr16 ?_;exact KE.fin (H':=oH Jn 306 (m.hs.set i h) o'++(D++F)) jd rfl jc ja ⟨⟨q.c,q.u,oV o' m.hs.length⟩,oH Jn 306 (m.hs.set i h) o',⟨hK.C.part ja,hK.G.part ja,Sli.own jt (ok'.set i h) bF,q8,jJ _ _⟩,rfl,rfl⟩
end
structure WyS where
 u:GyV
 G:GyP
 k:Nat
 N:jb
section
variable {w0 : World} {D F : jb} {v : PlV} {g : PlG} {long : Nat} {u : GyV} {G : GyP}
theorem ryWalk_K (hP:jad w0 D v g) (hY:GyD w0 D u G) (hok:J4 g long G) (ok:jh g) (hlg:long<=64):
  Call Tryz.prog w0 186 [.agg (gyL v g long u G).toArray] (D++F)
   (fun r H'=>(walkG g G=none/\r= .tuple [.agg (gyL v g long u G).toArray, .int .i64 0, .bool false, .bool false].toArray/\H'=D++F)\/ ∃ (o:Option Nat) (G':GyP) (u':GyV) (N:jb),walkG g G=some (o,G')/\GyD w0 (N++D) u' G'/\r= .tuple [.agg (gyL v g long u' G').toArray, .int .i64 (nxI o), .bool o.isSome, .bool true].toArray/\H'=N++(D++F)):=by
 have q1:=hP.oL
 have q2:=hP.oF
 have q3:=hP.oM
 have q4:=hP.oC
 have q5:=hY.o1
 have q6:=hY.o2
 have q7:=hY.o3
 have hFi:=hP.F
 have hMa:=hP.M
 have hQ:=hY.Q
 have hdir:=fun A=>jmm (w0:=w0) (F:=A) hP hY hok ok
 have hcop:=fun A=>jes (w0:=w0) (F:=A) hP hY hok ok hlg
 have l4:=jdA G.q
 have hsl:=ok.slots
 have hpp:=ok.pages
 unfold gyL at hdir hcop|-;dsimp only at hcop;refine en1 74 Tryz.func186 ?_;refine yr3 ?_;intro b1;refine yr1 ?_;intro b2;refine yr5 ?_;refine K.cutT (σ:=WyS) [(1,_),(2,_)] jg (fun s kp_=>kp_) (fun s=>s.N++(D++((b1,cells [v.L,v.F,v.M, .int .i64 (g.words:Nat),v.C, .int .i64 (long:Nat),s.u.Q,s.u.ow,s.u.di, .int .i64 (s.k:Nat), .int .i64 (s.G.at_:Nat)] 50)::(b2,cells [.slice none 0 0, .slice none 0 0, .slice none 0 0, .int .i64 0, .slice none 0 0, .int .i64 0, .slice none 0 0, .slice none 0 0, .slice none 0 0, .int .i64 0, .int .i64 0] 50)::F))) (fun s=>GyD w0 (s.N++D) s.u s.G/\J4 g long s.G/\s.G.pg=some s.k/\openG G=some (s.k,s.G)) ?_ ?_
 ·cases hp:G.pg with
  |some k=>
   have hpi:pgI G=(k:Nat):=by unfold pgI;rw [hp]
   have hge: ¬((k:Nat):Int)<0:=by omega
   rw[hpi];refine yr9 ?_;exact KE.meet ⟨u,G,k,[]⟩ jg ja ⟨hY,hok,hp,by unfold openG;rw [hp]⟩
  |none=>
   have hpi:pgI G= -1:=by unfold pgI;rw [hp]
   have hat:=hok.no hp
   rw[hpi] at hdir hcop|-;refine yr12 ?_;refine ji (hdir _) ja ?_
   cases hq:G.q with
   |cons s qq=>
    have hl':((natI G.q).length:Int)>0:=by rw[hq] at l4;simp at l4;rw [hq];omega
    have hno:walkG g G=none:=by unfold walkG openG;rw [hp,hq];rfl
    refine yr29 ?_;exact KE.fin jd rfl jc ja (.inl ⟨hno,rfl,rfl⟩)
   |nil=>
    have hl': ¬((natI G.q).length:Int)>0:=by rw[hq];decide
    cases hn:nextB G.di 0 true with
    |none=>
     have hno:walkG g G=none:=by unfold walkG openG;rw [hp,hq];dsimp only;rw [hn];rfl
     dsimp only;refine yr29 ?_;exact KE.fin jd rfl jc ja (.inl ⟨hno,rfl,rfl⟩)
    |some k=>
     obtain⟨n1,n2,n3,n4⟩:=jck hn
     have hk:k<g.pages:=by rw[<-hok.di];exact n1
     obtain⟨z1,hz1⟩:=jq n1
     have hge: ¬((k:Nat):Int)<0:=by omega
     have hop:openG G=some (k,{G with di:=G.di.set k false,pg:=some k,at_:=0}):=by unfold openG;rw [hp,hq];dsimp only;rw [hn]
     have hok1:=(jdU ok hok hop).1
     dsimp only;refine yr23 ?_;refine je (hcop _) ja ?_;rintro _ _ ⟨o1,o2,o3,k1,k2,k3,rfl,rfl⟩;refine yr23 ?_;exact KE.meet ⟨⟨oV o1 (natI G.q).length,oV o2 G.ow.length,oV o3 G.di.length⟩,{G with di:=G.di.set k false,pg:=some k,at_:=0},k,oH boE 4 (G.di.set k false) o3++(oH boE 4 G.ow o2++oH iE 3 (natI G.q) o1)⟩ jg bf
      ⟨⟨Sli.own bp k1 rfl,Sli.own bp k2 rfl,Sli.own bp (k3.set _ _) bF,jJ _ _,jJ _ _,jJ _ _⟩,hok1,rfl,hop⟩
 ·rintro⟨u1,G1,k,N1⟩ ⟨hY1,hok1,hk1,hop⟩;dsimp only at hY1 hok1 hk1 hop|-
  have p5:=hY1.o1
  have p6:=hY1.o2
  have p7:=hY1.o3
  have hpi:pgI G1=(k:Nat):=by unfold pgI;rw [hk1]
  have hcop1:=fun A=>jes (w0:=w0) (D:=N1++D) (F:=A) (hP.part ja) hY1 hok1 ok hlg
  unfold gyL at hcop1;dsimp only at hcop1;rw[hpi] at hcop1
  obtain⟨c1,c2⟩:=hok1.pg k hk1
  obtain⟨b1',b2',b3'⟩:=jcL ok c1
  have hfl:=jfW (g:=g)
  have hml:=jiD (g:=g)
  have hfp:=fp_get (g:=g) c1
  have hmp:=mp_get (g:=g) c1
  have hs:g.fp k+G1.at_<g.slots:=by omega
  have e1:((g.fp k:Nat):Int)+((G1.at_:Nat):Int)=((g.fp k+G1.at_:Nat):Int):=by omega
  have e2:((G1.at_:Nat):Int)+1=((G1.at_+1:Nat):Int):=by omega
  obtain⟨a,ha⟩: ∃ a,g.fp k+G1.at_=a:=⟨_,rfl⟩
  have hal:a<G1.ow.length:=by rw[hok1.ow];omega
  obtain⟨wb,hwb⟩:=jq hal
  have hw:walkG g G=some (walk1 g k G1):=by unfold walkG;rw [hop];rfl
  have hwG:(G1.ow[g.fp k+G1.at_]?).getD false=wb:=by rw[ha,hwb];rfl
  rw[hw];unfold walk1;rw[hwG,ha];rw[ha] at e1;refine yr4 ?_;refine je (hcop1 _) bz ?_;rintro _ _ ⟨o1,o2,o3,k1,k2,k3,rfl,rfl⟩;simp only[List.append_assoc];refine yr4 ?_;refine zE ?_;refine yr13 ?_;rw[e1]
  by_cases h:G1.at_+1=g.mp k
  ·have h':((G1.at_:Nat):Int)+1=(g.mp k:Nat):=by omega
   rw[if_pos h,if_pos h]
   cases wb with
   |true=>
    refine yr30 ?_;refine zab ?_;refine yr45 ?_;exact KE.fin (H':=((oH boE 4 G1.di o3++(oH boE 4 (G1.ow.set a false) o2++oH iE 3 (natI G1.q) o1))++N1)++(D++F)) jd rfl jc bf
     (.inr ⟨some a,{G1 with ow:=G1.ow.set a false,pg:=none,at_:=0},⟨oV o1 (natI G1.q).length,oV o2 G1.ow.length,oV o3 G1.di.length⟩,(oH boE 4 G1.di o3++(oH boE 4 (G1.ow.set a false) o2++oH iE 3 (natI G1.q) o1))++N1,by simp only[if_true],⟨Sli.own bp k1 rfl,Sli.own bp (k2.set _ _) bF,Sli.own bp k3 rfl,jJ _ _,jJ _ _,jJ _ _⟩,rfl,by simp only[List.append_assoc]⟩)
   |false=>
    refine yr30 ?_;refine zab ?_;refine yr43 ?_;exact KE.fin (H':=((oH boE 4 G1.di o3++(oH boE 4 (G1.ow.set a false) o2++oH iE 3 (natI G1.q) o1))++N1)++(D++F)) jd rfl jc bf
     (.inr ⟨none,{G1 with ow:=G1.ow.set a false,pg:=none,at_:=0},⟨oV o1 (natI G1.q).length,oV o2 G1.ow.length,oV o3 G1.di.length⟩,(oH boE 4 G1.di o3++(oH boE 4 (G1.ow.set a false) o2++oH iE 3 (natI G1.q) o1))++N1,by simp only[Bool.false_eq_true,if_false],⟨Sli.own bp k1 rfl,Sli.own bp (k2.set _ _) bF,Sli.own bp k3 rfl,jJ _ _,jJ _ _,jJ _ _⟩,rfl,by simp only[List.append_assoc]⟩)
  ·have h': ¬((G1.at_:Nat):Int)+1=(g.mp k:Nat):=by omega
   rw[if_neg h,if_neg h]
   cases wb with
   |true=>
    refine yr30 ?_;refine zab ?_;refine yr36 ?_;rw[e2];exact KE.fin (H':=((oH boE 4 G1.di o3++(oH boE 4 (G1.ow.set a false) o2++oH iE 3 (natI G1.q) o1))++N1)++(D++F)) jd rfl jc bf
     (.inr ⟨some a,{G1 with ow:=G1.ow.set a false,pg:=some k,at_:=G1.at_+1},⟨oV o1 (natI G1.q).length,oV o2 G1.ow.length,oV o3 G1.di.length⟩,(oH boE 4 G1.di o3++(oH boE 4 (G1.ow.set a false) o2++oH iE 3 (natI G1.q) o1))++N1,by simp only[if_true],⟨Sli.own bp k1 rfl,Sli.own bp (k2.set _ _) bF,Sli.own bp k3 rfl,jJ _ _,jJ _ _,jJ _ _⟩,rfl,by simp only[List.append_assoc]⟩)
   |false=>
    refine yr30 ?_;refine zab ?_;refine yr34 ?_;rw[e2];exact KE.fin (H':=((oH boE 4 G1.di o3++(oH boE 4 (G1.ow.set a false) o2++oH iE 3 (natI G1.q) o1))++N1)++(D++F)) jd rfl jc bf
     (.inr ⟨none,{G1 with ow:=G1.ow.set a false,pg:=some k,at_:=G1.at_+1},⟨oV o1 (natI G1.q).length,oV o2 G1.ow.length,oV o3 G1.di.length⟩,(oH boE 4 G1.di o3++(oH boE 4 (G1.ow.set a false) o2++oH iE 3 (natI G1.q) o1))++N1,by simp only[Bool.false_eq_true,if_false],⟨Sli.own bp k1 rfl,Sli.own bp (k2.set _ _) bF,Sli.own bp k3 rfl,jJ _ _,jJ _ _,jJ _ _⟩,rfl,by simp only[List.append_assoc]⟩)
