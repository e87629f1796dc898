/-The walker and the contracts that the law needs,part 18. -/
import Derived.Test.YtpcgafhgfjlkmaaGreatDoorD1
import Derived.ArgAppend
import Derived.ChangeMaps5
import Derived.Deep.Fields
import Derived.Deep.LoopGhost
import Derived.Deep.OwnRows
import Derived.Deep.Quiet
import Derived.Deep.Slices
import Derived.IntWalk
import Derived.Laws.Cells
import Derived.Laws.CopyOwn
import Derived.Laws.Externs
import Derived.Laws.FloatArith
import Derived.Laws.IdiomStrings
import Derived.Laws.NewFold
import Derived.Laws.StructEq
import Derived.Lib.BitFns
import Derived.Lib.Hide
import Derived.Lib.SmallJoins
import Derived.Lib.TrailingZeros
import Derived.Maps.RangeRun
import Derived.OrdersIn
import Derived.ProofKit
import Derived.RangeFuncBound
import Derived.RangeFuncCalls
import Derived.RangeFuncLeaves
import Derived.RangeFuncNested
import Derived.RecoverIn
import Derived.Shelf.Bits.Mul64
import Derived.Shelf.Slices.Turned
import Derived.Shelf.Spec.TrailingZeros
import Derived.Shelf.Strconv.Itoa0
import Derived.SizedLaws
import Derived.Sort.BigQuietIn
import Derived.StillTailTactics
import Derived.Test.YtpcgafhgfjlkmaaGreatDoorProg
import Derived.WalkKit
import Derived.Test.YtpcgafhgfjlkmaaGreatDoorJ15
import Derived.Test.YtpcgafhgfjlkmaaGreatDoorJ16
set_option linter.unusedVariables false set_option linter.unusedSimpArgs false set_option linter.unusedVariables false
set_option linter.unusedSimpArgs false
namespace Go.Proofs.YtpcgafhgfjlkmaaGreatDoor.Sw
set_option maxHeartbeats 8000000
open Go.Proofs.YtpcgafhgfjlkmaaGreatDoor renaming lo → qL, hi → qH
open Go.RowKit
set_option maxRecDepth 10000
structure HdP where
 c:Int
 r:Int
 w:Int
def hdV (h:HdP):Value:= .agg [.int .i64 h.c, .int .i64 h.r, .int .i64 h.w].toArray
def Jd (h:HdP):Bool:=decide (0≤h.c∧h.c<8∧0≤h.r∧0≤h.w∧h.r≤63∧h.w≤63-h.r)
theorem jgo {w0:World} {H:jb} {h:HdP}:Call Tryz.prog w0 110 [hdV h] H (fun r H'=>r= .bool (Jd h)∧H'=H):=by
 obtain⟨c,r,w⟩:=h
 unfold hdV
 have yes:(0≤c∧c<8∧0≤r∧0≤w∧r≤63∧w≤63-r)→Jd ⟨c,r,w⟩=true:=fun h=>decide_eq_true h
 have no: ¬(0≤c∧c<8∧0≤r∧0≤w∧r≤63∧w≤63-r)→Jd ⟨c,r,w⟩=false:=fun h=>decide_eq_false h
 refine Call.enter1 (n:=34) (by rfl) Tryz.func110 rfl rfl rfl ?_
 by_cases h1:c≥0
 ·by_cases h2:c<8
  ·by_cases h3:r≥0
   ·by_cases h4:w≥0
    ·by_cases h5:r≤63
     ·by_cases h6:w≤63-r
      ·rw[yes ⟨h1,h2,h3,h4,h5,h6⟩];refine zgN ?_;intro b1;refine zld ?_;refine zab ?_;refine zf5 ?_;refine zcR ?_;refine zaz ?_;refine zeB ?_;refine zam ?_;refine zcR ?_;refine zbh ?_;refine zfo ?_;refine zam ?_;exact zdl
      ·refine zeH ?_;intro b1;refine zab ?_;refine zf5 ?_;refine zcR ?_;refine zaz ?_;refine zeB ?_;refine zam ?_;refine zcR ?_;refine zbh ?_;refine zfo ?_;refine zcr ?_;exact zdl
     ·refine zeH ?_;intro b1;refine zab ?_;refine zf5 ?_;refine zcR ?_;refine zaz ?_;refine zeB ?_;refine zcr ?_;refine zw ?_;exact zeF
    ·refine zeH ?_;intro b1;refine zab ?_;refine zf5 ?_;refine zcR ?_;refine zbO ?_;refine zgb ?_;exact zeF
   ·refine zeH ?_;intro b1;refine zab ?_;refine zeB ?_;refine zbO ?_;refine zgb ?_;refine zax ?_;exact zeF
  ·refine zeH ?_;intro b1;refine zT ?_;refine zgb ?_;refine zax ?_;refine zax ?_;exact zeF
 ·refine zk6 ?_;intro b1;refine zbO ?_;refine zax ?_;refine zax ?_;refine zax ?_;refine zax ?_;exact zeF
theorem wd_ok:WsOk wdL:=⟨by decide,by decide,by decide⟩
theorem jk0 {w0:World} {H:jb} (hG:js w0):SeesA w0 H ⟨0,0,none⟩ 5 [.int .i64 16, .int .i64 16, .int .i64 16, .int .i64 8, .int .i64 8]:=by
 refine⟨rfl,fun j v hj=>jI.old ?_⟩
 match j,hj with
 |0,hj=>cases hj;exact hG.wd 0 16 rfl
 |1,hj=>cases hj;exact hG.wd 1 16 rfl
 |2,hj=>cases hj;exact hG.wd 2 16 rfl
 |3,hj=>cases hj;exact hG.wd 3 8 rfl
 |4,hj=>cases hj;exact hG.wd 4 8 rfl
 |j+5,hj=>grind
def putN (c r w:Nat):Nat:=w*2^16+r*2^32+c*2^48+199*2^56
theorem pack_put (c r w:Nat):packK wdL [0,w,r,c,199] 5=putN c r w:=by
 have h2:=jcq (ws:=wdL) (vs:=[0,w,r,c,199]) (k:=1) rfl
 have h3:=jcq (ws:=wdL) (vs:=[0,w,r,c,199]) (k:=2) rfl
 have h4:=jcq (ws:=wdL) (vs:=[0,w,r,c,199]) (k:=3) rfl
 have h5:=jcq (ws:=wdL) (vs:=[0,w,r,c,199]) (k:=4) rfl
 simp_all[packK,wdL,putN]
theorem packed_K {w0:World} {H:jb} {vv:Value} {c r w:Nat} (hG:js w0) (hc8:c<8) (hr:r<64) (hw:w<64) (hV:Sli w0 H uE vv (natL [0,w,r,c,199])) (hc:vv.cells=[vv].toArray):
  Call Tryz.prog w0 276 [vv] H (fun u H'=>u= .int .u64 (putN c r w:Nat)∧H'=H):=by
 have hwd:=jk0 (H:=H) hG
 refine Call.enter1 (n:=14) (by rfl) Tryz.func276 rfl rfl rfl ?_;refine z7 ?_;refine ze5 ?_;refine zaH ?_;intro b3;refine KL.v rfl (Val.sliceA rfl rfl rfl) ?_;refine zx fun T hT=>?_;refine(CallV.fn (Pack_K (ws:=wdL) (vs:=[0,w,r,c,199]) wd_ok rfl ?_ (Sli.blk jF rfl (by decide) (by decide) rfl) (hV.part ja) hc)).mono ?_
 ·grind[hi,wdL]
 ·rintro _ _ ⟨rfl,rfl⟩;rw[show packK wdL [0,w,r,c,199] wdL.length=putN c r w from pack_put c r w];refine zd ?_;clear hT T;refine zcZ ?_;exact zt
theorem Put_K {w0:World} {H:jb} {h:HdP} (hG:js w0) (hm:Jd h=true):
  Call Tryz.prog w0 238 [hdV h] H (fun u H'=>u= .tuple [.int .u64 (putN h.c.toNat h.r.toNat h.w.toNat:Nat), .int .i64 0].toArray∧H'=H):=by
 obtain⟨c,r,w⟩:=h
 have hb:0≤c∧c<8∧0≤r∧0≤w∧r≤63∧w≤63-r:=of_decide_eq_true hm
 obtain⟨c,rfl⟩: ∃ q:Nat,c=q:=⟨c.toNat,by omega⟩
 obtain⟨r,rfl⟩: ∃ q:Nat,r=q:=⟨r.toNat,by omega⟩
 obtain⟨w,rfl⟩: ∃ q:Nat,w=q:=⟨w.toNat,by omega⟩
 have hu:hdV ⟨(c:Int),(r:Int),(w:Int)⟩= .agg [.int .i64 (c:Int), .int .i64 (r:Int), .int .i64 (w:Int)].toArray:=rfl
 rw[hu];dsimp only[Int.toNat_natCast];refine Call.enter1 (n:=18) (by rfl) Tryz.func238 rfl rfl rfl ?_;refine zcj ?_;intro b1;refine zc2 fun T hT=>?_;refine(CallV.fn (jgo (h:=⟨(c:Int),(r:Int),(w:Int)⟩))).mono ?_;rintro _ _ ⟨rfl,rfl⟩;rw[hm];refine zd ?_;clear hT T;refine zeX ?_;refine zI ?_;refine ze2 ?_;refine zF ?_;refine ze2 ?_;refine zB ?_;refine ze2 ?_;refine zaj ?_;intro b16;refine zn ?_;refine jq (packed_K (c:=c) (r:=r) (w:=w) hG (by omega) (by omega) (by omega) (Sli.blk jF rfl (by simp[natL]) (by decide) rfl) rfl) ?_;exact zb8
def getH (w:Nat):Option HdP:=
 if w%2^16=0∧w/2^56%2^8=199∧Jd ⟨((w/2^48%2^8:Nat):Int),((w/2^32%2^16:Nat):Int),((w/2^16%2^16:Nat):Int)⟩=true then some ⟨((w/2^48%2^8:Nat):Int),((w/2^32%2^16:Nat):Int),((w/2^16%2^16:Nat):Int)⟩ else none
theorem dig_wd (w:Nat):digK wdL w 5=[w%2^16,w/2^16%2^16,w/2^32%2^16,w/2^48%2^8,w/2^56%2^8]:=by
 have h1:=jct (ws:=wdL) (w:=w) (k:=0) rfl
 have h2:=jct (ws:=wdL) (w:=w) (k:=1) rfl
 have h3:=jct (ws:=wdL) (w:=w) (k:=2) rfl
 have h4:=jct (ws:=wdL) (w:=w) (k:=3) rfl
 have h5:=jct (ws:=wdL) (w:=w) (k:=4) rfl
 have e0:digK wdL w 0=[]:=rfl
 rw[show(wdL.take 0).sum=0 from rfl,Nat.pow_zero,Nat.div_one] at h1;rw[show(wdL.take 1).sum=16 from rfl] at h2;rw[show(wdL.take 2).sum=32 from rfl] at h3;rw[show(wdL.take 3).sum=48 from rfl] at h4;rw[show(wdL.take 4).sum=56 from rfl] at h5;rw[h5,h4,h3,h2,h1,e0]
 rfl
def hGetP (w:Nat):Value:=match getH w with
 |some h=> .tuple [hdV h, .int .i64 0].toArray
 |none=> .tuple [hdV ⟨0,0,0⟩, .int .i64 5].toArray
theorem hGet_K {w0:World} {H:jb} {w:Nat} (hG:js w0) (hw:w<18446744073709551616):
  Call Tryz.prog w0 72 [.int .u64 (w:Nat)] H (fun u H'=>u=hGetP w∧H'=H):=by
 obtain⟨d0,hd0⟩: ∃ d,d=w%2^16:=⟨_,rfl⟩
 obtain⟨d1,hd1⟩: ∃ d,d=w/2^16%2^16:=⟨_,rfl⟩
 obtain⟨d2,hd2⟩: ∃ d,d=w/2^32%2^16:=⟨_,rfl⟩
 obtain⟨d3,hd3⟩: ∃ d,d=w/2^48%2^8:=⟨_,rfl⟩
 obtain⟨d4,hd4⟩: ∃ d,d=w/2^56%2^8:=⟨_,rfl⟩
 have b1:d1<65536:=by omega
 have b2:d2<65536:=by omega
 have b3':d3<256:=by omega
 have hg:getH w=if d0=0∧d4=199∧Jd ⟨(d3:Int),(d2:Int),(d1:Int)⟩=true then some ⟨(d3:Int),(d2:Int),(d1:Int)⟩ else none:=by grind[getH]
 obtain⟨D,hD⟩: ∃ D,D=natL (digK wdL w wdL.length):=⟨_,rfl⟩
 have hD':D=[(d0:Int),(d1:Int),(d2:Int),(d3:Int),(d4:Int)]:=by
  rw[hD,show wdL.length=5 from rfl,dig_wd,←hd0,←hd1,←hd2,←hd3,←hd4];rfl
 have hDl:D.length=5:=by grind
 have x0:D[Int.toNat 0]?=some (d0:Int):=by grind
 have x1:D[Int.toNat 1]?=some (d1:Int):=by grind
 have x2:D[Int.toNat 2]?=some (d2:Int):=by grind
 have x3:D[Int.toNat 3]?=some (d3:Int):=by grind
 have x4:D[Int.toNat 4]?=some (d4:Int):=by grind
 clear hd0 hd1 hd2 hd3 hd4 hD';refine Call.enter1 (n:=45) (by rfl) Tryz.func72 rfl rfl rfl ?_;refine zy ?_;refine zaD ?_;intro b2;refine zaW ?_
 have hwd:=jk0 (H:=(b2,cells [.int .i64 0, .int .i64 0, .int .i64 0] 65)::H) hG
 refine zy ?_;refine ze5 ?_;refine zaH ?_;intro b4;refine KL.v rfl (Val.sliceA rfl rfl rfl) ?_;refine zx fun T hT=>?_;refine(CallV.fn (jkW (ws:=wdL) wd_ok rfl hw (Sli.blk jF rfl (by decide) (by decide) rfl))).mono ?_;rintro _ _ ⟨o,ko,rfl,rfl⟩;rw[←hD] at ko⊢;refine zd ?_;clear hT T;refine zcw ?_;refine zcK ?_;refine K.drawn _ [(0,1),(1,1),(2,1),(3,1),(4,1),(5,1),(6,1),(7,1),(8,1),(9,1),(10,1),(11,1),(12,1),(13,2),(14,2)] (by rfl) (by rfl) (by kernel_rfl) (by rfl) (by rfl) (by rfl) Part.all ?_;refine zH ?_;refine zkh ?_;refine zki ?_;refine zkj ?_;refine zH ?_;refine zkh ?_;refine zki ?_;refine zkj ?_;refine zH ?_;refine zkh ?_;refine zki ?_;refine zkj ?_;refine KD.v1 rfl rfl (Val.build jei rfl rfl jeq) ?_;refine zb7 ?_;intro b7;refine ziY ?_;refine zfe ?_;refine zbG ?_
 have hres: ∀ b:Bool,b=Jd ⟨(d3:Int),(d2:Int),(d1:Int)⟩→hGetP w=if d0=0∧d4=199∧b=true then .tuple [.agg [.int .i64 (d3:Nat), .int .i64 (d2:Nat), .int .i64 (d1:Nat)].toArray, .int .i64 0].toArray else .tuple [.agg [.int .i64 0, .int .i64 0, .int .i64 0].toArray, .int .i64 5].toArray:=fun b hb=>by
  unfold hGetP;rw[hg,hb]
  by_cases h:d0=0∧d4=199∧Jd ⟨(d3:Int),(d2:Int),(d1:Int)⟩=true
  ·rw[if_pos h,if_pos h];rfl
  ·rw[if_neg h,if_neg h];rfl
 by_cases h0:(d0:Int)≠0
 ·have hr:=hres _ rfl
  rw[if_neg (by omega)] at hr;rw[hr];refine zaA ?_;refine zhR ?_;refine zcJ ?_;refine zag ?_;refine zb5 ?_;refine zd7 ?_;refine zac ?_;refine zM ?_;refine zbb ?_;exact zaT
 by_cases h4:(d4:Int)≠199
 ·have hr:=hres _ rfl
  rw[if_neg (by omega)] at hr;rw[hr];refine zaA ?_;refine zhR ?_;refine zcJ ?_;refine zaE ?_;refine zA ?_;refine zhR ?_;refine zi ?_;refine zcJ ?_;refine zi ?_;refine zag ?_;refine zC ?_;refine zd7 ?_;refine zac ?_;refine zM ?_;refine zbb ?_;exact zaT
 refine zaA ?_;refine zhR ?_;refine zcJ ?_;refine zaE ?_;refine zA ?_;refine zhR ?_;refine zi ?_;refine zcJ ?_;refine zi ?_;refine zed ?_;refine zL ?_;refine z3 ?_;refine zi ?_;refine zq fun T hT=>?_;refine(CallV.fn (jgo (h:=⟨(d3:Int),(d2:Int),(d1:Int)⟩))).mono ?_;rintro _ _ ⟨rfl,rfl⟩
 cases hm:Jd ⟨(d3:Int),(d2:Int),(d1:Int)⟩ with
 |true=>
  have hr:=hres true hm.symm
  rw[if_pos ⟨by omega,by omega,rfl⟩] at hr;refine zd ?_;clear hT T;rw[hr];refine zd4 ?_;refine zz ?_;refine z3 ?_;refine zbb ?_;exact zt
 |false=>
  have hr:=hres false hm.symm
  rw[if_neg (by simp)] at hr;refine zd ?_;clear hT T;rw[hr];refine zfl ?_;refine zac ?_;refine zM ?_;refine zbb ?_;exact zaT
open Go.RowKit
set_option maxRecDepth 10000
def JW (x:List Int):Prop:= ∀ w∈x,0≤w∧w<18446744073709551616
theorem JW.set {x:List Int} (h:JW x) {a:Nat} {w:Int} (hw:0≤w∧w<18446744073709551616):JW (x.set a w):=by
 intro v hv
 rcases List.mem_or_eq_of_mem_set hv with h1|h1
 ·exact h v h1
 omega
theorem JW.cleared {x:List Int} (h:JW x) {a b:Nat}:JW (cleared x a b 0):=by
 intro v hv;simp only[Go.Proofs.YtpcgafhgfjlkmaaGreatDoor.cleared,List.mem_append] at hv
 rcases hv with(h1|h1)|h1
 ·exact h v (List.mem_of_mem_take h1)
 ·grind
 ·exact h v (List.mem_of_mem_drop h1)
theorem JW.rep (n:Nat):JW (List.replicate n 0):=by
 intro v hv;grind
def wAt (x:List Int) (a:Nat):Int:=(x[a]?).getD 0
theorem jh0 {x:List Int} {a:Nat} (h:a<x.length):x[a]?=some (wAt x a):=by
 grind[wAt]
theorem JW.at_ {x:List Int} (h:JW x) (a:Nat):0≤wAt x a∧wAt x a<18446744073709551616:=by
 unfold wAt
 cases hx:x[a]? with
 |none=>simp
 |some w=>exact h w (List.mem_of_getElem? hx)
def jad (p:jg) (h:HdP):Bool:=Jd h&&(decide (h.c=p.cls)&&decide (h.r+h.w+1≤p.size))
def headP (x:List Int) (p:jg):Option HdP:=match getH (wAt x p.addr).toNat with
 |some h=>if jad p h then some h else none
 |none=>none
def JU (x:List Int) (p:jg):List Int:=cleared x p.addr (p.addr+p.size) 0
def putW (h:HdP):Int:=(putN h.c.toNat h.r.toNat h.w.toNat:Nat)
def makeP (x:List Int) (p:jg) (h:HdP):Int × List Int:=
 if jad p h then(if (headP x p).isSome then(8,x) else(0,(JU x p).set p.addr (putW h))) else(2,x)
def fldP (x:List Int) (p:jg) (ref:Bool) (i:Int):Int:=match headP x p with
 |none=>5
 |some h=>if 0≤i∧i<h.r+h.w∧decide (i<h.r)=ref then 0 else 110
def fAt (p:jg) (i:Int):Nat:=p.addr+1+i.toNat
def refP (x:List Int) (n:Nat) (p:jg) (i:Int):Int × Int:=
 if fldP x p true i=0 then(if wAt x (fAt p i)>n then(0,5) else(wAt x (fAt p i)-1,0)) else(0,fldP x p true i)
def Jl (x:List Int) (n:Nat) (p:jg) (i to:Int):Int × List Int:=
 if to< -1∨to≥n then(2,x) else if fldP x p true i=0 then(0,x.set (fAt p i) (to+1)) else(fldP x p true i,x)
def wordP (x:List Int) (p:jg) (i:Int):Int × Int:=
 if fldP x p false i=0 then(wAt x (fAt p i),0) else(0,fldP x p false i)
def Jk (x:List Int) (p:jg) (i w:Int):Int × List Int:=
 if fldP x p false i=0 then(0,x.set (fAt p i) w) else(fldP x p false i,x)
theorem jaD {p:jg} {h:HdP} (e:jad p h=true):Jd h=true∧h.c=p.cls∧h.r+h.w+1≤p.size:=by
 grind[jad]
theorem jaY {x:List Int} {p:jg} {h:HdP} (e:headP x p=some h):getH (wAt x p.addr).toNat=some h∧jad p h=true:=by
 grind[headP,getH,wAt]
theorem JQ {x:List Int} {p:jg} {ref:Bool} {i:Int} (e:fldP x p ref i=0):0≤i∧fAt p i<p.addr+p.size∧p.addr<fAt p i:=by
 unfold fldP at e
 cases hh:headP x p with
 |none=>grind
 |some h=>
  obtain⟨_,hl⟩:=jaY hh
  obtain⟨hm,_,hs⟩:=jaD hl
  grind[Jd,fAt]
theorem jcR {x:List Int} {p:jg} (h:p.addr+p.size≤x.length):(JU x p).length=x.length:=jff (by omega) h
theorem jhC {x:List Int} {p:jg} {h:HdP} (hp:p.addr+p.size≤x.length):(makeP x p h).2.length=x.length:=by
 grind[makeP,jcR]
theorem ji1 {x:List Int} {n:Nat} {p:jg} {i to:Int}:(Jl x n p i to).2.length=x.length:=by
 grind[Jl]
theorem jlv {x:List Int} {p:jg} {i w:Int}:(Jk x p i w).2.length=x.length:=by
 grind[Jk]
theorem putW_bnd {h:HdP} (hm:Jd h=true):0≤putW h∧putW h<18446744073709551616:=by
 grind[Jd,putW,putN]
theorem jif {x:List Int} {p:jg} {h:HdP} (hx:JW x):JW (makeP x p h).2:=by
 unfold makeP;split
 ·rename_i hl
  split
  ·omega
  ·exact(JW.cleared hx).set (putW_bnd (jaD hl).1)
 omega
theorem jlV {x:List Int} {p:jg} {i w:Int} (hx:JW x) (hw:0≤w∧w<18446744073709551616):JW (Jk x p i w).2:=by
 unfold Jk;split
 ·exact hx.set hw
 omega
theorem jjj {x:List Int} {n:Nat} {p:jg} {i to:Int} (hx:JW x) (hn:n≤1000000):JW (Jl x n p i to).2:=by
 unfold Jl;split
 ·omega
 ·split
  ·exact hx.set (by omega)
  omega
def usedL:List jg→List Bool→Nat
 | [],_=>0
 |_,[]=>0
 |p::l,b::A=>(if b then p.size else 0)+usedL l A
theorem jdn: ∀ {l:List jg} {A:List Bool} {i:Nat} {p:jg} (v:Bool),l[i]?=some p→i<A.length→usedL l (A.set i v)+(if A[i]?=some true then p.size else 0)=usedL l A+(if v then p.size else 0)
 |p::l,b::A,0,p',v,h,hA=>by
  grind[usedL]
 |p::l,b::A,i+1,p',v,h,hA=>by
  have:=jdn (l:=l) (A:=A) (i:=i) v h (by grind)
  grind[usedL]
 | [],A,i,p',v,h,hA=>by grind
theorem jk2 {B:Nat}: ∀ {l:List jg} {A:List Bool},(∀ p∈l,p.size≤B)→usedL l A≤l.length*B
 | [],A,_=>by simp[usedL]
 |p::l,[],_=>by simp[usedL]
 |p::l,b::A,h=>by
  have h1:=jk2 (l:=l) (A:=A) (fun q hq=>h q (.tail _ hq))
  simp only[usedL,List.length_cons,Nat.succ_mul]
  grind
theorem jfD: ∀ {l:List jg} {n:Nat},usedL l (List.replicate n false)=0
 | [],n=>by rfl
 |p::l,0=>rfl
 |p::l,n+1=>by simp[usedL,List.replicate_succ,jfD (l:=l) (n:=n)]
def jbr (A:List Bool) (first many:Nat):Option Nat:=((List.range many).map (first+ ·)).find? fun i=>(A[i]?).getD true=false
theorem jcP {A:List Bool} {f m i:Nat} (h:jbr A f m=some i):f≤i∧i<f+m∧A[i]?=some false∧ ∀ j,f≤j→j<i→A[j]?≠some false:=by
 unfold jbr at h;rw[List.find?_eq_some_iff_append] at h
 obtain⟨hp,la,lb,he,hn⟩:=h
 have hl:la.length+(lb.length+1)=m:=by have:=congrArg List.length he;simpa using this.symm
 have hi:i=f+la.length:=by
  have h2:((List.range m).map (f+ ·))[la.length]?=some i:=by rw[he];simp
  rw[List.getElem?_map,List.getElem?_range (by omega)] at h2
  simpa using h2.symm
 refine⟨by omega,by omega,?_,?_⟩
 ·cases hx:A[i]? with
  |none=>rw [hx] at hp;simp at hp
  |some b=>rw [hx] at hp;simp at hp;rw [hp]
 ·intro j hj1 hj2 hj
  have h2:((List.range m).map (f+ ·))[j-f]?=some j:=by
   rw[List.getElem?_map,List.getElem?_range (by omega)];simp;omega
  rw[he,List.getElem?_append_left (by omega)] at h2
  have:=hn j (List.mem_of_getElem? h2)
  rw[hj] at this
  simp at this
theorem jjH {A:List Bool} {f m:Nat} (h:jbr A f m=none): ∀ j,f≤j→j<f+m→A[j]?≠some false:=by
 intro j h1 h2 hj;unfold jbr at h;rw[List.find?_eq_none] at h;refine h j ?_ (by grind);exact List.mem_map.2 ⟨j-f,List.mem_range.2 (by omega),by omega⟩
theorem free_is {A:List Bool} {f m i:Nat} (h1:f≤i) (h2:i<f+m) (h3:A[i]?=some false) (h4: ∀ j,f≤j→j<i→A[j]?≠some false):jbr A f m=some i:=by
 cases hf:jbr A f m with
 |none=>grind[h3,jjH,h1,h2]
 |some j=>
  obtain⟨g1,g2,g3,g4⟩:=jcP hf
  grind
theorem free_no {A:List Bool} {f m:Nat} (h: ∀ j,f≤j→j<f+m→A[j]?≠some false):jbr A f m=none:=by
 grind[jbr,g1,g2,g3]
def takeP (g:PlG) (A:List Bool) (k:Int):Int × Int × List Bool:=
 if 0≤k∧k<(g.m:Nat) then
  match jbr A (g.first k.toNat) (g.n k.toNat) with
  |some i=>(i,0,A.set i true)
  |none=>(0,6,A)
 else(0,2,A)
def jcC:List Bool→List Bool→Bool
 |a::A,d::D=>(!d||a)&&jcC A D
 |_,_=>true
def jcm:List Bool→List Bool→List Bool
 |a::A,d::D=>(a&&!d)::jcm A D
 |A,_=>A
def jaZ (A D:List Bool):Int × List Bool:=if D.length=A.length then(if jcC A D then(0,jcm A D) else(9,A)) else(2,A)
end Go.Proofs.YtpcgafhgfjlkmaaGreatDoor.Sw
