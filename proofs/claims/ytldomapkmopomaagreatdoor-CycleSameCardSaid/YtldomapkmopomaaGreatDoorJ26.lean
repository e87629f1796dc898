/-The walker and the contracts that the law needs,part 26. -/
import Derived.Test.YtldomapkmopomaaGreatDoorD1
import Derived.ArgAppend
import Derived.ChangeMaps5
import Derived.Deep.Fields
import Derived.Deep.LoopGhost
import Derived.Deep.OwnRows
import Derived.Deep.Quiet
import Derived.Deep.Slices
import Derived.IntWalk
import Derived.Laws.Cells
import Derived.Laws.CopyOwn
import Derived.Laws.Externs
import Derived.Laws.FloatArith
import Derived.Laws.IdiomStrings
import Derived.Laws.NewFold
import Derived.Laws.StructEq
import Derived.Lib.BitFns
import Derived.Lib.Hide
import Derived.Lib.SmallJoins
import Derived.Lib.TrailingZeros
import Derived.Maps.RangeRun
import Derived.OrdersIn
import Derived.ProofKit
import Derived.RangeFuncBound
import Derived.RangeFuncCalls
import Derived.RangeFuncLeaves
import Derived.RangeFuncNested
import Derived.RecoverIn
import Derived.Shelf.Bits.Mul64
import Derived.Shelf.Slices.Turned
import Derived.Shelf.Spec.TrailingZeros
import Derived.Shelf.Strconv.Itoa0
import Derived.SizedLaws
import Derived.Sort.BigQuietIn
import Derived.StillTailTactics
import Derived.Test.YtldomapkmopomaaGreatDoorProg
import Derived.WalkKit
import Derived.Test.YtldomapkmopomaaGreatDoorJ25
set_option linter.unusedVariables false set_option linter.unusedSimpArgs false namespace Go.Proofs.YtldomapkmopomaaGreatDoor.Sw
set_option maxHeartbeats 8000000
open Go.Proofs.YtldomapkmopomaaGreatDoor renaming lo → qL, hi → qH
open Go.RowKit
set_option linter.unusedVariables false
set_option linter.unusedSimpArgs false
set_option maxRecDepth 10000
structure StB where
 b:Nat
section
variable {w0 : World} {F : jb} {k : MkM} {B : BoM} {T : TbM} {N : PiM} {W : MwP} {m : MaP}
def jaz (k:MkM) (B:BoM) (T:TbM) (N:PiM) (F:jb) (m:MaP) (o:Option MaP) (r:Value) (H':jb):Prop:=
 r= .bool o.isSome∧ ∃ k',MkOk k' B.p∧MkTo k k'∧MkR k' B.p (o.getD m)∧H'=jk k' B.p++(planH B.p++(seenH B T N++F))
set_option maxHeartbeats 4000000 in
theorem mkStep1_K {i:Nat} (hG:jw w0) (hp:MpR k B T N W) (ok:MkOk k B.p) (hR:MkR k B.p m) (hm:jv B.p.g k.g.ring.length W m) (hst:m.steps≤1000000000) (hact:k.act=true) (hil:i<k.hs.length):
  Call Tryz.prog w0 133 [.pointer (some ⟨k.b,0,none⟩), .int .i64 (i:Nat), .int .u8 1] (jk k B.p++(planH B.p++(seenH B T N++F))) (jaz k B T N F m ((Jc B.p.g k.g.ring.length W m i 1).map upM)):=by
 have okp:=hp.bo.p
 have ho:=ok.o
 obtain⟨h,hkh⟩:=jn hil
 have hmh:m.hs[i]?=some h:=by rw[←hR.hs];exact hkh
 have hih:i<m.hs.length:=jl hmh
 have hac:=fun A=>jcg (w0:=w0) (F:=A) (k:=k) (p:=B.p)
 simp only[hact] at hac
 have hge: ¬((i:Nat):Int)≥(k.hs.length:Nat):=by omega
 have hstp: ∀ m1:MaP,Jc B.p.g k.g.ring.length W m i 1=some m1→m1.steps≤1000000000:=fun m1 h=>by
  have:=(jbA okp.g hm hih h).2.2.1
  omega
 unfold jaz
 have hmc:Jc B.p.g k.g.ring.length W m i 1=rootM B.p.g k.g.ring.length W m:=rfl
 rw[hmc];refine za6 ?_;refine yq9 fun T hT=>?_;refine zao ?_;clear hT T;simp only[ji,seenH_app];refine yr40 ?_;refine K.cutT (σ:=StB) [(0,_)] jg (fun s kp_=>(7, .pointer (some (adr (oV k.o k.hs.length) (i*Ja.sz))))::(8, .pointer (some ⟨s.b,0,none⟩))::kp_) (fun s=>jk k B.p++(planH B.p++(seenH B T N++((s.b,cells [.bool false, .bool true, .func (.func 256) #[] #[]] 298)::F)))) (fun s=>True) ?_ ?_
 ·skip
  refine zw ?_;refine zdx ?_;refine zm ?_;refine zbK ?_;refine zdy ?_;refine zaT ?_;refine zm ?_;refine KD.fork2 (x:=6) (y:=9) (o1:=[(8,1),(9,2),(10,0),(11,2)]) (o2:=[(6,2),(8,0),(10,0),(11,2)]) (by kernel_rfl) rfl rfl (by kernel_rfl) (by kernel_rfl) ?_ ?_
  ·refine zak fun T hT=>?_;refine zbx ?_;unfold jbk;refine zh ?_;clear hT T;refine zdz ?_;refine zad ?_;intro b8;exact zbw
  ·(refine j3.e rfl (Eff.alloc rfl) ?_;rintro _ _ ⟨b8,rfl,rfl⟩;refine⟨ja,?_⟩)
   refine zi fun T hT=>?_;refine zbx ?_;unfold jbk;refine zh ?_;clear hT T;refine zdA ?_;exact zbw
 ·rintro⟨b8⟩ _;dsimp only
  have hsk:=fun A=>mkseek_K (w0:=w0) (F:=A) (hv:= .pointer (some (adr (oV k.o k.hs.length) (i*Ja.sz)))) hp ok hR hm
  cases hrm:rootM B.p.g k.g.ring.length W m with
  |none=>
   simp only[hrm,Option.isSome,Option.getD,Option.map] at hsk⊢;refine yr2 ?_;refine zby ?_;refine KD.v0 rfl rfl (Val.notT rfl) ?_;refine zaR ?_;refine zba ?_;refine zag ?_;refine zg ?_;refine zal ?_;refine zR ?_;refine zC ?_;refine zv fun T hT=>?_;refine zfB ?_;rintro _ _ ⟨rfl,k',kok,kto,kR,rfl⟩;refine zh ?_;clear hT T;refine zds ?_;refine zI ?_;refine yr9 ?_;exact KE.fin (H':=jk k' B.p++(planH B.p++(seenH B T N++F))) jd rfl jc (by first|exact ja|(simp only[ji,seenH_app];exact ja)) ⟨rfl,k',kok,kto,kR,by simp only[ji,seenH_app]⟩
  |some m1=>
   have hst1:=hstp m1 (hmc.trans hrm)
   simp only[hrm,Option.isSome,Option.getD,Option.map] at hsk⊢;refine yr2 ?_;refine zby ?_;refine KD.v0 rfl rfl (Val.notT rfl) ?_;refine zaR ?_;refine zba ?_;refine zag ?_;refine zg ?_;refine zal ?_;refine zR ?_;refine zC ?_;refine zv fun T hT=>?_;refine zfB ?_;rintro _ _ ⟨rfl,k',kok,kto,kR,rfl⟩;refine zh ?_;clear hT T;rw[←kto.b]
   have e5:((k'.steps:Nat):Int)+1=((k'.steps+1:Nat):Int):=by omega
   have hks:k'.steps≤1000000000:=by rw[kR.steps];exact hst1
   refine zd3 ?_;refine zI ?_;refine yr22 ?_;rw[e5];exact KE.fin (H':=jk {k' with steps:=k'.steps+1} B.p++(planH B.p++(seenH B T N++F))) jd rfl jc (by simp only[ji,seenH_app];exact ja)
    ⟨rfl,{k' with steps:=k'.steps+1},⟨kok.c,kok.g,kok.n,kok.o,kok.hs⟩,⟨⟨kto.b,kto.bb,kto.tb,kto.nb,kto.n,kto.l⟩,kto.f,kto.cb,kto.gb,kto.o⟩,⟨kR.C,kR.G,kR.hs,kR.root,kR.act,by show k'.steps+1=_+1;rw [kR.steps]⟩,by simp only[ji,seenH_app]⟩
set_option maxHeartbeats 4000000 in
theorem mkStep2_K {i:Nat} (hG:jw w0) (hp:MpR k B T N W) (ok:MkOk k B.p) (hR:MkR k B.p m) (hm:jv B.p.g k.g.ring.length W m) (hst:m.steps≤1000000000) (hact:k.act=true) (hil:i<k.hs.length):
  Call Tryz.prog w0 133 [.pointer (some ⟨k.b,0,none⟩), .int .i64 (i:Nat), .int .u8 2] (jk k B.p++(planH B.p++(seenH B T N++F))) (jaz k B T N F m ((Jc B.p.g k.g.ring.length W m i 2).map upM)):=by
 have okp:=hp.bo.p
 have ho:=ok.o
 obtain⟨h,hkh⟩:=jn hil
 have hmh:m.hs[i]?=some h:=by rw[←hR.hs];exact hkh
 have hih:i<m.hs.length:=jl hmh
 have hac:=fun A=>jcg (w0:=w0) (F:=A) (k:=k) (p:=B.p)
 simp only[hact] at hac
 have hge: ¬((i:Nat):Int)≥(k.hs.length:Nat):=by omega
 have hstp: ∀ m1:MaP,Jc B.p.g k.g.ring.length W m i 2=some m1→m1.steps≤1000000000:=fun m1 h=>by
  have:=(jbA okp.g hm hih h).2.2.1
  omega
 unfold jaz
 have hmc:Jc B.p.g k.g.ring.length W m i 2=takeM m i:=rfl
 rw[hmc];refine za6 ?_;refine yq9 fun T hT=>?_;refine zao ?_;clear hT T;simp only[ji,seenH_app];refine yr40 ?_;refine K.cutT (σ:=StB) [(0,_)] jg (fun s kp_=>(7, .pointer (some (adr (oV k.o k.hs.length) (i*Ja.sz))))::(8, .pointer (some ⟨s.b,0,none⟩))::kp_) (fun s=>jk k B.p++(planH B.p++(seenH B T N++((s.b,cells [.bool false, .bool false, .func (.func 257) #[] #[]] 298)::F)))) (fun s=>True) ?_ ?_
 ·skip
  refine zw ?_;refine zdx ?_;refine zm ?_;refine zbK ?_;refine zdy ?_;refine zaT ?_;refine zm ?_;refine KD.fork2 (x:=6) (y:=9) (o1:=[(8,1),(9,2),(10,0),(11,2)]) (o2:=[(6,2),(8,0),(10,0),(11,2)]) (by kernel_rfl) rfl rfl (by kernel_rfl) (by kernel_rfl) ?_ ?_
  ·refine zak fun T hT=>?_;refine zbx ?_;unfold jbk;refine zh ?_;clear hT T;refine zdz ?_;refine zad ?_;intro b8;exact zbw
  ·(refine j3.e rfl (Eff.alloc rfl) ?_;rintro _ _ ⟨b8,rfl,rfl⟩;refine⟨ja,?_⟩)
   refine zi fun T hT=>?_;refine zbx ?_;unfold jbk;refine zh ?_;clear hT T;refine zdA ?_;exact zbw
 ·rintro⟨b8⟩ _;dsimp only
  obtain⟨hsl,hfi,hi⟩:=h
  cases hi with
  |true=>
   have hmn:takeM m i=none:=by unfold takeM;rw [jal hmh];rfl
   rw[hmn];simp only[Option.isSome,Option.getD,Option.map];simp only[ji,seenH_app];refine yr2 ?_;refine zby ?_;refine zbB ?_;refine za9 ?_;refine zbb ?_;refine zcd ?_;refine zbo ?_;refine zce ?_;refine zT ?_;refine zZ ?_;refine zbc ?_;refine zaE ?_;refine yr9 ?_;exact zcc
  |false=>
   simp only[ji,seenH_app];refine yr2 ?_;refine zby ?_;refine zbB ?_;refine za9 ?_;refine zbb ?_;refine zcd ?_;refine zbo ?_;refine zce ?_;refine zT ?_;refine zal ?_;refine zR ?_;refine zC ?_;refine zv fun T hT=>?_;refine(CallV.part (CallV.fn (mktake_K ok hR hil)) (by first|exact ja|(simp only[ji,seenH_app];exact ja))).mono ?_;rintro _ _ (⟨hq,rfl,rfl⟩|⟨s,q,k',hq,rfl,kok,kto,kR,rfl⟩)
   ·have hmn:takeM m i=none:=by unfold takeM;rw [jal hmh,if_neg (by simp),hq]
    refine zh ?_;clear hT T;rw[hmn];simp only[Option.isSome,Option.getD,Option.map];refine zds ?_;refine zI ?_;refine yr9 ?_;exact zcc
   ·have hmn:takeM m i=some {m with G:={m.G with q:=q},hs:=m.hs.set i ⟨(s:Nat),0,true⟩}:=by unfold takeM;rw [jal hmh,if_neg (by simp),hq]
    have hst1:=hstp _ (hmc.trans hmn)
    refine zh ?_;clear hT T;rw[hmn];simp only[Option.isSome,Option.getD,Option.map];rw[←kto.b]
    have e5:((k'.steps:Nat):Int)+1=((k'.steps+1:Nat):Int):=by omega
    have hks:k'.steps≤1000000000:=by rw[kR.steps];exact hst1
    refine zd3 ?_;refine zI ?_;refine yr22 ?_;rw[e5];exact KE.fin (H':=jk {k' with steps:=k'.steps+1} B.p++(planH B.p++(seenH B T N++F))) jd rfl jc (by simp only[ji,seenH_app];exact ja)
     ⟨rfl,{k' with steps:=k'.steps+1},⟨kok.c,kok.g,kok.n,kok.o,kok.hs⟩,⟨⟨kto.b,kto.bb,kto.tb,kto.nb,kto.n,kto.l⟩,kto.f,kto.cb,kto.gb,kto.o⟩,⟨kR.C,kR.G,kR.hs,kR.root,kR.act,by show k'.steps+1=_+1;rw [kR.steps]⟩,by simp only[ji,seenH_app]⟩
set_option maxHeartbeats 4000000 in
theorem mkStep3_K {i:Nat} (hG:jw w0) (hp:MpR k B T N W) (ok:MkOk k B.p) (hR:MkR k B.p m) (hm:jv B.p.g k.g.ring.length W m) (hst:m.steps≤1000000000) (hact:k.act=true) (hil:i<k.hs.length):
  Call Tryz.prog w0 133 [.pointer (some ⟨k.b,0,none⟩), .int .i64 (i:Nat), .int .u8 3] (jk k B.p++(planH B.p++(seenH B T N++F))) (jaz k B T N F m ((Jc B.p.g k.g.ring.length W m i 3).map upM)):=by
 have okp:=hp.bo.p
 have ho:=ok.o
 obtain⟨h,hkh⟩:=jn hil
 have hmh:m.hs[i]?=some h:=by rw[←hR.hs];exact hkh
 have hih:i<m.hs.length:=jl hmh
 have hac:=fun A=>jcg (w0:=w0) (F:=A) (k:=k) (p:=B.p)
 simp only[hact] at hac
 have hge: ¬((i:Nat):Int)≥(k.hs.length:Nat):=by omega
 have hstp: ∀ m1:MaP,Jc B.p.g k.g.ring.length W m i 3=some m1→m1.steps≤1000000000:=fun m1 h=>by
  have:=(jbA okp.g hm hih h).2.2.1
  omega
 unfold jaz
 have hmc:Jc B.p.g k.g.ring.length W m i 3=scanM B.p.g k.g.ring.length W m i:=rfl
 rw[hmc];refine za6 ?_;refine yq9 fun T hT=>?_;refine zao ?_;clear hT T;simp only[ji,seenH_app];refine yr40 ?_;refine K.cutT (σ:=StB) [(0,_)] jg (fun s kp_=>(7, .pointer (some (adr (oV k.o k.hs.length) (i*Ja.sz))))::(8, .pointer (some ⟨s.b,0,none⟩))::kp_) (fun s=>jk k B.p++(planH B.p++(seenH B T N++((s.b,cells [.bool true, .bool false, .func (.func 260) #[] #[]] 298)::F)))) (fun s=>True) ?_ ?_
 ·skip
  refine zw ?_;refine zdx ?_;refine zm ?_;refine zbK ?_;refine zdy ?_;refine zaT ?_;refine zm ?_;refine KD.fork2 (x:=6) (y:=9) (o1:=[(8,1),(9,2),(10,0),(11,2)]) (o2:=[(6,2),(8,0),(10,0),(11,2)]) (by kernel_rfl) rfl rfl (by kernel_rfl) (by kernel_rfl) ?_ ?_
  ·refine zak fun T hT=>?_;refine zbx ?_;unfold jbk;refine zh ?_;clear hT T;refine zdz ?_;refine zad ?_;intro b8;exact zbw
  ·(refine j3.e rfl (Eff.alloc rfl) ?_;rintro _ _ ⟨b8,rfl,rfl⟩;refine⟨ja,?_⟩)
   refine zi fun T hT=>?_;refine zbx ?_;unfold jbk;refine zh ?_;clear hT T;refine zdA ?_;exact zbw
 ·rintro⟨b8⟩ _;dsimp only
  obtain⟨hsl,hfi,hi⟩:=h
  cases hi with
  |false=>
   have hmn:scanM B.p.g k.g.ring.length W m i=none:=by unfold scanM;rw [jal hmh];rfl
   rw[hmn];simp only[Option.isSome,Option.getD,Option.map];simp only[ji,seenH_app];refine yr2 ?_;refine zby ?_;refine zbB ?_;refine za9 ?_;refine zbb ?_;refine zcd ?_;refine zbo ?_;refine zce ?_;refine zT ?_;refine zZ ?_;refine zbc ?_;refine zaE ?_;refine yr9 ?_;exact zcc
  |true=>
   simp only[ji,seenH_app];refine yr2 ?_;refine zby ?_;refine zbB ?_;refine za9 ?_;refine zbb ?_;refine zcd ?_;refine zbo ?_;refine zce ?_;refine zT ?_;refine zal ?_;refine zR ?_;refine zC ?_;refine zv fun T hT=>?_;refine(CallV.part (CallV.fn (mkscan_K hG hp ok hR hm hkh rfl)) (by first|exact ja|(simp only[ji,seenH_app];exact ja))).mono ?_;rintro _ _ ⟨rfl,m1,k',hmn,kok,kto,kR,rfl⟩
   have hst1:=hstp _ (hmc.trans hmn)
   refine zh ?_;clear hT T;rw[hmn];simp only[Option.isSome,Option.getD,Option.map];rw[←kto.b]
   have e5:((k'.steps:Nat):Int)+1=((k'.steps+1:Nat):Int):=by omega
   have hks:k'.steps≤1000000000:=by rw[kR.steps];exact hst1
   refine zd3 ?_;refine zI ?_;refine yr22 ?_;rw[e5];exact KE.fin (H':=jk {k' with steps:=k'.steps+1} B.p++(planH B.p++(seenH B T N++F))) jd rfl jc (by simp only[ji,seenH_app];exact ja)
    ⟨rfl,{k' with steps:=k'.steps+1},⟨kok.c,kok.g,kok.n,kok.o,kok.hs⟩,⟨⟨kto.b,kto.bb,kto.tb,kto.nb,kto.n,kto.l⟩,kto.f,kto.cb,kto.gb,kto.o⟩,⟨kR.C,kR.G,kR.hs,kR.root,kR.act,by show k'.steps+1=_+1;rw [kR.steps]⟩,by simp only[ji,seenH_app]⟩
set_option maxHeartbeats 4000000 in
theorem mkStep4_K {i:Nat} (hG:jw w0) (hp:MpR k B T N W) (ok:MkOk k B.p) (hR:MkR k B.p m) (hm:jv B.p.g k.g.ring.length W m) (hst:m.steps≤1000000000) (hact:k.act=true) (hil:i<k.hs.length):
  Call Tryz.prog w0 133 [.pointer (some ⟨k.b,0,none⟩), .int .i64 (i:Nat), .int .u8 4] (jk k B.p++(planH B.p++(seenH B T N++F))) (jaz k B T N F m ((Jc B.p.g k.g.ring.length W m i 4).map upM)):=by
 have okp:=hp.bo.p
 have ho:=ok.o
 obtain⟨h,hkh⟩:=jn hil
 have hmh:m.hs[i]?=some h:=by rw[←hR.hs];exact hkh
 have hih:i<m.hs.length:=jl hmh
 have hac:=fun A=>jcg (w0:=w0) (F:=A) (k:=k) (p:=B.p)
 simp only[hact] at hac
 have hge: ¬((i:Nat):Int)≥(k.hs.length:Nat):=by omega
 have hstp: ∀ m1:MaP,Jc B.p.g k.g.ring.length W m i 4=some m1→m1.steps≤1000000000:=fun m1 h=>by
  have:=(jbA okp.g hm hih h).2.2.1
  omega
 unfold jaz
 have hmc:Jc B.p.g k.g.ring.length W m i 4=walkM B.p.g m i:=rfl
 rw[hmc];refine za6 ?_;refine yq9 fun T hT=>?_;refine zao ?_;clear hT T;simp only[ji,seenH_app];refine yr40 ?_;refine K.cutT (σ:=StB) [(0,_)] jg (fun s kp_=>(7, .pointer (some (adr (oV k.o k.hs.length) (i*Ja.sz))))::(8, .pointer (some ⟨s.b,0,none⟩))::kp_) (fun s=>jk k B.p++(planH B.p++(seenH B T N++((s.b,cells [.bool false, .bool false, .func (.func 261) #[] #[]] 298)::F)))) (fun s=>True) ?_ ?_
 ·skip
  refine zw ?_;refine zdx ?_;refine zm ?_;refine zbK ?_;refine zdy ?_;refine zaT ?_;refine zm ?_;refine KD.fork2 (x:=6) (y:=9) (o1:=[(8,1),(9,2),(10,0),(11,2)]) (o2:=[(6,2),(8,0),(10,0),(11,2)]) (by kernel_rfl) rfl rfl (by kernel_rfl) (by kernel_rfl) ?_ ?_
  ·refine zak fun T hT=>?_;refine zbx ?_;unfold jbk;refine zh ?_;clear hT T;refine zdz ?_;refine zad ?_;intro b8;exact zbw
  ·(refine j3.e rfl (Eff.alloc rfl) ?_;rintro _ _ ⟨b8,rfl,rfl⟩;refine⟨ja,?_⟩)
   refine zi fun T hT=>?_;refine zbx ?_;unfold jbk;refine zh ?_;clear hT T;refine zdA ?_;exact zbw
 ·rintro⟨b8⟩ _;dsimp only
  obtain⟨hsl,hfi,hi⟩:=h
  cases hi with
  |true=>
   have hmn:walkM B.p.g m i=none:=by unfold walkM;rw [jal hmh];rfl
   rw[hmn];simp only[Option.isSome,Option.getD,Option.map];simp only[ji,seenH_app];refine yr2 ?_;refine zby ?_;refine zbB ?_;refine za9 ?_;refine zbb ?_;refine zcd ?_;refine zbo ?_;refine zce ?_;refine zT ?_;refine zZ ?_;refine zbc ?_;refine zaE ?_;refine yr9 ?_;exact zcc
  |false=>
   simp only[ji,seenH_app];refine yr2 ?_;refine zby ?_;refine zbB ?_;refine za9 ?_;refine zbb ?_;refine zcd ?_;refine zbo ?_;refine zce ?_;refine zT ?_;refine zal ?_;refine zR ?_;refine zC ?_;refine zv fun T hT=>?_;refine(CallV.part (CallV.fn (mkwalk_K hG ok hR hm hil)) (by first|exact ja|(simp only[ji,seenH_app];exact ja))).mono ?_;rintro _ _ (⟨hq,rfl,rfl⟩|⟨o,G',k',hq,rfl,kok,kto,kR,rfl⟩)
   ·have hmn:walkM B.p.g m i=none:=walkM_no hq
    refine zh ?_;clear hT T;rw[hmn];simp only[Option.isSome,Option.getD,Option.map];refine zds ?_;refine zI ?_;refine yr9 ?_;exact zcc
   ·have hmn:walkM B.p.g m i=some (wtM m i o G'):=jgs (by rw[jal hmh]) hq
    have hst1:=hstp _ (hmc.trans hmn)
    refine zh ?_;clear hT T;rw[hmn];simp only[Option.isSome,Option.getD,Option.map];rw[←kto.b]
    have e5:((k'.steps:Nat):Int)+1=((k'.steps+1:Nat):Int):=by omega
    have hks:k'.steps≤1000000000:=by rw[kR.steps];exact hst1
    refine zd3 ?_;refine zI ?_;refine yr22 ?_;rw[e5];exact KE.fin (H':=jk {k' with steps:=k'.steps+1} B.p++(planH B.p++(seenH B T N++F))) jd rfl jc (by simp only[ji,seenH_app];exact ja)
     ⟨rfl,{k' with steps:=k'.steps+1},⟨kok.c,kok.g,kok.n,kok.o,kok.hs⟩,⟨⟨kto.b,kto.bb,kto.tb,kto.nb,kto.n,kto.l⟩,kto.f,kto.cb,kto.gb,kto.o⟩,⟨kR.C,kR.G,kR.hs,kR.root,kR.act,by show k'.steps+1=_+1;rw [kR.steps]⟩,by simp only[ji,seenH_app]⟩
theorem mkStep_no {hd:Int} {u:Nat} (ok:MkOk k B.p) (hR:MkR k B.p m) (hu:u<256) (hno: ¬(k.act=true∧0≤hd∧hd<(k.hs.length:Nat)∧1≤u∧u≤4)):
  Call Tryz.prog w0 133 [.pointer (some ⟨k.b,0,none⟩), .int .i64 hd, .int .u8 (u:Nat)] (jk k B.p++(planH B.p++(seenH B T N++F))) (jaz k B T N F m none):=by
 have ho:=ok.o
 have hac:=fun A=>jcg (w0:=w0) (F:=A) (k:=k) (p:=B.p)
 unfold jaz;simp only[Option.isSome,Option.getD]
 cases ha:k.act with
 |false=>
  simp only[ha] at hac;refine za6 ?_;refine yq9 fun T hT=>?_;refine zao ?_;clear hT T;simp only[ji,seenH_app];refine yr32 ?_;exact zcL
 |true=>
  simp only[ha] at hac
  have hno':hd<0∨(¬hd<0∧hd≥(k.hs.length:Nat))∨(¬hd<0∧ ¬hd≥(k.hs.length:Nat)∧((u:Nat):Int)<1)∨(¬hd<0∧ ¬hd≥(k.hs.length:Nat)∧ ¬((u:Nat):Int)<1∧((u:Nat):Int)>4):=by
   by_cases c1:hd<0
   ·exact .inl c1
   ·by_cases c2:hd≥(k.hs.length:Nat)
    ·exact .inr (.inl ⟨c1,c2⟩)
    ·by_cases c3:((u:Nat):Int)<1
     ·exact .inr (.inr (.inl ⟨c1,c2,c3⟩))
     ·exact .inr (.inr (.inr ⟨c1,c2,c3,by have: ¬u≤4:=fun h=>hno ⟨ha,by omega,by omega,by omega,h⟩;omega⟩))
  rcases hno' with c1|⟨c1,c2⟩|⟨c1,c2,c3⟩|⟨c1,c2,c3,c4⟩
  ·refine za6 ?_;refine yq9 fun T hT=>?_;refine zao ?_;clear hT T;simp only[ji,seenH_app];refine yr34 ?_;exact zcL
  ·refine za6 ?_;refine yq9 fun T hT=>?_;refine zao ?_;clear hT T;simp only[ji,seenH_app];refine yr41 ?_;exact zcL
  ·refine za6 ?_;refine yq9 fun T hT=>?_;refine zao ?_;clear hT T;simp only[ji,seenH_app];refine yr43 ?_;exact zcL
  ·refine za6 ?_;refine yq9 fun T hT=>?_;refine zao ?_;clear hT T;simp only[ji,seenH_app];refine yr45 ?_;exact zcL
theorem mkStep_K {hd:Int} {u:Nat} (hG:jw w0) (hp:MpR k B T N W) (ok:MkOk k B.p) (hR:MkR k B.p m) (hm:jv B.p.g k.g.ring.length W m) (hst:m.steps≤1000000000) (hu:u<256):
  Call Tryz.prog w0 133 [.pointer (some ⟨k.b,0,none⟩), .int .i64 hd, .int .u8 (u:Nat)] (jk k B.p++(planH B.p++(seenH B T N++F))) (jaz k B T N F m (stepM B.p.g k.g.ring.length W m hd (u:Nat))):=by
 have hact:=hR.act
 have hhs:=hR.hs
 by_cases hy:k.act=true∧0≤hd∧hd<(k.hs.length:Nat)∧1≤u∧u≤4
 ·obtain⟨h1,h2,h3,h4,h5⟩:=hy
  obtain⟨i,rfl⟩: ∃ i:Nat,hd=i:=⟨hd.toNat,by omega⟩
  have hs: ∀ q:Int,stepM B.p.g k.g.ring.length W m (i:Nat) q=(Jc B.p.g k.g.ring.length W m i q).map upM:=fun q=>by
   unfold stepM;rw[if_pos ⟨by rw[←hact];exact h1,by omega,by rw[←hhs];exact h3⟩,Int.toNat_natCast]
  rw[hs]
  rcases(show u=1∨u=2∨u=3∨u=4 by omega) with rfl|rfl|rfl|rfl
  ·exact mkStep1_K hG hp ok hR hm hst h1 (by omega)
  ·exact mkStep2_K hG hp ok hR hm hst h1 (by omega)
  ·exact mkStep3_K hG hp ok hR hm hst h1 (by omega)
  ·exact mkStep4_K hG hp ok hR hm hst h1 (by omega)
 ·have hs:stepM B.p.g k.g.ring.length W m hd (u:Nat)=none:=by
   unfold stepM
   split
   ·rename_i hc
    have:Jc B.p.g k.g.ring.length W m hd.toNat (u:Nat)=none:=by
     unfold Jc;rw[←hact,←hhs] at hc
     have: ¬(1≤u∧u≤4):=fun h=>hy ⟨hc.1,hc.2.1,hc.2.2,h.1,h.2⟩
     rw[if_neg (by omega),if_neg (by omega),if_neg (by omega),if_neg (by omega)]
    rw[this];rfl
   ·rfl
  rw[hs];exact mkStep_no ok hR hu hy
end
end Go.Proofs.YtldomapkmopomaaGreatDoor.Sw
