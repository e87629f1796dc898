/-The walker and the contracts that the law needs,part 29. -/
import Derived.Test.YtldomapkmopomaaGreatDoorD1
import Derived.ArgAppend
import Derived.ChangeMaps5
import Derived.Deep.Fields
import Derived.Deep.LoopGhost
import Derived.Deep.OwnRows
import Derived.Deep.Quiet
import Derived.Deep.Slices
import Derived.IntWalk
import Derived.Laws.Cells
import Derived.Laws.CopyOwn
import Derived.Laws.Externs
import Derived.Laws.FloatArith
import Derived.Laws.IdiomStrings
import Derived.Laws.NewFold
import Derived.Laws.StructEq
import Derived.Lib.BitFns
import Derived.Lib.Hide
import Derived.Lib.SmallJoins
import Derived.Lib.TrailingZeros
import Derived.Maps.RangeRun
import Derived.OrdersIn
import Derived.ProofKit
import Derived.RangeFuncBound
import Derived.RangeFuncCalls
import Derived.RangeFuncLeaves
import Derived.RangeFuncNested
import Derived.RecoverIn
import Derived.Shelf.Bits.Mul64
import Derived.Shelf.Slices.Turned
import Derived.Shelf.Spec.TrailingZeros
import Derived.Shelf.Strconv.Itoa0
import Derived.SizedLaws
import Derived.Sort.BigQuietIn
import Derived.StillTailTactics
import Derived.Test.YtldomapkmopomaaGreatDoorProg
import Derived.WalkKit
import Derived.Test.YtldomapkmopomaaGreatDoorJ25
import Derived.Test.YtldomapkmopomaaGreatDoorJ27
import Derived.Test.YtldomapkmopomaaGreatDoorJ28
set_option linter.unusedVariables false set_option linter.unusedSimpArgs false namespace Go.Proofs.YtldomapkmopomaaGreatDoor.Sw
set_option maxHeartbeats 8000000
open Go.Proofs.YtldomapkmopomaaGreatDoor renaming lo → qL, hi → qH
open Go.RowKit
set_option linter.unusedVariables false
set_option linter.unusedSimpArgs false
set_option maxRecDepth 10000
structure ArM where
 b:Nat
 r:J7
def jR (a:ArM) (p:jO):jb:=(a.b,cells [.pointer (some ⟨p.b,0,none⟩), .pointer (some ⟨a.r.b,0,none⟩), .int .i64 (JG p.g.L a.r.bs:Nat)] 166)::jz a.r
theorem arenaH_app {a:ArM} {p:jO} {F:jb}:jR a p++F=(a.b,cells [.pointer (some ⟨p.b,0,none⟩), .pointer (some ⟨a.r.b,0,none⟩), .int .i64 (JG p.g.L a.r.bs:Nat)] 166)::(jz a.r++F):=rfl
structure JW (a:ArM) (p:jO):Prop where
 pl:J2 p
 r:RowOk a.r
 n:a.r.bs.length=p.g.slots
theorem jfn {a:ArM} {p:jO} (ok:JW a p) (A:List Bool):JG p.g.L A≤1048576:=by
 have h:=used_le (B:=64) (l:=p.g.L) (A:=A) (fun q hq=>by
  obtain⟨i,hi⟩:=List.getElem?_of_mem hq
  exact(ok.pl.g.fits hi).2.2.1)
 have:=ok.pl.g.slots.2
 rw[jah] at h;omega
def setA (a:ArM) (i:Nat) (v:Bool):ArM:=⟨a.b,Jr a.r i v⟩
theorem setA_ok {a:ArM} {p:jO} (ok:JW a p) (i:Nat) (v:Bool):JW (setA a i v) p:=⟨ok.pl,jcs ok.r i v,by simp[setA,Jr,ok.n]⟩
theorem arnone_K {w0:World} {F:jb} {a:ArM} {p:jO}:
  Call Tryz.prog w0 80 [.pointer (some ⟨a.b,0,none⟩)] (jR a p++F) (fun r H'=>r= .bool false∧H'=jR a p++F):=by
 refine Call.enter1 (n:=12) (by kernel_rfl) Tryz.func80 rfl rfl rfl ?_;simp only[jB,jN,arenaH_app];refine yr25 ?_;exact zfC
theorem Has_K {w0:World} {F:jb} {a:ArM} {p:jO} {i:Int} (ok:JW a p):
  Call Tryz.prog w0 35 [.pointer (some ⟨a.b,0,none⟩), .int .i64 i] (jR a p++F) (fun r H'=>r= .bool (getB a.r.bs i)∧H'=jR a p++F):=by
 have okr:=ok.r
 refine Call.enter2 (n:=16) (by kernel_rfl) Tryz.func35 rfl rfl rfl ?_;refine yq8 fun T hT=>?_;refine(CallV.fn (arnone_K (a:=a) (p:=p))).mono ?_;rintro _ _ ⟨rfl,rfl⟩;refine za ?_;clear hT T;simp only[jB,jN,arenaH_app];refine yq13 fun T hT=>?_;refine(CallV.part (CallV.fn (Get_K (i:=i) okr)) ja).mono ?_;refine zc ?_;clear hT T;simp only[jB,jN,arenaH_app];refine yr5 ?_;exact zfC
theorem aCopy_K {w0:World} {F:jb} {a:ArM} {p:jO} (ok:JW a p):
  Call Tryz.prog w0 130 [.pointer (some ⟨a.b,0,none⟩)] (jR a p++F) (fun r H'=> ∃ a':ArM,JW a' p∧a'.r.bs=a.r.bs∧r= .pointer (some ⟨a'.b,0,none⟩)∧H'=jR a' p++(jR a p++F)):=by
 have okr:=ok.r
 refine Call.enter1 (n:=20) (by kernel_rfl) Tryz.func130 rfl rfl rfl ?_;refine yq9 fun T hT=>?_;refine(CallV.fn (arnone_K (a:=a) (p:=p))).mono ?_;rintro _ _ ⟨rfl,rfl⟩;refine za ?_;clear hT T;simp only[jB,jN,arenaH_app];refine yr6 ?_;refine K.drawn _ [(0,1),(1,1),(2,1),(3,1),(4,0),(5,0),(6,0),(7,0),(9,1),(10,1),(11,1),(12,1),(8,2),(13,0),(14,2),(15,0)] (by kernel_rfl) (by kernel_rfl) (by kernel_rfl) (by kernel_rfl) (by kernel_rfl) (by kernel_rfl) Part.all ?_;refine zaw ?_;refine zeY ?_;refine zaX ?_;refine zaw ?_;refine zcR ?_;refine zx ?_;refine zi fun T hT=>?_;refine(CallV.part (CallV.fn (jew okr)) ja).mono ?_;rintro _ _ ⟨r',kr',hbs,rfl,rfl⟩;refine zh ?_;clear hT T;simp only[jB,jN,arenaH_app];refine ze1 ?_;intro b19;refine zaK ?_;refine yr2 ?_;exact KE.fin (H':=jR ⟨b19,r'⟩ p++(jR a p++F)) jd rfl jc (by simp only[arenaH_app,jB,hbs];exact ja) ⟨⟨b19,r'⟩,⟨ok.pl,kr',by rw[hbs];exact ok.n⟩,hbs,rfl,rfl⟩
theorem aNew_K {w0:World} {F:jb} {p:jO} (ok:J2 p):
  Call Tryz.prog w0 58 [.pointer (some ⟨p.b,0,none⟩)] (planH p++F) (fun r H'=> ∃ a:ArM,JW a p∧a.r.bs=List.replicate p.g.slots false∧r= .tuple [.pointer (some ⟨a.b,0,none⟩), .int .i64 0].toArray∧H'=jR a p++(planH p++F)):=by
 have hs:=ok.g.slots
 have hne: ¬((p.g.slots:Nat):Int)=0:=by omega
 refine Call.enter1 (n:=20) (by kernel_rfl) Tryz.func58 rfl rfl rfl ?_;refine yq10 fun T hT=>?_;refine(CallV.fn (jco ok)).mono ?_;rintro _ _ ⟨rfl,rfl⟩;refine za ?_;clear hT T;refine yq9 fun T hT=>?_;refine(CallV.fn (jco ok)).mono ?_;rintro _ _ ⟨rfl,rfl⟩;refine za ?_;clear hT T;refine zz fun T hT=>?_;refine(CallV.fn (jdH (n:=p.g.slots) (by omega))).mono ?_;rintro _ _ ⟨r,kr,hbs,rfl,rfl⟩;refine za ?_;clear hT T;refine yr12 ?_;refine ze ?_;intro b18;refine yr6 ?_
 have hu:JG p.g.L r.bs=0:=by rw[hbs];exact used_rep
 exact KE.fin (H':=jR ⟨b18,r⟩ p++(planH p++F)) jd rfl jc (by simp only[arenaH_app,hu];exact ja) ⟨⟨b18,r⟩,⟨ok,kr,by rw[hbs];exact List.length_replicate⟩,hbs,rfl,rfl⟩
theorem turn_K {w0:World} {F:jb} {a:ArM} {p:jO} {i:Nat} {v:Bool} {x:ju} {g:FuncId} {cap:List Value} {u:Int} (ok:JW a p) (hx:p.g.L[i]?=some x) (hu:u=(JG p.g.L (a.r.bs.set i v):Nat))
  (hf: ∀ H',Part H' ((a.b,cells [.pointer (some ⟨p.b,0,none⟩), .pointer (some ⟨a.r.b,0,none⟩), .int .i64 (JG p.g.L a.r.bs:Nat)] 166)::F)→CallV Tryz.prog w0 (.func (.func g) #[] cap.toArray) [.int .i64 (x.size:Nat)] H' (fun r H''=>r= .int .i64 u∧H''=H')):
  Call Tryz.prog w0 106 [.pointer (some ⟨a.b,0,none⟩), .int .i64 (i:Nat), .bool v, .func (.func g) #[] cap.toArray] (jR a p++(planH p++F)) (fun r H'=>r= .tuple #[]∧H'=jR (setA a i v) p++(planH p++F)):=by
 have okr:=ok.r
 have okp:=ok.pl
 have hil:i<a.r.bs.length:=by rw[ok.n,←jah];exact jl hx
 refine Call.enter4 (n:=32) (by kernel_rfl) Tryz.func106 rfl rfl rfl ?_;simp only[jB,jN,arenaH_app];refine yq7 fun T hT=>?_;refine(CallV.part (CallV.fn (Size0_K okp hx)) (by first|exact ja|(simp only[jB,jN,arenaH_app];exact ja))).mono ?_;refine zc ?_;clear hT T;simp only[jB,jN,arenaH_app];refine yq15 fun T hT=>?_;refine(CallV.part (CallV.fn (Set_K (v:=v) okr hil)) (by first|exact ja|(simp only[jB,jN,arenaH_app];exact ja))).mono ?_;refine zc ?_;clear hT T;refine yq6 fun T hT=>?_;refine(hf _ ja).mono ?_;refine zc ?_;clear hT T;refine yr4 ?_;subst hu;exact KE.finN (H':=jR (setA a i v) p++(planH p++F)) jd rfl jc (by simp only[arenaH_app,jN,setA];exact ja) ⟨rfl,rfl⟩
open Go.RowKit
set_option maxRecDepth 10000
theorem nextB_free {A:List Bool} {f m:Nat}:jay A f m=match nextB A f false with
  |some i=>if i<f+m then some i else none
  |none=>none:=by
 cases h:nextB A f false with
 |none=>
  refine jf9 fun j h1 h2 h3=>?_
  unfold nextB at h;rw[List.find?_eq_none] at h
  have hj:=jl h3
  have:=h j (List.mem_range.2 hj)
  rw[h3] at this
  simp[h1] at this
 |some i=>
  obtain⟨h1,h2,h3,h4⟩:=jaZ h
  have hi:A[i]?=some false:=by
   rw[List.getElem?_eq_getElem h1] at h3⊢
   simp at h3;rw [h3]
  have hno: ∀ j,f≤j→j<i→A[j]?≠some false:=fun j q1 q2 q3=>h4 j q1 q2 (by rw[q3];rfl)
  dsimp only
  split
  ·exact free_is h2 (by assumption) hi hno
  ·exact jf9 fun j q1 q2=>hno j q1 (by omega)
theorem Take_K {w0:World} {F:jb} {a:ArM} {p:jO} {k:Int} (hG:jw w0) (ok:JW a p):
  Call Tryz.prog w0 52 [.pointer (some ⟨a.b,0,none⟩), .int .i64 k] (jR a p++(planH p++F)) (fun r H'=>r= .tuple [.int .i64 (takeP p.g a.r.bs k).1, .int .i64 (takeP p.g a.r.bs k).2.1].toArray∧ ∃ a':ArM,JW a' p∧a'.b=a.b∧a'.r.b=a.r.b∧a'.r.bs=(takeP p.g a.r.bs k).2.2∧H'=jR a' p++(planH p++F)):=by
 have okr:=ok.r
 have okp:=ok.pl
 by_cases hk:0≤k∧k<(p.g.m:Nat)
 ·obtain⟨k,rfl⟩: ∃ q:Nat,k=q:=⟨k.toNat,by omega⟩
  have hkm:k<p.g.m:=by omega
  have hfi:=okp.g.first (Nat.le_of_lt hkm)
  have hni:=okp.g.n hkm
  have htk:takeP p.g a.r.bs (k:Nat)=match jay a.r.bs (p.g.first k) (p.g.n k) with|some i=>((i:Nat),0,a.r.bs.set i true)|none=>(0,6,a.r.bs):=by
   unfold takeP;rw [if_pos hk];rfl
  have hsum:((p.g.first k:Nat):Int)+((p.g.n k:Nat):Int)=((p.g.first k+p.g.n k:Nat):Int):=by omega
  refine Call.enter2 (n:=49) (by kernel_rfl) Tryz.func52 rfl rfl rfl ?_;refine yr2 ?_;refine ze ?_;intro b2;refine yq8 fun T hT=>?_;refine zeE ?_;refine zc ?_;clear hT T;rw[arenaH_app];refine yq12 fun T hT=>?_;refine(CallV.part (CallV.fn (Of0_K okp hkm)) ja).mono ?_;refine zc ?_;clear hT T;refine yq26 fun T hT=>?_;refine(CallV.part (CallV.fn (jc6 (k:=p.g.first k) (v:=false) okr hG (by omega))) ja).mono ?_;refine zq ?_;rw[nextB_free] at htk
  cases hnx:nextB a.r.bs (p.g.first k) false with
  |none=>
   rw[hnx] at htk;dsimp only at htk;unfold nxI;dsimp only[Option.isSome,Option.getD];refine za ?_;clear hT T;rw[htk];refine yr30 ?_;exact zeF
  |some i=>
   rw[hnx] at htk;dsimp only at htk;unfold nxI;dsimp only[Option.isSome,Option.getD]
   obtain⟨n1,n2,n3,n4⟩:=jaZ hnx
   by_cases hin:i<p.g.first k+p.g.n k
   ·rw[if_pos hin] at htk;dsimp only at htk
    have hnge: ¬((i:Nat):Int)≥((p.g.first k:Nat):Int)+((p.g.n k:Nat):Int):=by omega
    obtain⟨x,hx⟩:=Jg (g:=p.g) (i:=i) (by rw[←ok.n];exact n1)
    have hus:=jfm (v:=true) hx n1
    have hi:a.r.bs[i]?=some false:=by
     rw[List.getElem?_eq_getElem n1] at n3⊢
     simp at n3;rw [n3]
    rw[hi] at hus;simp only[Option.some.injEq,Bool.false_eq_true,if_false,if_true] at hus
    have hub:=jfn ok (a.r.bs.set i true)
    have hua:=jfn ok a.r.bs
    refine za ?_;clear hT T;rw[htk];refine yq34 fun T hT=>?_;refine(CallV.part (CallV.fn (turn_K (F:=(b2,cells [.pointer (some ⟨a.b,0,none⟩)] 73)::F) (v:=true) (g:=107) (cap:=[.pointer (some ⟨b2,0,none⟩)]) ok hx rfl ?_)) (by first|exact ja|(simp only[jB,jN,arenaH_app];exact ja))).mono ?_
    ·intro H' hp;refine zen ?_
     have s1:jA w0 H' ⟨b2,0,none⟩ (.pointer (some ⟨a.b,0,none⟩)):=(jA.cell (H:=(a.b,cells [.pointer (some ⟨p.b,0,none⟩), .pointer (some ⟨a.r.b,0,none⟩), .int .i64 (JG p.g.L a.r.bs:Nat)] 166)::(b2,cells [.pointer (some ⟨a.b,0,none⟩)] 73)::F) jq rfl).more hp
     have s2:jA w0 H' ⟨a.b,2,none⟩ (.int .i64 (JG p.g.L a.r.bs:Nat)):=(jA.cell (H:=(a.b,cells [.pointer (some ⟨p.b,0,none⟩), .pointer (some ⟨a.r.b,0,none⟩), .int .i64 (JG p.g.L a.r.bs:Nat)] 166)::(b2,cells [.pointer (some ⟨a.b,0,none⟩)] 73)::F) jq rfl).more hp
     have hue:((JG p.g.L (a.r.bs.set i true):Nat):Int)=((JG p.g.L a.r.bs:Nat):Int)+((x.size:Nat):Int):=by omega
     rw[hue];refine Call.enter2 (n:=10) (by kernel_rfl) Tryz.func107 rfl rfl rfl ?_;refine yr17 ?_;exact zd
    ·refine zc ?_;clear hT T;refine yr10 ?_;exact KE.fin jd rfl jc ja ⟨rfl,setA a i true,setA_ok ok i true,rfl,rfl,rfl,rfl⟩
   ·rw[if_neg hin] at htk;dsimp only at htk
    have hge:((i:Nat):Int)≥((p.g.first k:Nat):Int)+((p.g.n k:Nat):Int):=by omega
    refine za ?_;clear hT T;rw[htk];refine yr35 ?_;exact zeF
 ·have htk:takeP p.g a.r.bs k=(0,2,a.r.bs):=by unfold takeP;rw [if_neg hk]
  rw[htk];refine Call.enter2 (n:=49) (by kernel_rfl) Tryz.func52 rfl rfl rfl ?_;refine yr2 ?_;refine ze ?_;intro b2;refine yq8 fun T hT=>?_;refine zeE ?_;refine zc ?_;clear hT T;rw[arenaH_app];refine yq12 fun T hT=>?_;refine(CallV.part (CallV.fn (Of0_E okp hk)) ja).mono ?_;refine zc ?_;clear hT T;refine yr26 ?_;exact zeF
theorem agive_K {w0:World} {F:jb} {a:ArM} {p:jO} {i:Nat} (ok:JW a p) (hi:a.r.bs[i]?=some true):
  Call Tryz.prog w0 219 [.pointer (some ⟨a.b,0,none⟩), .int .i64 (i:Nat)] (jR a p++(planH p++F)) (fun r H'=>r= .tuple #[]∧H'=jR (setA a i false) p++(planH p++F)):=by
 have n1:=jl hi
 obtain⟨x,hx⟩:=Jg (g:=p.g) (i:=i) (by rw[←ok.n];exact n1)
 have hus:=jfm (v:=false) hx n1
 rw[hi] at hus;simp only[Bool.false_eq_true,if_false,if_true] at hus
 have hua:=jfn ok a.r.bs
 refine Call.enter2 (n:=8) (by kernel_rfl) Tryz.func219 rfl rfl rfl ?_;refine yr2 ?_;refine ze ?_;intro b2;refine yq6 fun T hT=>?_;refine(CallV.part (CallV.fn (turn_K (F:=(b2,cells [.pointer (some ⟨a.b,0,none⟩)] 73)::F) (v:=false) (g:=267) (cap:=[.pointer (some ⟨b2,0,none⟩)]) ok hx rfl ?_)) ja).mono ?_
 ·intro H' hp;refine zen ?_
  have s1:jA w0 H' ⟨b2,0,none⟩ (.pointer (some ⟨a.b,0,none⟩)):=(jA.cell (H:=(a.b,cells [.pointer (some ⟨p.b,0,none⟩), .pointer (some ⟨a.r.b,0,none⟩), .int .i64 (JG p.g.L a.r.bs:Nat)] 166)::(b2,cells [.pointer (some ⟨a.b,0,none⟩)] 73)::F) jq rfl).more hp
  have s2:jA w0 H' ⟨a.b,2,none⟩ (.int .i64 (JG p.g.L a.r.bs:Nat)):=(jA.cell (H:=(a.b,cells [.pointer (some ⟨p.b,0,none⟩), .pointer (some ⟨a.r.b,0,none⟩), .int .i64 (JG p.g.L a.r.bs:Nat)] 166)::(b2,cells [.pointer (some ⟨a.b,0,none⟩)] 73)::F) jq rfl).more hp
  have hue:((JG p.g.L (a.r.bs.set i false):Nat):Int)=((JG p.g.L a.r.bs:Nat):Int)-((x.size:Nat):Int):=by omega
  rw[hue];refine Call.enter2 (n:=10) (by kernel_rfl) Tryz.func267 rfl rfl rfl ?_;refine yr17 ?_;exact zd
 ·refine zc ?_;clear hT T;refine yr1 ?_;exact KE.finN jd rfl jc ja ⟨rfl,rfl⟩
set_option maxRecDepth 10000
structure FuI where
 i:Nat
theorem jfE {m:MaP} {i:Nat} (hi:i<m.hs.length) (h:(JH m i).is=true) (hno: ∀ j,j<i→(JH m j).is=false):fullM m=some i:=by
 unfold fullM;rw[List.find?_range_eq_some];exact⟨h,List.mem_range.2 hi,fun j hj=>by rw[hno j hj];decide⟩
theorem jfD {m:MaP} (hno: ∀ j,j<m.hs.length→(JH m j).is=false):fullM m=none:=by
 unfold fullM;rw[List.find?_eq_none];intro j hj;rw[hno j (List.mem_range.1 hj)];decide
section
variable {w0 : World} {F : jb} {k : MkM} {B : BoM} {T : TbM} {N : PiM} {W : MwP} {m : MaP}
theorem mkfull_K {H:jb} {b:Nat}:
  Call Tryz.prog w0 208 [.pointer (some ⟨b,0,none⟩)] H (fun u H'=> ∃ bl,u= .func (.func 263) #[] [.pointer (some ⟨bl,0,none⟩)].toArray∧H'=(bl,cells [.pointer (some ⟨b,0,none⟩)] 77)::H):=by
 refine Call.enter1 (n:=4) (by kernel_rfl) Tryz.func208 rfl rfl rfl ?_;refine yr2 ?_;refine ze ?_;intro b1;refine yr10 ?_;exact KE.fin jd rfl jc ja ⟨b1,rfl,rfl⟩
theorem jg8 {A0:jb} {bl:Nat} {yv:Value} (ok:MkOk k B.p) (hhs:k.hs=m.hs) (E:jb→Prop)
  (hy: ∀ i,fullM m=some i→CallV Tryz.prog w0 yv [.int .i64 (i:Nat)] (A0++((bl,cells [.pointer (some ⟨k.b,0,none⟩)] 77)::(jk k B.p++F))) (fun u H'=>u= .bool false∧E H')):
  Call Tryz.prog w0 263 [yv, .pointer (some ⟨bl,0,none⟩)] (A0++((bl,cells [.pointer (some ⟨k.b,0,none⟩)] 77)::(jk k B.p++F)))
   (fun _ H'=>(fullM m=none∧H'=A0++((bl,cells [.pointer (some ⟨k.b,0,none⟩)] 77)::(jk k B.p++F)))∨E H'):=by
 have ho:=ok.o
 have hh9:=ok.hs
 have hml:m.hs.length=k.hs.length:=by rw[hhs]
 refine Call.enter2 (n:=24) (by kernel_rfl) Tryz.func263 rfl rfl rfl ?_;simp only[ji];refine yr11 ?_;refine K.loopT (σ:=FuI) [(0,_),(8,_),(9,_)] (fun s kp_=>(10, .int .i64 (s.i:Nat))::kp_) (fun s=>A0++((bl,cells [.pointer (some ⟨k.b,0,none⟩)] 77)::(jk k B.p++F))) (fun s=>s.i≤k.hs.length∧ ∀ j,j<s.i→(JH m j).is=false) (fun s=>k.hs.length-s.i) (⟨0⟩) jg (by first|exact ja|(simp only[ji];exact ja)) (⟨Nat.zero_le _,fun j h=>absurd h (Nat.not_lt_zero _)⟩) ?_;rintro⟨i⟩ ⟨hi,hno⟩;dsimp only at hi hno⊢;simp only[ji]
 by_cases hlt:i<k.hs.length
 ·obtain⟨h,hh⟩:=jn hlt
  have hha:JH m i=h:=jal (by rw[←hhs];exact hh)
  obtain⟨hsl,hfi,his⟩:=h
  cases his with
  |true=>
   have hf:=jfE (by omega) (by rw[hha]) hno
   refine yr16 ?_;refine zf ?_;intro b4;refine yq14 fun T hT=>?_;refine(CallV.part (hy i hf) (by first|exact ja|(simp only[ji];exact ja))).mono ?_;rintro _ H' ⟨rfl,hE⟩;refine za ?_;clear hT T;refine yr11 ?_;exact KE.fin jd rfl jc ja (.inr hE)
  |false=>
   refine yr16 ?_;refine zf ?_;intro b4;refine yr24 ?_
   exact KE.again ⟨i+1⟩ jg (by first|exact ja|(simp only[ji];exact ja)) ⟨hlt,fun j (hj:j<i+1)=>by
    rcases Nat.lt_or_ge j i with h|h
    ·exact hno j h
    ·have:j=i:=by omega
     subst this
     rw[hha]⟩ (by show k.hs.length-(i+1)<k.hs.length-i;omega)
 ·refine yr11 ?_;exact KE.finN jd rfl jc (by first|exact ja|(simp only[ji];exact ja)) (.inl ⟨jfD fun j hj=>hno j (by omega),rfl⟩)
end
section
variable {w0 : World} {F : jb} {k : MkM} {B : BoM} {T : TbM} {N : PiM} {W : MwP} {m : MaP}
theorem mkDone_K (hG:jw w0) (hp:MpR k B T N W) (ok:MkOk k B.p) (hR:MkR k B.p m) (hm:jv B.p.g k.g.ring.length W m):
  Call Tryz.prog w0 204 [.pointer (some ⟨k.b,0,none⟩)] (jk k B.p++(planH B.p++(seenH B T N++F))) (fun r H'=>r= .bool (Jl B.p.g W m)∧H'=jk k B.p++(planH B.p++(seenH B T N++F))):=by
 have okg:=ok.g
 have hac:=fun A=>jcg (w0:=w0) (F:=A) (k:=k) (p:=B.p)
 have hact:=hR.act
 have hroots:=fun A=>jg7 (w0:=w0) (F:=A) hp ok
 have hem:=fun A=>grEmpty_K (w0:=w0) (F:=A) hG okg hR.G hm.G
 have hrt:=hm.root
 have hr:=hR.root
 rw[←hr] at hrt
 have hd:Jl B.p.g W m=(k.act&&((fullM m).isNone&&(decide (((k.root:Nat):Int)=((W.T.length+B.p.g.slots:Nat):Int))&&JU m.G))):=by
  unfold Jl;rw[hact,←hr]
  congr 3
  exact decide_eq_decide.2 (by omega)
 cases ha:k.act with
 |false=>
  have hdf:Jl B.p.g W m=false:=by rw[hd,ha];rfl
  rw[hdf];simp only[ha] at hac;refine Call.enter1 (n:=23) (by kernel_rfl) Tryz.func204 rfl rfl rfl ?_;refine yr2 ?_;refine zf ?_;intro b2;refine yq6 fun T hT=>?_;refine zao ?_;clear hT T;refine yr11 ?_;exact zfw
 |true=>
  simp only[ha] at hac;refine Call.enter1 (n:=23) (by kernel_rfl) Tryz.func204 rfl rfl rfl ?_;refine yr2 ?_;refine zf ?_;intro b2;refine yq6 fun T hT=>?_;refine zao ?_;clear hT T;refine yq10 fun T hT=>?_;refine(CallV.fn mkfull_K).mono ?_;rintro _ _ ⟨bl,rfl,rfl⟩;refine za ?_;clear hT T;refine yr3 ?_;refine K.rangeFunc (lb:=[.pointer (some ⟨bl,0,none⟩)]) rfl
   (fun D G=>fullM m=none∧G=(D, .deferred (some []))::(b2,cells [.bool false] 4)::(jk k B.p++(planH B.p++(seenH B T N++F))))
   (fun D c G=>c= .ret∧ ∃ i,fullM m=some i∧G=(D, .deferred (some []))::(b2,cells [.bool false] 4)::(jk k B.p++(planH B.p++(seenH B T N++F)))) ?_ ?_ ?_
  ·intro l D rc hyl
   refine(Call.part (jg8 (F:=planH B.p++(seenH B T N++F)) (bl:=bl) ok hR.hs
    (fun H'=> ∃ i,fullM m=some i∧H'=(l, .loop (rc .done (some .ret)))::((D, .deferred (some []))::(b2,cells [.bool false] 4)::(bl,cells [.pointer (some ⟨k.b,0,none⟩)] 77)::(jk k B.p++(planH B.p++(seenH B T N++F)))))
    (A0:=(l, .loop (rc .ready none))::(D, .deferred (some []))::(b2,cells [.bool false] 4)::[]) ?_) (by simp only[List.cons_append,List.nil_append];exact ja)).mono ?_
   ·intro i hf;simp only[List.cons_append,List.nil_append];refine zcS ?_;refine yr10 ?_;refine KE.part ((l, .loop (rc .busy none))::((D, .deferred (some []))::(b2,cells [.bool false] 4)::(bl,cells [.pointer (some ⟨k.b,0,none⟩)] 77)::(jk k B.p++(planH B.p++(seenH B T N++F))))) ja ?_;exact KE.roundR jH.head ⟨rfl,i,hf,rfl⟩
   ·rintro _ _ (⟨hno,rfl⟩|⟨i,hf,rfl⟩)
    ·refine .inl ⟨_,?_,hno,rfl⟩;exact zco
    ·exact .inr ⟨.ret,_,ja,rfl,i,hf,rfl⟩
  ·rintro D G ⟨hf,rfl⟩
   by_cases hrr:((k.root:Nat):Int)=((W.T.length+B.p.g.slots:Nat):Int)
   ·have hdf:Jl B.p.g W m=JU m.G:=by rw[hd,ha,hf,decide_eq_true hrr];rfl
    rw[hdf];simp only[ji,seenH_app];refine yr3 ?_;refine zfD ?_;refine zaw ?_;refine zcJ ?_;refine zx ?_;refine zV fun T hT=>?_;refine zdv ?_;refine zq ?_;simp only[ji,seenH_app];refine zh ?_;clear hT T;refine zaC ?_;refine zA ?_;refine zaN ?_;refine zdp ?_;refine zah ?_;refine zv fun T hT=>?_;refine(CallV.part (CallV.fn (hem _)) (by first|exact ja|(simp only[ji,seenH_app];exact ja))).mono ?_;refine zl ?_;clear hT T;refine zaA ?_;refine zU ?_;refine yr2 ?_;exact zfE
   ·have hdf:Jl B.p.g W m=false:=by rw[hd,ha,decide_eq_false hrr];simp
    rw[hdf];simp only[ji,seenH_app];refine yr3 ?_;refine zfD ?_;refine zaw ?_;refine zcJ ?_;refine zx ?_;refine zV fun T hT=>?_;refine zdv ?_;refine zq ?_;simp only[ji,seenH_app];refine zh ?_;clear hT T;refine za4 ?_;refine zaR ?_;refine zdi ?_;refine zag ?_;refine zU ?_;refine yr2 ?_;exact zfE
  ·rintro D c G ⟨rfl,i,hf,rfl⟩
   have hdf:Jl B.p.g W m=false:=by rw[hd,hf];simp
   rw[hdf];refine yr3 ?_;exact zd
end
open Go.RowKit
set_option maxRecDepth 10000
structure KmV where
 c:Value
 u:GyV
 h:Value
def kmL (v:PlV) (g:PlG) (long:Nat) (q:KmV) (m:MaP):List Value:=[q.c,v.L,v.F,v.M, .int .i64 (g.words:Nat),v.C, .int .i64 (long:Nat),q.u.Q,q.u.ow,q.u.di, .int .i64 (pgI m.G), .int .i64 (m.G.at_:Nat),q.h, .int .i64 (m.root:Nat), .bool m.act, .int .i64 (m.steps:Nat)]
structure KmD (w0:World) (D:jb) (q:KmV) (m:MaP):Prop where
 C:Sli w0 D bE q.c m.C
 G:GyD w0 D q.u m.G
 H:Sli w0 D Ja q.h m.hs
 oc:q.c.oneCell'=true
 oh:q.h.oneCell'=true
theorem KmD.part {w0:World} {D D':jb} {q:KmV} {m:MaP} (h:KmD w0 D q m) (hp:Part D' D):KmD w0 D' q m:=⟨h.C.part hp,h.G.part hp,h.H.part hp,h.oc,h.oh⟩
def KmG (w0:World) (D F:jb) (v:PlV) (g:PlG) (long:Nat) (m':MaP) (f:Value→Value) (r:Value) (H':jb):Prop:=
 ∃ (q':KmV) (N:jb),KmD w0 (N++D) q' m'∧r=f (.agg (kmL v g long q' m').toArray)∧H'=N++(D++F)
section
variable {w0 : World} {D F : jb} {v : PlV} {g : PlG} {long : Nat} {q : KmV} {m : MaP} {W : MwP}
set_option maxHeartbeats 1000000 in
theorem je5 {s:Nat} (hP:J3 w0 D v g) (ok:je g) (hK:KmD w0 D q m) (hm:jv g long W m) (hlg:long≤64) (hs:s<g.slots):
  Call Tryz.prog w0 299 [.agg (kmL v g long q m).toArray, .int .i64 (s:Nat)] (D++F) (KmG w0 D F v g long (Jh g long m (s:Nat)) id):=by
 have q1:=hP.oL
 have q2:=hP.oF
 have q3:=hP.oM
 have q4:=hP.oC
 have q5:=hK.G.o1
 have q6:=hK.G.o2
 have q7:=hK.G.o3
 have q8:=hK.oc
 have q9:=hK.oh
 have hsl:=ok.slots
 obtain⟨c,hc⟩:=jn (l:=m.C) (k:=s) (by rw[hm.C];exact hs)
 have hcl:m.C.length≤65536:=by rw[hm.C];omega
 have hsh:=fun A=>rtShade_K (w0:=w0) (D:=D) (F:=A) hK.C hK.oc hc hcl
 unfold KmG id
 by_cases h0:c=0
 ·have hsm:Jh g long m (s:Nat)={m with C:=m.C.set s 1,G:=JC g long m.G s}:=by
   unfold Jh;rw[Int.toNat_natCast,hc,h0,if_pos ⟨by omega,rfl⟩]
  rw[hsm];rw[if_pos h0,decide_eq_true h0] at hsh;unfold kmL;dsimp only;refine Call.enter2 (n:=34) (by kernel_rfl) Tryz.func299 rfl rfl rfl ?_;refine yr2 ?_;refine zj ?_;intro b2 b4;refine yq7 fun T hT=>?_;refine zbn ?_;rintro _ _ ⟨vc',N1,hC',ov',rfl,rfl⟩
  have hput:=fun A=>ryPut_K (w0:=w0) (D:=N1++D) (F:=A) (hP.part ja) (hK.G.part ja) hm.G ok hlg hs
  unfold gyL at hput;refine za ?_;clear hT T;refine yq37 fun T hT=>?_;refine(CallV.part (CallV.fn (hput _)) (by rw[List.append_assoc];exact ja)).mono ?_;rintro _ _ ⟨u',N2,hG',rfl,rfl⟩
  have p5:=hG'.o1
  have p6:=hG'.o2
  have p7:=hG'.o3
  refine za ?_;clear hT T;refine yr14 ?_;exact KE.fin (H':=(N2++N1)++(D++F)) jd rfl jc (by simp only[List.append_assoc];exact ja) ⟨⟨vc',u',q.h⟩,N2++N1,⟨hC'.part (by simp only[List.append_assoc];exact ja),by simp only[List.append_assoc];exact hG',hK.H.part (by simp only[List.append_assoc];exact ja),ov',q9⟩,rfl,rfl⟩
 ·have hsm:Jh g long m (s:Nat)=m:=by
   unfold Jh;rw[Int.toNat_natCast,hc,if_neg];rintro⟨_,h⟩;cases h;exact h0 rfl
  rw[hsm];rw[if_neg h0,decide_eq_false h0] at hsh;unfold kmL;refine Call.enter2 (n:=34) (by kernel_rfl) Tryz.func299 rfl rfl rfl ?_;refine yr2 ?_;refine zj ?_;intro b2 b4;refine yq7 fun T hT=>?_;refine zbn ?_;rintro _ _ ⟨vc',N1,hC',ov',rfl,rfl⟩;refine za ?_;clear hT T;refine yr31 ?_;exact za7
theorem rkShade_K {s:Nat} (hP:J3 w0 D v g) (ok:je g) (hK:KmD w0 D q m) (hm:jv g long W m) (hlg:long≤64) (hs:s<g.slots):
  Call Tryz.prog w0 270 [.agg (kmL v g long q m).toArray, .int .i64 (s:Nat)] (D++F) (KmG w0 D F v g long (jaF g long m (s:Nat)) id):=by
 have q1:=hP.oL
 have q2:=hP.oF
 have q3:=hP.oM
 have q4:=hP.oC
 have q5:=hK.G.o1
 have q6:=hK.G.o2
 have q7:=hK.G.o3
 have q8:=hK.oc
 have q9:=hK.oh
 have hsh:=fun A=>je5 (w0:=w0) (F:=A) hP ok hK hm hlg hs
 unfold KmG id jaF at*
 cases ha:m.act with
 |false=>
  simp only[Bool.false_eq_true,if_false];unfold kmL;rw[ha];refine Call.enter2 (n:=12) (by kernel_rfl) Tryz.func270 rfl rfl rfl ?_;refine yr2 ?_;refine zj ?_;intro b2 b4;refine yr19 ?_;exact za7
 |true=>
  simp only[if_true];unfold kmL at*;rw[ha] at hsh⊢;refine Call.enter2 (n:=12) (by kernel_rfl) Tryz.func270 rfl rfl rfl ?_;refine yr2 ?_;refine zj ?_;intro b2 b4;refine yq17 fun T hT=>?_;refine zbn ?_;rintro _ _ ⟨q',N,hK',rfl,rfl⟩
  have p5:=hK'.G.o1
  have p6:=hK'.G.o2
  have p7:=hK'.G.o3
  have p8:=hK'.oc
  have p9:=hK'.oh
  refine za ?_;clear hT T;refine yr4 ?_;exact zdG
theorem jds {i:Nat} {h:JQ} (hP:J3 w0 D v g) (hK:KmD w0 D q m) (hm:jv g long W m) (hi:i<m.hs.length):
  Call Tryz.prog w0 305 [.agg (kmL v g long q m).toArray, .int .i64 (i:Nat), .agg [.int .i64 h.slot, .int .i64 h.field, .bool h.is].toArray] (D++F) (KmG w0 D F v g long {m with hs:=m.hs.set i h} id):=by
 have q1:=hP.oL
 have q2:=hP.oF
 have q3:=hP.oM
 have q4:=hP.oC
 have q5:=hK.G.o1
 have q6:=hK.G.o2
 have q7:=hK.G.o3
 have q8:=hK.oc
 have q9:=hK.oh
 have hH:=hK.H
 have h9:=hm.hs
 obtain⟨z,hz⟩:=jn hi
 unfold KmG id kmL;dsimp only;refine Call.enter3 (n:=19) (by kernel_rfl) Tryz.func305 rfl rfl rfl ?_;refine yr2 ?_;refine zn ?_;intro b3 b5 b6;refine yr4 ?_;refine zt ?_;intro b8;refine yr2 ?_;refine KL.e rfl (Eff.appLit (E:=Ja) (ys:=m.hs) rfl rfl rfl rfl rfl rfl rfl jq (by first|exact Sli.blk jq rfl (by first|decide|simp) (by first|decide|(unfold maxLen;omega)) rfl|exact Sli.old (by assumption)|exact Sli.own jh (by assumption) jG|assumption|exact Sli.part (by assumption) ja) (by first|assumption|omega|(simp<;>fail)|(simp;omega)) rfl) ?_;rintro _ _ ⟨o',ok',rfl,rfl⟩;refine yr3 ?_;refine zk ?_;refine yr4 ?_;refine KL.eN (Eff.stSlA (x1:=h) rfl rfl rfl rfl jh (by assumption) (by assumption)) ?_;rintro _ _ rfl;refine yr16 ?_;exact KE.fin (H':=oH Ja 325 (m.hs.set i h) o'++(D++F)) jd rfl jc ja ⟨⟨q.c,q.u,oV o' m.hs.length⟩,oH Ja 325 (m.hs.set i h) o',⟨hK.C.part ja,hK.G.part ja,Sli.own jh (ok'.set i h) (by simp),q8,jK _ _⟩,rfl,rfl⟩
end
end Go.Proofs.YtldomapkmopomaaGreatDoor.Sw
