/-The walker and the contracts that the law needs,part 19. -/
import Derived.Test.YtpcgafhgfjlkmaaGreatDoorD1
import Derived.ArgAppend
import Derived.ChangeMaps5
import Derived.Deep.Fields
import Derived.Deep.LoopGhost
import Derived.Deep.OwnRows
import Derived.Deep.Quiet
import Derived.Deep.Slices
import Derived.IntWalk
import Derived.Laws.Cells
import Derived.Laws.CopyOwn
import Derived.Laws.Externs
import Derived.Laws.FloatArith
import Derived.Laws.IdiomStrings
import Derived.Laws.NewFold
import Derived.Laws.StructEq
import Derived.Lib.BitFns
import Derived.Lib.Hide
import Derived.Lib.SmallJoins
import Derived.Lib.TrailingZeros
import Derived.Maps.RangeRun
import Derived.OrdersIn
import Derived.ProofKit
import Derived.RangeFuncBound
import Derived.RangeFuncCalls
import Derived.RangeFuncLeaves
import Derived.RangeFuncNested
import Derived.RecoverIn
import Derived.Shelf.Bits.Mul64
import Derived.Shelf.Slices.Turned
import Derived.Shelf.Spec.TrailingZeros
import Derived.Shelf.Strconv.Itoa0
import Derived.SizedLaws
import Derived.Sort.BigQuietIn
import Derived.StillTailTactics
import Derived.Test.YtpcgafhgfjlkmaaGreatDoorProg
import Derived.WalkKit
import Derived.Test.YtpcgafhgfjlkmaaGreatDoorJ17
import Derived.Test.YtpcgafhgfjlkmaaGreatDoorJ18
set_option linter.unusedVariables false set_option linter.unusedSimpArgs false set_option linter.unusedVariables false
set_option linter.unusedSimpArgs false
namespace Go.Proofs.YtpcgafhgfjlkmaaGreatDoor.Sw
set_option maxHeartbeats 8000000
open Go.Proofs.YtpcgafhgfjlkmaaGreatDoor renaming lo → qL, hi → qH
open Go.RowKit
set_option maxRecDepth 10000
theorem mnone_K {w0:World} {F:jb} {m:Js} (ok:jau m):
  Call Tryz.prog w0 55 [.pointer (some ⟨m.b,0,none⟩)] (jv m++F) (fun r H'=>r= .bool false∧H'=jv m++F):=by
 have hb:=ok.b
 have hl:=jjP m.R
 have hne: ¬(((jaI m.R).length:Nat):Int)=0:=by omega
 refine Call.enter1 (n:=13) (by rfl) Tryz.func55 rfl rfl rfl ?_;simp only[Jy];refine zcp ?_;refine zbh ?_;refine zbp ?_;refine zi ?_;refine zbz ?_;refine zf ?_;exact zly
theorem jkb {w0:World} {F:jb} {m:Js} {t:Nat} {x:List Int} (ok:jau m) (ht:m.R[t]?=some x):
  Call Tryz.prog w0 67 [.pointer (some ⟨m.b,0,none⟩), .int .i64 (t:Nat)] (jv m++F) (fun r H'=>r=Jc (oV m.ow m.R.flatten.length) (baseP m.R t) (baseP m.R t+x.length) 1∧H'=jv m++F):=by
 have hb:=ok.b
 have hw:=ok.w
 have hl:=jjP m.R
 have htl:=jx ht
 have htn:=ok.t
 have hfn:=ok.n
 obtain⟨e1,e2⟩:=jcA ht
 have g1:=jjQ (R:=m.R) (t:=t) (by omega)
 have g2:=jjQ (R:=m.R) (t:=t+1) (by omega)
 have g2':(jaI m.R)[((t:Int)+1).toNat]?=some ((baseP m.R t+x.length:Nat):Int):=by grind
 have hge: ¬(t:Int)≥((jaI m.R).length:Nat)-1:=by omega
 refine Call.enter2 (n:=43) (by rfl) Tryz.func67 rfl rfl rfl ?_;refine zae ?_;refine zaP ?_;refine jq (mnone_K ok) ?_;simp only[Jy];refine zbk ?_;refine zci ?_;refine zbh ?_;refine zbp ?_;refine zi ?_;refine zdM ?_;refine zdj ?_;refine zdd ?_;refine za1 ?_;refine zlz ?_;refine zb4 ?_;refine zeZ ?_;refine zj ?_;refine zbP ?_;refine zej ?_;refine zeZ ?_;refine zj ?_;refine zc5 ?_;refine KD.v0 rfl rfl (Val.idxSlZ rfl rfl rfl (Sli.own jn (by omega) j6) rfl (by omega)) ?_;refine zej ?_;refine KD.v0 rfl rfl (Val.sliceLH rfl rfl rfl rfl (Sli.own jn (by omega) j6) rfl jL jL) ?_;refine zaV ?_;exact zly
theorem part_K {w0:World} {F:jb} {m:Js} {t a n:Nat} {x:List Int} (ok:jau m) (ht:m.R[t]?=some x) (hn:1≤n) (ha:a+n≤x.length):
  Call Tryz.prog w0 80 [.pointer (some ⟨m.b,0,none⟩), .int .i64 (t:Nat), .int .i64 (a:Nat), .int .i64 (n:Nat)] (jv m++F)
   (fun r H'=>r=Jc (oV m.ow m.R.flatten.length) (baseP m.R t+a) (baseP m.R t+(a+n)) 1∧H'=jv m++F):=by
 have hw:=ok.w
 obtain⟨e1,e2⟩:=jcA ht
 have hfn:=ok.n
 have hsl:Sli w0 (jv m++F) uE (Jc (oV m.ow m.R.flatten.length) (baseP m.R t) (baseP m.R t+x.length) 1) x:=by
  have h:Sli w0 (jv m++F) uE (oV m.ow m.R.flatten.length) m.R.flatten:=by rw[Jy];exact Sli.own jn hw rfl
  have h2:=h.sub (l:=baseP m.R t) (h:=baseP m.R t+x.length) (by omega) e2
  rw[flat_part ht] at h2;exact h2
 have hxl:x.length≤1000000000:=by omega
 have hcap:=own_cap hw
 have h2v:=fun hd=>subV_two (a:=baseP m.R t) (b:=baseP m.R t+x.length) (c:=a) (d:=a+n) hcap.1 hcap.2 e2 (by omega) hd (by omega)
 have h2v':=h2v (by omega)
 have hle:(a:Int)+(n:Int)=((a+n:Nat):Int):=by omega
 refine Call.enter4 (n:=40) (by rfl) Tryz.func80 rfl rfl rfl ?_;refine zck ?_;refine jq (jkb ok ht) ?_;refine z6 ?_;refine zT ?_;refine zf3 ?_;refine zbM ?_;refine zcx ?_;refine zfi ?_;refine zbM ?_;refine zcx ?_;refine zL ?_;refine zfo ?_;refine zfi ?_;refine zaR ?_;refine zbm ?_;refine zm ?_;refine zfP ?_;rw[hle];refine KL.v rfl (Val.sliceLH rfl rfl rfl rfl J3 rfl jL jL) ?_;refine zf ?_;rw[show uE.sz=1 from rfl,h2v'];exact zZ
theorem jic {w0:World} {F:jb} {m:Js} {t a n:Nat} {x:List Int} (ok:jau m) (ht:m.R[t]?=some x) (ha:a+n≤x.length):
  Sli w0 (jv m++F) uE (Jc (oV m.ow m.R.flatten.length) (baseP m.R t+a) (baseP m.R t+(a+n)) 1) ((x.take (a+n)).drop a):=by
 have hw:=ok.w
 obtain⟨e1,e2⟩:=jcA ht
 have h:Sli w0 (jv m++F) uE (oV m.ow m.R.flatten.length) m.R.flatten:=by rw[Jy];exact Sli.own jn hw rfl
 have h2:=h.sub (l:=baseP m.R t+a) (h:=baseP m.R t+(a+n)) (by omega) (by omega)
 obtain⟨A,B,hR,hA⟩:=jcY ht
 have hb:baseP m.R t=A.flatten.length:=by grind[jdt]
 have e:(m.R.flatten.take (baseP m.R t+(a+n))).drop (baseP m.R t+a)=(x.take (a+n)).drop a:=by
  rw[hb,hR,List.flatten_append,List.flatten_cons,List.take_append,List.take_of_length_le (by omega),show A.flatten.length+(a+n)-A.flatten.length=a+n by omega,List.take_append_of_le_length ha,List.drop_append,List.drop_of_length_le (by omega),List.nil_append,show A.flatten.length+a-A.flatten.length=a by omega]
 rw[e] at h2;exact h2
theorem Load_K {w0:World} {F:jb} {m:Js} {t a:Nat} {x:List Int} {w:Int} (ok:jau m) (ht:m.R[t]?=some x) (hx:x[a]?=some w):
  Call Tryz.prog w0 43 [.pointer (some ⟨m.b,0,none⟩), .int .i64 (t:Nat), .int .i64 (a:Nat)] (jv m++F) (fun r H'=>r= .tuple [.int .u64 w, .int .i64 0].toArray∧H'=jv m++F):=by
 have hal:=jx hx
 have hg:((x.take (a+1)).drop a)[0]?=some w:=by grind
 refine Call.enter3 (n:=12) (by rfl) Tryz.func43 rfl rfl rfl ?_;refine zaU ?_;intro b3 b4;refine zbR ?_;intro b5;refine zaD ?_;intro b6;refine zu ?_;refine zaJ fun T hT=>?_;refine(CallV.fn (on_K (R:=fun H'=>H'=(b6,cells [.int .u64 w] 33)::(jv m++F)) fun b=>CallV.clo (cap:=[.pointer (some ⟨b3,0,none⟩), .pointer (some ⟨b4,0,none⟩), .pointer (some ⟨b5,0,none⟩), .pointer (some ⟨b6,0,none⟩)]) ?_)).mono ?_
 ·refine Call.enter4 (n:=10) (by rfl) Tryz.func79 rfl rfl rfl ?_;refine K.region ?_;refine zp ?_;refine zp ?_;refine za5 fun T hT=>?_;refine(CallV.part (CallV.fn (part_K (a:=a) (n:=1) ok ht (by omega) (by omega))) ja).mono ?_;rintro _ _ ⟨rfl,rfl⟩
  have hs:=jic (w0:=w0) (F:=F) (a:=a) (n:=1) ok ht (by omega)
  have hsl:(0:Int).toNat<((x.take (a+1)).drop a).length:=by grind
  have hg':((x.take (a+1)).drop a)[(0:Int).toNat]?=some w:=hg
  refine zd ?_;clear hT T;refine zbr ?_;refine z8 ?_;refine zO ?_;refine zN ?_;exact KE.finN (H':=(b,cells [.int .i64 0] 40)::(b6,cells [.int .u64 w] 33)::(jv m++F)) je rfl jd ja ⟨_,rfl,Part.all⟩
 ·rintro _ _ ⟨rfl,rfl⟩;refine zd ?_;clear hT T;refine zu ?_;refine zdz ?_;refine zO ?_;exact zt
def setM (m:Js) (t a:Nat) (w:Int):Js:=⟨m.b,m.R.set t (((m.R[t]?).getD []).set a w),m.ow,m.ob⟩
theorem setM_R {m:Js} {t a:Nat} {w:Int} {x:List Int} (ht:m.R[t]?=some x):(setM m t a w).R=m.R.set t (x.set a w):=by grind[setM]
theorem ok_of {m:Js} {R':List (List Int)} (ok:jau m) (hf:R'.flatten.length=m.R.flatten.length) (hb:jaI R'=jaI m.R) (hl:R'.length=m.R.length):jau ⟨m.b,R',m.ow,m.ob⟩:=by
 refine⟨?_,by rw[hb];exact ok.b,by rw[hf];exact ok.n,by rw[hl];exact ok.t⟩
 have h:=ok.w
 cases ho:m.ow with
 |none=>grind[oOk]
 |some ob=>grind[oOk]
theorem Store_K {w0:World} {F:jb} {m:Js} {t a:Nat} {x:List Int} {w:Int} (ok:jau m) (ht:m.R[t]?=some x) (ha:a<x.length):
  Call Tryz.prog w0 239 [.pointer (some ⟨m.b,0,none⟩), .int .i64 (t:Nat), .int .i64 (a:Nat), .int .u64 w] (jv m++F) (fun r H'=>r= .int .i64 0∧H'=jv (setM m t a w)++F):=by
 have hw:=ok.w
 obtain⟨e1,e2⟩:=jcA ht
 have hcap:=own_cap hw
 obtain⟨v0,hv0⟩:=jA ha
 have hfa:=flat_at_r ht hv0
 have had:adr (Jc (oV m.ow m.R.flatten.length) (baseP m.R t+a) (baseP m.R t+(a+1)) 1) (0*uE.sz)=adr (oV m.ow m.R.flatten.length) ((baseP m.R t+a)*uE.sz):=adr_sub (a:=baseP m.R t+a) (b:=baseP m.R t+(a+1)) hcap.1 hcap.2 (by omega) (by omega)
 have hsw:=set_word (w:=w) ht ha
 have hbs:=(set_r ht (x':=x.set a w) (by simp)).2
 have hlen:(m.R.flatten.set (baseP m.R t+a) w).length=m.R.flatten.length:=List.length_set
 refine Call.enter4 (n:=11) (by rfl) Tryz.func239 rfl rfl rfl ?_;refine zaU ?_;intro b4 b5;refine zbR ?_;intro b6;refine zbR ?_;intro b7;refine zu ?_;refine zaJ fun T hT=>?_;refine(CallV.fn (on_K (R:=fun H'=>H'=jv (setM m t a w)++F) fun b=>?_)).mono ?_
 ·refine CallV.clo (cap:=[.pointer (some ⟨b7,0,none⟩), .pointer (some ⟨b4,0,none⟩), .pointer (some ⟨b5,0,none⟩), .pointer (some ⟨b6,0,none⟩)]) ?_;refine Call.enter4 (n:=10) (by rfl) Tryz.func277 rfl rfl rfl ?_;refine zar ?_
  (first|refine K.seq (K.drawn _ [(0,0),(1,0),(2,0),(4,1),(3,2),(5,0),(6,4)] (by kernel_rfl) (by kernel_rfl) (by kernel_rfl) (by kernel_rfl) (by kernel_rfl) (by kernel_rfl) Part.all ?_)|refine K.seq (K.seq (K.drawn _ [(0,0),(1,0),(2,0),(4,1),(3,2),(5,0),(6,4)] (by kernel_rfl) (by kernel_rfl) (by kernel_rfl) (by kernel_rfl) (by kernel_rfl) (by kernel_rfl) Part.all ?_))|refine K.drawn _ [(0,0),(1,0),(2,0),(4,1),(3,2),(5,0),(6,4)] (by rfl) (by rfl) (by kernel_rfl) (by rfl) (by rfl) (by rfl) Part.all ?_)
  refine zS ?_;refine zS ?_;refine zS ?_;refine zc6 ?_;refine zl fun T hT=>?_;refine(CallV.part (CallV.fn (part_K (a:=a) (n:=1) ok ht (by omega) (by omega))) ja).mono ?_;rintro _ _ ⟨rfl,rfl⟩
  have hs:=jic (w0:=w0) (F:=F) (a:=a) (n:=1) ok ht (by omega)
  have hsl:(0:Int).toNat<((x.take (a+1)).drop a).length:=by grind
  refine zg ?_;clear hT T;refine ziP ?_
  --STOP before op 6
  rw[had];simp only[Jy]
  (first|(refine KD.eNX rfl (Eff.stSl (x1:=w) rfl rfl jcG rfl jn (by omega) (by assumption) rfl rfl) ?_;rintro _ _ rfl)|(refine KD.eNX rfl (Eff.stSl0 (x1:=w) rfl rfl jcG rfl jn (by omega) (by assumption) rfl rfl) ?_;rintro _ _ rfl))
  refine zD ?_
  skip
  rw[←hsw,←hlen,←hsw,←hbs];exact KE.finN (H':=(b,cells [.int .i64 0] 40)::(jv (setM m t a w)++F)) je rfl jd (by rw[Jy,setM_R ht];exact ja) ⟨_,rfl,by rw[Jy];exact Part.all⟩
 ·rintro _ _ ⟨rfl,rfl⟩;refine zd ?_;clear hT T;exact zt
def jdP (m:Js) (t a n:Nat):Js:=⟨m.b,m.R.set t (cleared ((m.R[t]?).getD []) a (a+n) 0),m.ow,m.ob⟩
theorem zeroM_R {m:Js} {t a n:Nat} {x:List Int} (ht:m.R[t]?=some x):(jdP m t a n).R=m.R.set t (cleared x a (a+n) 0):=by grind[jdP]
theorem Zero_K {w0:World} {F:jb} {m:Js} {t a n:Nat} {x:List Int} (ok:jau m) (ht:m.R[t]?=some x) (hn:1≤n) (ha:a+n≤x.length):
  Call Tryz.prog w0 229 [.pointer (some ⟨m.b,0,none⟩), .int .i64 (t:Nat), .int .i64 (a:Nat), .int .i64 (n:Nat)] (jv m++F) (fun r H'=>r= .int .i64 0∧H'=jv (jdP m t a n)++F):=by
 have hw:=ok.w
 obtain⟨e1,e2⟩:=jcA ht
 have hl:=jff (xs:=x) (i:=a) (h:=a+n) (x0:=(0:Int)) (by omega) ha
 have hsw:=set_clear ht (i:=a) (h':=a+n) (by omega) ha
 have hbs:=(set_r ht (x':=cleared x a (a+n) 0) hl).2
 have hlen:(cleared m.R.flatten (baseP m.R t+a) (baseP m.R t+(a+n)) 0).length=m.R.flatten.length:=jff (by omega) (by omega)
 refine Call.enter4 (n:=11) (by rfl) Tryz.func229 rfl rfl rfl ?_;refine zaU ?_;intro b4 b5;refine zbR ?_;intro b6;refine zbR ?_;intro b7;refine zu ?_;refine zaJ fun T hT=>?_;refine(CallV.fn (on_K (R:=fun H'=>H'=jv (jdP m t a n)++F) fun b=>?_)).mono ?_
 ·refine CallV.clo (cap:=[.pointer (some ⟨b4,0,none⟩), .pointer (some ⟨b5,0,none⟩), .pointer (some ⟨b6,0,none⟩), .pointer (some ⟨b7,0,none⟩)]) ?_;refine Call.enter4 (n:=9) (by rfl) Tryz.func268 rfl rfl rfl ?_;refine K.region ?_;refine zp ?_;refine zp ?_;refine zp ?_;refine zV ?_;refine ji (part_K (a:=a) (n:=n) ok ht hn ha) ja ?_;simp only[Jy];refine KL.eN (Eff.clearS (x0:=(0:Int)) (i:=baseP m.R t+a) (h:=baseP m.R t+(a+n)) rfl rfl rfl rfl (by omega) (by omega) jn hw) ?_;rintro _ _ ⟨rfl,okc,rfl⟩;refine zN ?_
  skip
  rw[←hsw,←hlen,←hsw,←hbs];exact KE.finN (H':=(b,cells [.int .i64 0] 40)::(jv (jdP m t a n)++F)) je rfl jd (by rw[Jy,zeroM_R ht];exact ja) ⟨_,rfl,by rw[Jy];exact Part.all⟩
 ·rintro _ _ ⟨rfl,rfl⟩;refine zd ?_;clear hT T;exact zt
theorem All_K {w0:World} {F:jb} {m:Js} (ok:jau m):
  Call Tryz.prog w0 20 [.pointer (some ⟨m.b,0,none⟩)] (jv m++F) (fun r H'=> ∃ o,oOk uE m.R.flatten o∧r=oV o m.R.flatten.length∧H'=oH uE 33 m.R.flatten o++(jv m++F)):=by
 have hw:=ok.w
 have hn:=ok.n
 refine Call.enter1 (n:=10) (by rfl) Tryz.func20 rfl rfl rfl ?_;refine zY ?_;refine jq (mnone_K ok) ?_;simp only[Jy];refine zR ?_;refine zB ?_;refine zq fun T hT=>?_;refine(CallV.pure fun w hw'=>CallV.fn (jhX (Sli.own jn hw rfl w hw') (by omega))).mono ?_;rintro _ _ ⟨_,⟨o1,ko1,rfl,rfl⟩,rfl⟩;refine zd ?_;clear hT T;refine zf ?_;exact KE.fin je rfl jd (by first|exact ja|(simp only[Jg,Jy];exact ja)) ⟨o1,ko1,rfl,rfl⟩
theorem Words_K {w0:World} {F:jb} {m:Js} {t:Nat} {x:List Int} (ok:jau m) (ht:m.R[t]?=some x):
  Call Tryz.prog w0 36 [.pointer (some ⟨m.b,0,none⟩), .int .i64 (t:Nat)] (jv m++F) (fun r H'=> ∃ o,oOk uE x o∧r= .tuple [oV o x.length, .int .i64 0].toArray∧H'=oH uE 33 x o++(jv m++F)):=by
 have hn:=ok.n
 obtain⟨e1,e2⟩:=jcA ht
 refine Call.enter2 (n:=10) (by rfl) Tryz.func36 rfl rfl rfl ?_;refine zaU ?_;intro b2 b3;refine zaD ?_;intro b4;refine zu ?_;refine zaJ fun T hT=>?_;refine(CallV.fn (on_K (R:=fun H'=> ∃ o,oOk uE x o∧H'=(b4,cells [oV o x.length] 32)::(oH uE 33 x o++(jv m++F))) fun b=>?_)).mono ?_
 ·refine CallV.clo (cap:=[.pointer (some ⟨b2,0,none⟩), .pointer (some ⟨b3,0,none⟩), .pointer (some ⟨b4,0,none⟩)]) ?_;refine Call.enter3 (n:=7) (by rfl) Tryz.func66 rfl rfl rfl ?_;refine K.region ?_;refine zp ?_;refine za5 fun T hT=>?_;refine(CallV.part (CallV.fn (jkb ok ht)) ja).mono ?_;rintro _ _ ⟨rfl,rfl⟩
  have hs:Sli w0 (jv m++F) uE (Jc (oV m.ow m.R.flatten.length) (baseP m.R t) (baseP m.R t+x.length) 1) x:=by
   have h:=jic (w0:=w0) (F:=F) (a:=0) (n:=x.length) ok ht (by omega)
   rw[Nat.zero_add,Nat.add_zero,List.take_length,List.drop_zero] at h;exact h
  refine zd ?_;clear hT T;refine zq fun T hT=>?_;refine(CallV.pure fun w hw'=>CallV.fn (jhX (hs w (hw'.part ja)) (by omega))).mono ?_;rintro _ _ ⟨_,⟨o1,ko1,rfl,rfl⟩,rfl⟩;refine zd ?_;clear hT T;refine zO ?_;refine zN ?_;exact KE.finN (H':=(b,cells [.int .i64 0] 40)::(b4,cells [oV o1 x.length] 32)::(oH uE 33 x o1++(jv m++F))) je rfl jd ja ⟨_,⟨o1,ko1,rfl⟩,Part.all⟩
 ·rintro _ _ ⟨rfl,o1,ko1,rfl⟩;refine zd ?_;clear hT T;refine zu ?_;refine zdz ?_;refine zO ?_;refine zf ?_;exact KE.fin je rfl jd ja ⟨o1,ko1,rfl,rfl⟩
open Go.RowKit
set_option maxRecDepth 10000
def jaV (h:HdP):Int × Int:=if Jd h then(h.r+h.w+1,0) else(0,2)
def jaO (h:HdP) (i:Int):Bool × Int:=if Jd h then(if i<0∨i≥h.r+h.w then(false,110) else(decide (i<h.r),0)) else(false,2)
theorem jbm {h:HdP} (hm:Jd h=true):0≤h.c∧h.c<8∧0≤h.r∧0≤h.w∧h.r≤63∧h.w≤63-h.r:=of_decide_eq_true hm
theorem Need_K {w0:World} {H:jb} {h:HdP}:Call Tryz.prog w0 111 [hdV h] H (fun u H'=>u= .tuple [.int .i64 (jaV h).1, .int .i64 (jaV h).2].toArray∧H'=H):=by
 have hu:hdV h= .agg [.int .i64 h.c, .int .i64 h.r, .int .i64 h.w].toArray:=rfl
 rw[hu];refine Call.enter1 (n:=13) (by rfl) Tryz.func111 rfl rfl rfl ?_;refine zcj ?_;intro b1;refine zc2 fun T hT=>?_;refine(CallV.fn (jgo (h:=h))).mono ?_;rintro _ _ ⟨rfl,rfl⟩
 cases hm:Jd h with
 |true=>
  have hb:=jbm hm
  have hn:jaV h=(h.r+h.w+1,0):=by grind[jaV]
  refine zd ?_;clear hT T;rw[hn];refine zeX ?_;refine zF ?_;refine zI ?_;refine zal ?_;refine zal ?_;exact zb8
 |false=>
  have hn:jaV h=(0,2):=by grind[jaV]
  refine zd ?_;clear hT T;rw[hn];exact zfB
theorem jkB {w0:World} {H:jb} {h:HdP} {i:Int}:Call Tryz.prog w0 247 [hdV h, .int .i64 i] H (fun u H'=>u= .tuple [.bool (jaO h i).1, .int .i64 (jaO h i).2].toArray∧H'=H):=by
 have hu:hdV h= .agg [.int .i64 h.c, .int .i64 h.r, .int .i64 h.w].toArray:=rfl
 rw[hu];refine Call.enter2 (n:=26) (by rfl) Tryz.func247 rfl rfl rfl ?_;refine zgK ?_;intro b2;refine zk ?_;refine zdI ?_;refine zc2 fun T hT=>?_;refine(CallV.fn (jgo (h:=h))).mono ?_;rintro _ _ ⟨rfl,rfl⟩
 cases hm:Jd h with
 |true=>
  have hb:=jbm hm
  refine zd ?_;clear hT T
  by_cases h1:i<0
  ·have hn:jaO h i=(false,110):=by grind[jaO]
   rw[hn];refine zE ?_;refine zdg ?_;refine zab ?_;refine zfy ?_;refine zk ?_;refine zhw ?_;refine zd0 ?_;exact zZ
  by_cases h2:i≥h.r+h.w
  ·have hn:jaO h i=(false,110):=by grind[jaO]
   rw[hn];refine zE ?_;refine zbk ?_;refine zA ?_;refine zbh ?_;refine zeA ?_;refine zal ?_;refine zgo ?_;refine zk ?_;refine zhw ?_;refine zd0 ?_;exact zZ
  ·have hn:jaO h i=(decide (i<h.r),0):=by grind[jaO]
   rw[hn]
   by_cases h3:i<h.r
   ·have hd:decide (i<h.r)=true:=decide_eq_true h3
    refine zE ?_;refine zbk ?_;refine zA ?_;refine zbh ?_;refine zeA ?_;refine zal ?_;refine zdj ?_;refine zay ?_;refine ze ?_;refine zF ?_;refine zab ?_;refine zaI ?_;exact KE.fin je rfl jd ja ⟨by rw[hd];rfl,rfl⟩
   ·have hd:decide (i<h.r)=false:=decide_eq_false h3
    refine zE ?_;refine zbk ?_;refine zA ?_;refine zbh ?_;refine zeA ?_;refine zal ?_;refine zdj ?_;refine zay ?_;refine ze ?_;refine zF ?_;refine zT ?_;refine zaI ?_;exact KE.fin je rfl jd ja ⟨by rw[hd];rfl,rfl⟩
 |false=>
  have hn:jaO h i=(false,2):=by grind[jaO]
  refine zd ?_;clear hT T;rw[hn];refine zU ?_;refine zk ?_;refine zhw ?_;refine zd0 ?_;exact zZ
set_option maxRecDepth 10000
theorem Size0_K {w0:World} {F:jb} {p:jQ} {s:Nat} {x:jg} (ok:J6 p) (hx:p.g.L[s]?=some x):
  Call Tryz.prog w0 108 [.pointer (some ⟨p.b,0,none⟩), .int .i64 (s:Nat)] (planH p++F) (fun r H'=>r= .tuple [.int .i64 (x.size:Nat), .int .i64 0].toArray∧H'=planH p++F):=by
 obtain⟨k,d,hk,hd,hs,rfl⟩:=L_at hx
 have ho:=ok.o
 have hpl:p.g.parts.length=p.g.m:=jcL
 have hkl:k<p.g.parts.length:=by omega
 have hx:p.g.parts[k]?=some (p.g.pt k):=jdj hk
 refine Call.enter2 (n:=27) (by rfl) Tryz.func108 rfl rfl rfl ?_;refine zj2 ?_;simp only[jO];refine za9 ?_;refine zdB ?_;refine zR ?_;refine zB ?_;refine zfE ?_;refine ziZ ?_;refine zcJ ?_;refine zaI ?_;exact zdP
theorem Class0_K {w0:World} {F:jb} {p:jQ} {s:Nat} {x:jg} (ok:J6 p) (hx:p.g.L[s]?=some x):
  Call Tryz.prog w0 112 [.pointer (some ⟨p.b,0,none⟩), .int .i64 (s:Nat)] (planH p++F) (fun r H'=>r= .tuple [.int .i64 (x.cls:Nat), .int .i64 0].toArray∧H'=planH p++F):=by
 obtain⟨k,d,hk,hd,hs,rfl⟩:=L_at hx
 refine Call.enter2 (n:=18) (by rfl) Tryz.func112 rfl rfl rfl ?_;refine zj2 ?_;refine za9 ?_;refine zu ?_;refine zm ?_;refine zaI ?_;exact zdP
theorem Addr0_K {w0:World} {F:jb} {p:jQ} {s:Nat} {x:jg} (ok:J6 p) (hx:p.g.L[s]?=some x):
  Call Tryz.prog w0 90 [.pointer (some ⟨p.b,0,none⟩), .int .i64 (s:Nat)] (planH p++F) (fun r H'=>r= .tuple [.int .i64 (x.addr:Nat), .int .i64 0].toArray∧H'=planH p++F):=by
 obtain⟨h1,_,_,h2,h3,h4,_⟩:=ok.g.fits hx
 have hw:=ok.g.words
 have hpg:=ok.g.pg
 have hpp:=ok.g.pages.2
 obtain⟨k,d,hk,hd,hs,rfl⟩:=L_at hx
 have hn:=ok.g.n hk
 have hper:=ok.g.per hk
 have hy:=ok.g.y k hk
 have ho:=ok.o
 have hpl:p.g.parts.length=p.g.m:=jcL
 have hkl:k<p.g.parts.length:=by omega
 have hx:p.g.parts[k]?=some (p.g.pt k):=jdj hk
 simp only[PlG.sl] at h1 h2 h3 h4⊢
 obtain⟨pt,hpt⟩: ∃ pt,pt=p.g.pt k:=⟨_,rfl⟩
 obtain⟨y,hy'⟩: ∃ y,y=p.g.y k:=⟨_,rfl⟩
 obtain⟨per,hper'⟩: ∃ y,y=p.g.per k:=⟨_,rfl⟩
 obtain⟨pg,hpg'⟩: ∃ y,y=p.g.page k:=⟨_,rfl⟩
 rw[←hy',←hper',←hpg'] at h1 h3 h4⊢;rw[←hper',←hpg'] at h2;rw[←hper'] at hper;rw[←hy'] at hy;rw[←hpt] at hx
 obtain⟨sz,fi,ma,pa,pe⟩:=pt
 obtain⟨rfl,_,_,rfl,rfl⟩:sz=y∧fi=p.g.first k∧ma=p.g.n k∧pa=pg∧pe=per:=by
  grind[PlG.pt]
 clear hpt hy' hper' hpg'
 obtain⟨a,ha⟩: ∃ a,a=d/pe:=⟨_,rfl⟩
 obtain⟨b,hb⟩: ∃ b,b=d%pe:=⟨_,rfl⟩
 have e1:((d:Nat):Int)/((pe:Nat):Int)=(a:Nat):=by omega
 have e2:((d:Nat):Int)%((pe:Nat):Int)=(b:Nat):=by omega
 rw[←ha,←hb] at h1⊢;rw[←ha] at h2 h3 h4;rw[←hb] at h4
 obtain⟨m1,hm1⟩: ∃ m,m=(pa+a)*p.g.pg:=⟨_,rfl⟩
 obtain⟨m2,hm2⟩: ∃ m,m=b*sz:=⟨_,rfl⟩
 have e3:(((pa:Nat):Int)+(a:Nat))*((p.g.pg:Nat):Int)=(m1:Nat):=by simp_all
 have e4:((b:Nat):Int)*((sz:Nat):Int)=(m2:Nat):=by omega
 have hal:a≤d:=by rw[ha];exact Nat.div_le_self _ _
 have hbl:b≤d:=by rw[hb];exact Nat.mod_le _ _
 rw[←hm1,←hm2] at h1⊢
 have hm1b:m1≤1048576:=by omega
 have hm2b:m2≤1048576:=by omega
 clear h3 h4;refine Call.enter2 (n:=47) (by rfl) Tryz.func90 rfl rfl rfl ?_;refine zj2 ?_;simp only[jO];refine za9 ?_;refine zdB ?_;refine zR ?_;refine zB ?_;refine zfE ?_;refine ze5 ?_;refine zfd ?_;intro b9;refine zaY ?_;simp only[partE_enc]
 have e5:(((pa:Nat):Int)+((d:Nat):Int)/((pe:Nat):Int))*((p.g.pg:Nat):Int)=(m1:Nat):=by grind
 have e6:((d:Nat):Int)%((pe:Nat):Int)*((sz:Nat):Int)=(m2:Nat):=by grind
 have e7:((m1:Nat):Int)+((m2:Nat):Int)=((m1+m2:Nat):Int):=by omega
 refine K.seq ?_;refine K.drawn [] [(0,0),(1,0),(2,0),(3,0),(4,0),(5,0),(6,0),(7,0),(8,0),(9,0),(10,0),(11,0),(12,0),(13,0),(14,0),(15,0),(16,0),(17,0),(18,0),(19,0),(20,0),(21,0)] (by rfl) (by rfl) (by kernel_rfl) (by rfl) (by rfl) (by rfl) Part.nil ?_;refine zix ?_;refine zj ?_;refine zc0 ?_;refine zgr ?_;refine zc5 ?_;refine zdD ?_;refine zhP ?_;refine zj ?_;refine zc0 ?_;refine zhG ?_;refine zdf ?_;refine zhP ?_;refine zc5 ?_;refine zfL ?_;rw[e5,e6,e7];exact zdP
set_option maxRecDepth 10000
structure BoM where
 b:Nat
 m:Js
 t:Nat
 p:jQ
def jR (B:BoM):jb:=[(B.b,cells [.pointer (some ⟨B.m.b,0,none⟩), .int .i64 (B.t:Nat), .pointer (some ⟨B.p.b,0,none⟩)] 136)]
theorem jaX {B:BoM} {F:jb}:jR B++F=(B.b,cells [.pointer (some ⟨B.m.b,0,none⟩), .int .i64 (B.t:Nat), .pointer (some ⟨B.p.b,0,none⟩)] 136)::F:=rfl
structure jag (B:BoM) (x:List Int):Prop where
 m:jau B.m
 p:J6 B.p
 r:B.m.R[B.t]?=some x
 n:x.length=B.p.g.words
 w:JW x
def jaf (m:Js) (t:Nat) (x:List Int):Js:=⟨m.b,m.R.set t x,m.ow,m.ob⟩
theorem jj9 {m:Js} {t a:Nat} {w:Int} {x:List Int} (ht:m.R[t]?=some x):setM m t a w=jaf m t (x.set a w):=by grind[setM,jaf]
theorem ji9 {m:Js} {t:Nat} {x:List Int} {p:jg} (ht:m.R[t]?=some x):jdP m t p.addr p.size=jaf m t (JU x p):=by unfold jdP jaf;rw [ht];rfl
theorem jke {m:Js} {t:Nat} {x y:List Int}:jaf (jaf m t x) t y=jaf m t y:=by simp[jaf]
theorem putM_R {m:Js} {t:Nat} {x y:List Int} (ht:m.R[t]?=some x):(jaf m t y).R[t]?=some y:=by grind[jaf]
theorem jfr {m:Js} {t:Nat} {x:List Int} (ht:m.R[t]?=some x):jaf m t x=m:=by
 unfold jaf
 have:m.R.set t x=m.R:=by
  apply List.ext_getElem?
  grind
 rw[this]
theorem putM_ok {m:Js} {t:Nat} {x y:List Int} (ok:jau m) (ht:m.R[t]?=some x) (hl:y.length=x.length):jau (jaf m t y):=by
 have h:=set_r ht (x':=y) hl
 refine ok_of ok ?_ h.2 (by simp)
 obtain⟨e1,e2⟩:=jcA ht
 grind
def jbd (B:BoM) (x:List Int):BoM:=⟨B.b,jaf B.m B.t x,B.t,B.p⟩
theorem setB_ok {B:BoM} {x y:List Int} (ok:jag B x) (hl:y.length=x.length) (hw:JW y):jag (jbd B y) y:=⟨putM_ok ok.m ok.r hl,ok.p,putM_R ok.r,by rw[hl];exact ok.n,hw⟩
theorem jbz {B:BoM} {x:List Int} (ok:jag B x):jbd B x=B:=by unfold jbd;rw [jfr ok.r]
def headV (o:Option HdP):Value:=match o with
 |some h=> .tuple [hdV h, .int .i64 0].toArray
 |none=> .tuple [hdV ⟨0,0,0⟩, .int .i64 5].toArray
section
variable {w0 : World} {F : jb} {B : BoM} {x : List Int} {s : Nat} {y : jg}
theorem bonone_K:
  Call Tryz.prog w0 107 [.pointer (some ⟨B.b,0,none⟩)] (jR B++(jv B.m++(planH B.p++F))) (fun r H'=>r= .bool false∧H'=jR B++(jv B.m++(planH B.p++F))):=by
 refine Call.enter1 (n:=12) (by rfl) Tryz.func107 rfl rfl rfl ?_;simp only[jO,Jy,jaX];refine zcp ?_;refine zaq ?_;refine zef ?_;refine zf ?_;exact ze6
theorem place_K (ok:jag B x) (hy:B.p.g.L[s]?=some y):
  Call Tryz.prog w0 71 [.pointer (some ⟨B.b,0,none⟩), .int .i64 (s:Nat)] (jR B++(jv B.m++(planH B.p++F))) (fun r H'=>r= .tuple [.int .i64 (y.addr:Nat), .int .i64 (y.size:Nat), .int .i64 0].toArray∧H'=jR B++(jv B.m++(planH B.p++F))):=by
 have okp:=ok.p
 refine Call.enter2 (n:=33) (by rfl) Tryz.func71 rfl rfl rfl ?_;refine zeY ?_;refine zgJ ?_;refine jq (bonone_K (B:=B)) ?_;simp only[jO,Jy,jaX];refine z9 ?_;refine zK ?_;refine zI ?_;refine zx fun T hT=>?_;refine(CallV.part (CallV.fn (Addr0_K okp hy)) (by first|exact ja|(simp only[Jg,jO,Jy,jaX];exact ja))).mono ?_;rintro _ _ ⟨rfl,rfl⟩;refine zd ?_;clear hT T;simp only[jO,Jy];refine zQ ?_;refine zcv ?_;refine zR ?_;refine zI ?_;refine zx fun T hT=>?_;refine(CallV.part (CallV.fn (Size0_K okp hy)) (by first|exact ja|(simp only[Jg,jO,Jy,jaX];exact ja))).mono ?_;rintro _ _ ⟨rfl,rfl⟩;refine zd ?_;clear hT T;simp only[jO,Jy];refine zQ ?_;refine zm ?_;refine zbe ?_;refine zaI ?_;exact ze6
theorem lies_K {h:HdP} (ok:jag B x) (hy:B.p.g.L[s]?=some y):
  Call Tryz.prog w0 73 [.pointer (some ⟨B.b,0,none⟩), .int .i64 (s:Nat), .int .i64 (y.size:Nat),hdV h] (jR B++(jv B.m++(planH B.p++F))) (fun r H'=>r= .bool (jad y h)∧H'=jR B++(jv B.m++(planH B.p++F))):=by
 have okp:=ok.p
 have hneed:=fun A=>Need_K (w0:=w0) (H:=A) (h:=h)
 obtain⟨c,r,w⟩:=h
 unfold hdV at*;dsimp only at*
 cases hm:Jd ⟨c,r,w⟩ with
 |false=>
  have e:jad y ⟨c,r,w⟩=false:=by grind[jad]
  have hn:jaV ⟨c,r,w⟩=(0,2):=by grind[jaV]
  simp only[hn] at hneed;rw[e];refine zi0 ?_;refine zcX ?_;intro b7;refine ze7 ?_;refine zj0 ?_;refine zK ?_;refine zI ?_;refine zx fun T hT=>?_;refine zi1 ?_;rintro _ _ ⟨rfl,rfl⟩;refine zd ?_;clear hT T;simp only[jO,Jy];refine zcZ ?_;refine zG ?_;refine zdc ?_;refine zC ?_;refine zax ?_;refine zf ?_;exact ze6
 |true=>
  have hn:jaV ⟨c,r,w⟩=(r+w+1,0):=by grind[jaV]
  simp only[hn] at hneed
  by_cases h1:c=(y.cls:Nat)
  ·by_cases h2:r+w+1≤(y.size:Nat)
   ·have e:jad y ⟨c,r,w⟩=true:=by grind[jad]
    rw[e];refine zi0 ?_;refine zcX ?_;intro b7;refine ze7 ?_;refine zj0 ?_;refine zK ?_;refine zI ?_;refine zx fun T hT=>?_;refine zi1 ?_;rintro _ _ ⟨rfl,rfl⟩;refine zd ?_;clear hT T;simp only[jO,Jy];refine zcZ ?_;refine zJ ?_;refine zbg ?_;refine zL ?_;refine zJ ?_;refine zw ?_;refine zbM ?_;refine zam ?_;refine zcE ?_;exact ze6
   ·have e:jad y ⟨c,r,w⟩=false:=by grind[jad]
    rw[e];refine zi0 ?_;refine zcX ?_;intro b7;refine ze7 ?_;refine zj0 ?_;refine zK ?_;refine zI ?_;refine zx fun T hT=>?_;refine zi1 ?_;rintro _ _ ⟨rfl,rfl⟩;refine zd ?_;clear hT T;simp only[jO,Jy];refine zcZ ?_;refine zJ ?_;refine zbg ?_;refine zL ?_;refine zJ ?_;refine zw ?_;refine zbM ?_;refine zcr ?_;refine zcE ?_;exact ze6
  ·have e:jad y ⟨c,r,w⟩=false:=by grind[jad]
   rw[e];refine zi0 ?_;refine zcX ?_;intro b7;refine ze7 ?_;refine zj0 ?_;refine zK ?_;refine zI ?_;refine zx fun T hT=>?_;refine zi1 ?_;rintro _ _ ⟨rfl,rfl⟩;refine zd ?_;clear hT T;simp only[jO,Jy];refine zcZ ?_;refine zJ ?_;refine zbg ?_;refine zL ?_;refine zG ?_;refine zgb ?_;refine zf ?_;exact ze6
theorem jdO (hG:js w0) (ok:jag B x) (hy:B.p.g.L[s]?=some y):
  Call Tryz.prog w0 40 [.pointer (some ⟨B.b,0,none⟩), .int .i64 (s:Nat)] (jR B++(jv B.m++(planH B.p++F))) (fun r H'=>r=headV (headP x y)∧H'=jR B++(jv B.m++(planH B.p++F))):=by
 have okp:=ok.p
 have okm:=ok.m
 have hr:=ok.r
 obtain⟨f1,f2,_⟩:=ok.p.g.fits hy
 have hal:y.addr<x.length:=by rw[ok.n];omega
 have hwx:=jh0 hal
 obtain⟨w1,w2⟩:=ok.w.at_ y.addr
 obtain⟨w,hw⟩: ∃ w:Nat,wAt x y.addr=w:=⟨(wAt x y.addr).toNat,by omega⟩
 have hhead:headP x y=match getH w with|some h=>if jad y h then some h else none|none=>none:=by grind[headP]
 rw[hw] at hwx w2
 have hwl:w<18446744073709551616:=by omega
 refine Call.enter2 (n:=53) (by rfl) Tryz.func40 rfl rfl rfl ?_;refine zy ?_;refine zaD ?_;intro b4;refine zu ?_;refine zat ?_;refine zgy ?_;rw[jaX];refine za9 ?_;refine zdB ?_;refine zbU ?_;refine K.drawn [] [(0,0),(1,0),(2,0),(3,0),(4,0),(5,0),(6,0),(7,0),(8,0),(9,2),(10,0),(11,0),(12,0),(13,0),(14,0)] (by rfl) (by rfl) (by kernel_rfl) (by rfl) (by rfl) (by rfl) Part.nil ?_;refine zb4 ?_;refine zeZ ?_;refine zc1 fun T hT=>?_;refine(CallV.part (CallV.fn (Load_K okm hr hwx)) ja).mono ?_;rintro _ _ ⟨rfl,rfl⟩;refine zg ?_;clear hT T;refine zdp ?_;refine zaf ?_;refine zx fun T hT=>?_;refine(CallV.fn (hGet_K hG hwl)).mono ?_;rintro _ _ ⟨rfl,rfl⟩;unfold hGetP
 cases hg:getH w with
 |none=>
  rw[hg] at hhead;dsimp only at hhead⊢;refine zd ?_;clear hT T;rw[hhead];unfold hdV headV;refine zaX ?_;intro b11;refine z6 ?_;refine zag ?_;refine zdZ ?_;refine zw ?_;refine zac ?_;refine zM ?_;refine zbb ?_;refine zas ?_;exact ze6
 |some h=>
  rw[hg] at hhead;dsimp only at hhead⊢
  have hlies:=fun A=>lies_K (w0:=w0) (F:=A) (h:=h) ok hy
  obtain⟨c,r,w⟩:=h
  unfold hdV at*;dsimp only at*;refine zd ?_;clear hT T;refine zaX ?_;intro b11;refine zdB ?_;refine zA ?_;refine zA ?_;refine z3 ?_;refine zi ?_;refine zq fun T hT=>?_;refine(CallV.part (CallV.fn (hlies _)) (by first|exact ja|(simp only[Jg,jO,Jy,jaX];exact ja))).mono ?_;rintro _ _ ⟨rfl,rfl⟩
  cases hl:jad y ⟨c,r,w⟩ with
  |true=>
   rw[hl] at hhead;simp only[if_true] at hhead;refine zd ?_;clear hT T;rw[hhead];unfold headV hdV;refine zd4 ?_;refine zz ?_;refine z3 ?_;refine zbb ?_;refine zf ?_;exact ze6
  |false=>
   rw[hl] at hhead;simp only[Bool.false_eq_true,if_false] at hhead;refine zd ?_;clear hT T;rw[hhead];unfold headV hdV;refine zfl ?_;refine zac ?_;refine zM ?_;refine zbb ?_;refine zas ?_;exact ze6
end
end Go.Proofs.YtpcgafhgfjlkmaaGreatDoor.Sw
