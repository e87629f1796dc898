/-The walker and the contracts that the law needs,part 19. -/
import Derived.Test.YtebiafomiemgbaaGreatDoorJ16
import Derived.Test.YtebiafomiemgbaaGreatDoorJ18
set_option linter.unusedVariables false set_option linter.unusedSimpArgs false set_option linter.unusedVariables false
set_option linter.unusedSimpArgs false
namespace Go.Proofs.YtebiafomiemgbaaGreatDoor.Sw
set_option maxHeartbeats 8000000
open Go.Proofs.YtebiafomiemgbaaGreatDoor renaming lo → qL, hi → qH
open Go.RowKit
set_option maxRecDepth 10000
theorem mnone_K {w0:World} {F:jb} {m:Ju} (ok:jak m):
  Call Tryz.prog w0 72 [.pointer (some ⟨m.b,0,none⟩)] (jy m++F) (fun r H'=>r= .bool false∧H'=jy m++F):=by
 have hb:=ok.b
 have hl:=jkL m.R
 have hne: ¬(((jaY m.R).length:Nat):Int)=0:=by omega
 refine Call.enter1 (n:=13) (by rfl) Tryz.func72 rfl rfl rfl ?_;simp only[jaf];refine zeA ?_;refine zbK ?_;refine ze9 ?_;refine zC ?_;refine zcA ?_;exact zr9
theorem jk9 {w0:World} {F:jb} {m:Ju} {t:Nat} {x:List Int} (ok:jak m) (ht:m.R[t]?=some x):
  Call Tryz.prog w0 58 [.pointer (some ⟨m.b,0,none⟩), .int .i64 (t:Nat)] (jy m++F) (fun r H'=>r=subV (oV m.ow m.R.flatten.length) (baseP m.R t) (baseP m.R t+x.length) 1∧H'=jy m++F):=by
 have hb:=ok.b
 have hw:=ok.w
 have hl:=jkL m.R
 have htl:=jv ht
 have htn:=ok.t
 have hfn:=ok.n
 obtain⟨e1,e2⟩:=jdJ ht
 have g1:=jkM (R:=m.R) (t:=t) (by omega)
 have g2:=jkM (R:=m.R) (t:=t+1) (by omega)
 have g2':(jaY m.R)[((t:Int)+1).toNat]?=some ((baseP m.R t+x.length:Nat):Int):=by grind
 have hge: ¬(t:Int)≥((jaY m.R).length:Nat)-1:=by omega
 refine Call.enter2 (n:=43) (by rfl) Tryz.func58 rfl rfl rfl ?_;refine zL ?_;refine zdl ?_;refine zn ?_;refine jp (mnone_K ok) ?_;simp only[jaf];refine zck ?_;refine zc9 ?_;refine zbK ?_;refine ze9 ?_;refine ziO ?_;refine zcS ?_;refine zdX ?_;refine zbC ?_;refine zsa ?_;refine zcT ?_;refine zgE ?_;refine zo ?_;refine zcI ?_;refine zfA ?_;refine zgE ?_;refine zo ?_;refine zdt ?_;refine KD.v0 rfl rfl (Val.idxSlZ rfl rfl rfl (Sli.own jj (by omega) jF) rfl (by omega)) ?_;refine zfA ?_;refine KD.v0 rfl rfl (Val.sliceLH rfl rfl rfl rfl (Sli.own jj (by omega) jF) rfl jO jO) ?_;refine zbp ?_;exact zr9
theorem part_K {w0:World} {F:jb} {m:Ju} {t a n:Nat} {x:List Int} (ok:jak m) (ht:m.R[t]?=some x) (hn:1≤n) (ha:a+n≤x.length):
  Call Tryz.prog w0 225 [.pointer (some ⟨m.b,0,none⟩), .int .i64 (t:Nat), .int .i64 (a:Nat), .int .i64 (n:Nat)] (jy m++F)
   (fun r H'=>r=subV (oV m.ow m.R.flatten.length) (baseP m.R t+a) (baseP m.R t+(a+n)) 1∧H'=jy m++F):=by
 have hw:=ok.w
 obtain⟨e1,e2⟩:=jdJ ht
 have hfn:=ok.n
 have hsl:Sli w0 (jy m++F) uE (subV (oV m.ow m.R.flatten.length) (baseP m.R t) (baseP m.R t+x.length) 1) x:=by
  have h:Sli w0 (jy m++F) uE (oV m.ow m.R.flatten.length) m.R.flatten:=by rw[jaf];exact Sli.own jj hw rfl
  have h2:=h.sub (l:=baseP m.R t) (h:=baseP m.R t+x.length) (by omega) e2
  rw[flat_part ht] at h2;exact h2
 have hxl:x.length≤1000000000:=by omega
 have hcap:=own_cap hw
 have h2v:=fun hd=>subV_two (a:=baseP m.R t) (b:=baseP m.R t+x.length) (c:=a) (d:=a+n) hcap.1 hcap.2 e2 (by omega) hd (by omega)
 have h2v':=h2v (by omega)
 have hle:(a:Int)+(n:Int)=((a+n:Nat):Int):=by omega
 refine Call.enter4 (n:=40) (by rfl) Tryz.func225 rfl rfl rfl ?_;refine zde ?_;refine jp (jk9 ok ht) ?_;refine zad ?_;refine zW ?_;refine ztt ?_;refine zim ?_;refine zer ?_;refine zQ ?_;refine ziO ?_;refine zim ?_;refine zax ?_;refine zcB ?_;refine zB ?_;refine zhK ?_;rw[hle];refine zlS ?_;refine zm ?_;rw[show uE.sz=1 from rfl,h2v'];exact zH
theorem jja {w0:World} {F:jb} {m:Ju} {t a n:Nat} {x:List Int} (ok:jak m) (ht:m.R[t]?=some x) (ha:a+n≤x.length):
  Sli w0 (jy m++F) uE (subV (oV m.ow m.R.flatten.length) (baseP m.R t+a) (baseP m.R t+(a+n)) 1) ((x.take (a+n)).drop a):=by
 have hw:=ok.w
 obtain⟨e1,e2⟩:=jdJ ht
 have h:Sli w0 (jy m++F) uE (oV m.ow m.R.flatten.length) m.R.flatten:=by rw[jaf];exact Sli.own jj hw rfl
 have h2:=h.sub (l:=baseP m.R t+a) (h:=baseP m.R t+(a+n)) (by omega) (by omega)
 obtain⟨A,B,hR,hA⟩:=jeK ht
 have hb:baseP m.R t=A.flatten.length:=by grind[jeH]
 have e:(m.R.flatten.take (baseP m.R t+(a+n))).drop (baseP m.R t+a)=(x.take (a+n)).drop a:=by
  rw[hb,hR,List.flatten_append,List.flatten_cons,List.take_append,List.take_of_length_le (by omega),show A.flatten.length+(a+n)-A.flatten.length=a+n by omega,List.take_append_of_le_length ha,List.drop_append,List.drop_of_length_le (by omega),List.nil_append,show A.flatten.length+a-A.flatten.length=a by omega]
 rw[e] at h2;exact h2
theorem Load_K {w0:World} {F:jb} {m:Ju} {t a:Nat} {x:List Int} {w:Int} (ok:jak m) (ht:m.R[t]?=some x) (hx:x[a]?=some w):
  Call Tryz.prog w0 167 [.pointer (some ⟨m.b,0,none⟩), .int .i64 (t:Nat), .int .i64 (a:Nat)] (jy m++F) (fun r H'=>r= .tuple [.int .u64 w, .int .i64 0].toArray∧H'=jy m++F):=by
 have hal:=jv hx
 have hg:((x.take (a+1)).drop a)[0]?=some w:=by grind
 refine Call.enter3 (n:=12) (by rfl) Tryz.func167 rfl rfl rfl ?_;refine zew ?_;intro b3 b4;refine zfz ?_;intro b5;refine zbe ?_;intro b6;refine zah ?_;refine zbk fun T hT=>?_;refine(CallV.fn (on_K (R:=fun H'=>H'=(b6,cells [.int .u64 w] 34)::(jy m++F)) fun b=>CallV.clo (cap:=[.pointer (some ⟨b3,0,none⟩), .pointer (some ⟨b4,0,none⟩), .pointer (some ⟨b5,0,none⟩), .pointer (some ⟨b6,0,none⟩)]) ?_)).mono ?_
 ·refine Call.enter4 (n:=10) (by kernel_rfl) Tryz.func224 rfl rfl rfl ?_;refine zeU ?_;refine zw ?_;refine zw ?_;refine zw ?_;refine zu fun T hT=>?_;refine(CallV.part (CallV.fn (part_K (a:=a) (n:=1) ok ht (by omega) (by omega))) ja).mono ?_;rintro _ _ ⟨rfl,rfl⟩
  have hs:=jja (w0:=w0) (F:=F) (a:=a) (n:=1) ok ht (by omega)
  have hsl:(0:Int).toNat<((x.take (a+1)).drop a).length:=by rw[List.length_drop,List.length_take];omega
  have hg':((x.take (a+1)).drop a)[(0:Int).toNat]?=some w:=hg
  refine ze ?_;clear hT T;refine zfP ?_;refine zdW ?_;exact KE.finN (H':=(b,cells [.int .i64 0] 30)::(b6,cells [.int .u64 w] 34)::(jy m++F)) je rfl jd ja ⟨_,rfl,Part.all⟩
 ·rintro _ _ ⟨rfl,rfl⟩;refine ze ?_;clear hT T;refine zgs ?_;refine zj ?_;refine zaq ?_;exact zq
def setM (m:Ju) (t a:Nat) (w:Int):Ju:=⟨m.b,m.R.set t (((m.R[t]?).getD []).set a w),m.ow,m.ob⟩
theorem setM_R {m:Ju} {t a:Nat} {w:Int} {x:List Int} (ht:m.R[t]?=some x):(setM m t a w).R=m.R.set t (x.set a w):=by grind[setM]
theorem ok_of {m:Ju} {R':List (List Int)} (ok:jak m) (hf:R'.flatten.length=m.R.flatten.length) (hb:jaY R'=jaY m.R) (hl:R'.length=m.R.length):jak ⟨m.b,R',m.ow,m.ob⟩:=by
 refine⟨?_,by show oOk iE (jaY R') m.ob;rw [hb];exact ok.b,by show R'.flatten.length≤_;rw [hf];exact ok.n,by show 1≤R'.length∧R'.length≤1000;rw [hl];exact ok.t⟩
 have h:=ok.w
 show oOk uE R'.flatten m.ow
 cases ho:m.ow with
 |none=>grind[oOk]
 |some ob=>grind[oOk]
theorem Store_K {w0:World} {F:jb} {m:Ju} {t a:Nat} {x:List Int} {w:Int} (ok:jak m) (ht:m.R[t]?=some x) (ha:a<x.length):
  Call Tryz.prog w0 256 [.pointer (some ⟨m.b,0,none⟩), .int .i64 (t:Nat), .int .i64 (a:Nat), .int .u64 w] (jy m++F) (fun r H'=>r= .int .i64 0∧H'=jy (setM m t a w)++F):=by
 have hw:=ok.w
 obtain⟨e1,e2⟩:=jdJ ht
 have hcap:=own_cap hw
 obtain⟨v0,hv0⟩:=jh ha
 have hfa:=flat_at_r ht hv0
 have had:adr (subV (oV m.ow m.R.flatten.length) (baseP m.R t+a) (baseP m.R t+(a+1)) 1) (0*uE.sz)=adr (oV m.ow m.R.flatten.length) ((baseP m.R t+a)*uE.sz):=adr_sub (a:=baseP m.R t+a) (b:=baseP m.R t+(a+1)) hcap.1 hcap.2 (by omega) (by omega)
 have hsw:=set_word (w:=w) ht ha
 have hbs:=(set_r ht (x':=x.set a w) (by simp)).2
 have hlen:(m.R.flatten.set (baseP m.R t+a) w).length=m.R.flatten.length:=List.length_set
 refine Call.enter4 (n:=11) (by rfl) Tryz.func256 rfl rfl rfl ?_;refine zew ?_;intro b4 b5;refine zfz ?_;intro b6;refine zfz ?_;intro b7;refine zah ?_;refine zbk fun T hT=>?_;refine(CallV.fn (on_K (R:=fun H'=>H'=jy (setM m t a w)++F) fun b=>?_)).mono ?_
 ·refine CallV.clo (cap:=[.pointer (some ⟨b7,0,none⟩), .pointer (some ⟨b4,0,none⟩), .pointer (some ⟨b5,0,none⟩), .pointer (some ⟨b6,0,none⟩)]) ?_;refine Call.enter4 (n:=10) (by rfl) Tryz.func300 rfl rfl rfl ?_;refine zJ ?_
  (first|refine K.seq (K.drawn _ [(0,0),(1,0),(2,0),(4,1),(3,2),(5,0),(6,4)] (by kernel_rfl) (by kernel_rfl) (by kernel_rfl) (by kernel_rfl) (by kernel_rfl) (by kernel_rfl) Part.all ?_)|refine K.seq (K.seq (K.drawn _ [(0,0),(1,0),(2,0),(4,1),(3,2),(5,0),(6,4)] (by kernel_rfl) (by kernel_rfl) (by kernel_rfl) (by kernel_rfl) (by kernel_rfl) (by kernel_rfl) Part.all ?_))|refine K.drawn _ [(0,0),(1,0),(2,0),(4,1),(3,2),(5,0),(6,4)] (by rfl) (by rfl) (by kernel_rfl) (by rfl) (by rfl) (by rfl) Part.all ?_)
  refine zaC ?_;refine zaC ?_;refine zaC ?_;refine zcb ?_;refine zk fun T hT=>?_;refine(CallV.part (CallV.fn (part_K (a:=a) (n:=1) ok ht (by omega) (by omega))) ja).mono ?_;rintro _ _ ⟨rfl,rfl⟩
  have hs:=jja (w0:=w0) (F:=F) (a:=a) (n:=1) ok ht (by omega)
  have hsl:(0:Int).toNat<((x.take (a+1)).drop a).length:=by grind
  refine zi ?_;clear hT T;refine zrY ?_
  --STOP before op 6
  rw[had];simp only[jaf]
  (first|(refine KD.eNX rfl (Eff.stSl (x1:=w) rfl rfl jdR rfl jj (by omega) (by assumption) rfl rfl) ?_;rintro _ _ rfl)|(refine KD.eNX rfl (Eff.stSl0 (x1:=w) rfl rfl jdR rfl jj (by omega) (by assumption) rfl rfl) ?_;rintro _ _ rfl))
  refine zam ?_
  skip
  rw[←hsw,←hlen,←hsw,←hbs];exact KE.finN (H':=(b,cells [.int .i64 0] 30)::(jy (setM m t a w)++F)) je rfl jd (by rw[jaf,setM_R ht];exact ja) ⟨_,rfl,by rw[jaf];exact Part.all⟩
 ·rintro _ _ ⟨rfl,rfl⟩;refine ze ?_;clear hT T;exact zq
def jeY (m:Ju) (t a n:Nat):Ju:=⟨m.b,m.R.set t (cleared ((m.R[t]?).getD []) a (a+n) 0),m.ow,m.ob⟩
theorem zeroM_R {m:Ju} {t a n:Nat} {x:List Int} (ht:m.R[t]?=some x):(jeY m t a n).R=m.R.set t (cleared x a (a+n) 0):=by grind[jeY]
theorem Zero_K {w0:World} {F:jb} {m:Ju} {t a n:Nat} {x:List Int} (ok:jak m) (ht:m.R[t]?=some x) (hn:1≤n) (ha:a+n≤x.length):
  Call Tryz.prog w0 244 [.pointer (some ⟨m.b,0,none⟩), .int .i64 (t:Nat), .int .i64 (a:Nat), .int .i64 (n:Nat)] (jy m++F) (fun r H'=>r= .int .i64 0∧H'=jy (jeY m t a n)++F):=by
 have hw:=ok.w
 obtain⟨e1,e2⟩:=jdJ ht
 have hl:=jgw (xs:=x) (i:=a) (h:=a+n) (x0:=(0:Int)) (by omega) ha
 have hsw:=set_clear ht (i:=a) (h':=a+n) (by omega) ha
 have hbs:=(set_r ht (x':=cleared x a (a+n) 0) hl).2
 have hlen:(cleared m.R.flatten (baseP m.R t+a) (baseP m.R t+(a+n)) 0).length=m.R.flatten.length:=jgw (by omega) (by omega)
 refine Call.enter4 (n:=11) (by rfl) Tryz.func244 rfl rfl rfl ?_;refine zew ?_;intro b4 b5;refine zfz ?_;intro b6;refine zfz ?_;intro b7;refine zah ?_;refine zbk fun T hT=>?_;refine(CallV.fn (on_K (R:=fun H'=>H'=jy (jeY m t a n)++F) fun b=>?_)).mono ?_
 ·refine CallV.clo (cap:=[.pointer (some ⟨b4,0,none⟩), .pointer (some ⟨b5,0,none⟩), .pointer (some ⟨b6,0,none⟩), .pointer (some ⟨b7,0,none⟩)]) ?_;refine Call.enter4 (n:=9) (by rfl) Tryz.func290 rfl rfl rfl ?_;refine zeU ?_;refine zw ?_;refine zw ?_;refine zw ?_;refine zaI ?_;refine jn (part_K (a:=a) (n:=n) ok ht hn ha) ja ?_;simp only[jaf];refine KL.eN (Eff.clearS (x0:=(0:Int)) (i:=baseP m.R t+a) (h:=baseP m.R t+(a+n)) rfl rfl rfl rfl (by omega) (by omega) jj hw) ?_;rintro _ _ ⟨rfl,okc,rfl⟩;refine zR ?_
  skip
  rw[←hsw,←hlen,←hsw,←hbs];exact KE.finN (H':=(b,cells [.int .i64 0] 30)::(jy (jeY m t a n)++F)) je rfl jd (by rw[jaf,zeroM_R ht];exact ja) ⟨_,rfl,by rw[jaf];exact Part.all⟩
 ·rintro _ _ ⟨rfl,rfl⟩;refine ze ?_;clear hT T;exact zq
theorem All_K {w0:World} {F:jb} {m:Ju} (ok:jak m):
  Call Tryz.prog w0 43 [.pointer (some ⟨m.b,0,none⟩)] (jy m++F) (fun r H'=> ∃ o,oOk uE m.R.flatten o∧r=oV o m.R.flatten.length∧H'=oH uE 34 m.R.flatten o++(jy m++F)):=by
 have hw:=ok.w
 have hn:=ok.n
 refine Call.enter1 (n:=10) (by rfl) Tryz.func43 rfl rfl rfl ?_;refine zaf ?_;refine jp (mnone_K ok) ?_;simp only[jaf];refine zas ?_;refine zN ?_;refine zu fun T hT=>?_;refine(CallV.pure fun w hw'=>CallV.fn (jiV (Sli.own jj hw rfl w hw') (by omega))).mono ?_;rintro _ _ ⟨_,⟨o1,ko1,rfl,rfl⟩,rfl⟩;refine ze ?_;clear hT T;refine zm ?_;exact KE.fin je rfl jd (by first|exact ja|(simp only[Jw,jaf];exact ja)) ⟨o1,ko1,rfl,rfl⟩
theorem Words_K {w0:World} {F:jb} {m:Ju} {t:Nat} {x:List Int} (ok:jak m) (ht:m.R[t]?=some x):
  Call Tryz.prog w0 25 [.pointer (some ⟨m.b,0,none⟩), .int .i64 (t:Nat)] (jy m++F) (fun r H'=> ∃ o,oOk uE x o∧r= .tuple [oV o x.length, .int .i64 0].toArray∧H'=oH uE 34 x o++(jy m++F)):=by
 have hn:=ok.n
 obtain⟨e1,e2⟩:=jdJ ht
 refine Call.enter2 (n:=10) (by rfl) Tryz.func25 rfl rfl rfl ?_;refine zki ?_;intro b2 b3 b4;refine zah ?_;refine zbk fun T hT=>?_;refine(CallV.fn (on_K (R:=fun H'=> ∃ o,oOk uE x o∧H'=(b4,cells [oV o x.length] 47)::(oH uE 34 x o++(jy m++F))) fun b=>?_)).mono ?_
 ·refine CallV.clo (cap:=[.pointer (some ⟨b2,0,none⟩), .pointer (some ⟨b3,0,none⟩), .pointer (some ⟨b4,0,none⟩)]) ?_;refine Call.enter3 (n:=7) (by rfl) Tryz.func56 rfl rfl rfl ?_;refine zeU ?_;refine zw ?_;refine zw ?_;refine zu fun T hT=>?_;refine(CallV.part (CallV.fn (jk9 ok ht)) ja).mono ?_;rintro _ _ ⟨rfl,rfl⟩
  have hs:Sli w0 (jy m++F) uE (subV (oV m.ow m.R.flatten.length) (baseP m.R t) (baseP m.R t+x.length) 1) x:=by
   have h:=jja (w0:=w0) (F:=F) (a:=0) (n:=x.length) ok ht (by omega)
   rw[Nat.zero_add,Nat.add_zero,List.take_length,List.drop_zero] at h;exact h
  refine ze ?_;clear hT T;refine zu fun T hT=>?_;refine(CallV.pure fun w hw'=>CallV.fn (jiV (hs w (hw'.part ja)) (by omega))).mono ?_;rintro _ _ ⟨_,⟨o1,ko1,rfl,rfl⟩,rfl⟩;refine ze ?_;clear hT T;refine zdW ?_;exact KE.finN (H':=(b,cells [.int .i64 0] 30)::(b4,cells [oV o1 x.length] 47)::(oH uE 34 x o1++(jy m++F))) je rfl jd ja ⟨_,⟨o1,ko1,rfl⟩,Part.all⟩
 ·rintro _ _ ⟨rfl,o1,ko1,rfl⟩;refine ze ?_;clear hT T;refine zgs ?_;refine zj ?_;refine zaq ?_;refine zm ?_;exact KE.fin je rfl jd ja ⟨o1,ko1,rfl,rfl⟩
open Go.RowKit
set_option maxRecDepth 10000
def jcZ (h:HdP):Int × Int:=if JT h then(h.r+h.w+1,0) else(0,2)
def jbZ (h:HdP) (i:Int):Bool × Int:=if JT h then(if i<0∨i≥h.r+h.w then(false,110) else(decide (i<h.r),0)) else(false,2)
theorem jfA {h:HdP} (hm:JT h=true):0≤h.c∧h.c<8∧0≤h.r∧0≤h.w∧h.r≤63∧h.w≤63-h.r:=of_decide_eq_true hm
theorem Need_K {w0:World} {H:jb} {h:HdP}:Call Tryz.prog w0 189 [hdV h] H (fun u H'=>u= .tuple [.int .i64 (jcZ h).1, .int .i64 (jcZ h).2].toArray∧H'=H):=by
 have hu:hdV h= .agg [.int .i64 h.c, .int .i64 h.r, .int .i64 h.w].toArray:=rfl
 rw[hu];refine Call.enter1 (n:=13) (by rfl) Tryz.func189 rfl rfl rfl ?_;refine zb7 ?_;intro b1;refine zcY fun T hT=>?_;refine(CallV.fn (jhv (h:=h))).mono ?_;rintro _ _ ⟨rfl,rfl⟩
 cases hm:JT h with
 |true=>
  have hb:=jfA hm
  have hn:jcZ h=(h.r+h.w+1,0):=by grind[jcZ]
  refine ze ?_;clear hT T;rw[hn];refine zy ?_;refine zK ?_;refine zae ?_;refine zaa ?_;refine zaB ?_;refine zaB ?_;exact zb5
 |false=>
  have hn:jcZ h=(0,2):=by grind[jcZ]
  refine ze ?_;clear hT T;rw[hn];refine zaQ ?_;exact zfq
theorem jlw {w0:World} {H:jb} {h:HdP} {i:Int}:Call Tryz.prog w0 264 [hdV h, .int .i64 i] H (fun u H'=>u= .tuple [.bool (jbZ h i).1, .int .i64 (jbZ h i).2].toArray∧H'=H):=by
 have hu:hdV h= .agg [.int .i64 h.c, .int .i64 h.r, .int .i64 h.w].toArray:=rfl
 rw[hu];refine Call.enter2 (n:=26) (by rfl) Tryz.func264 rfl rfl rfl ?_;refine zes ?_;intro b2;refine zns ?_;refine zcY fun T hT=>?_;refine(CallV.fn (jhv (h:=h))).mono ?_;rintro _ _ ⟨rfl,rfl⟩
 cases hm:JT h with
 |true=>
  have hb:=jfA hm
  refine ze ?_;clear hT T
  by_cases h1:i<0
  ·have hn:jbZ h i=(false,110):=by grind[jbZ]
   rw[hn];refine zy ?_;refine zd0 ?_;refine zI ?_;refine zdJ ?_;refine zA ?_;refine zd5 ?_;refine zab ?_;refine zbG ?_;exact zH
  by_cases h2:i≥h.r+h.w
  ·have hn:jbZ h i=(false,110):=by grind[jbZ]
   rw[hn];refine zy ?_;refine zck ?_;refine zX ?_;refine zbK ?_;refine zc8 ?_;refine zaB ?_;refine zl ?_;refine zac ?_;refine zx ?_;refine zd5 ?_;refine zab ?_;refine zbG ?_;exact zH
  ·have hn:jbZ h i=(decide (i<h.r),0):=by grind[jbZ]
   rw[hn]
   by_cases h3:i<h.r
   ·have hd:decide (i<h.r)=true:=decide_eq_true h3
    refine zy ?_;refine zck ?_;refine zX ?_;refine zbK ?_;refine zc8 ?_;refine zaB ?_;refine zl ?_;refine zcS ?_;refine zhh ?_;refine zae ?_;refine zI ?_;refine zab ?_;exact KE.fin je rfl jd ja ⟨by rw[hd];rfl,rfl⟩
   ·have hd:decide (i<h.r)=false:=decide_eq_false h3
    refine zy ?_;refine zck ?_;refine zX ?_;refine zbK ?_;refine zc8 ?_;refine zaB ?_;refine zl ?_;refine zcS ?_;refine zhh ?_;refine zae ?_;refine zW ?_;refine zab ?_;exact KE.fin je rfl jd ja ⟨by rw[hd];rfl,rfl⟩
 |false=>
  have hn:jbZ h i=(false,2):=by grind[jbZ]
  refine ze ?_;clear hT T;rw[hn];refine zag ?_;refine zd5 ?_;refine zab ?_;refine zbG ?_;exact zH
set_option maxRecDepth 10000
theorem Size0_K {w0:World} {F:jb} {p:jZ} {s:Nat} {x:jq} (ok:jaS p) (hx:p.g.L[s]?=some x):
  Call Tryz.prog w0 223 [.pointer (some ⟨p.b,0,none⟩), .int .i64 (s:Nat)] (planH p++F) (fun r H'=>r= .tuple [.int .i64 (x.size:Nat), .int .i64 0].toArray∧H'=planH p++F):=by
 obtain⟨k,d,hk,hd,hs,rfl⟩:=L_at hx
 have ho:=ok.o
 have hpl:p.g.parts.length=p.g.m:=jdW
 have hkl:k<p.g.parts.length:=by omega
 have hx:p.g.parts[k]?=some (p.g.pt k):=jey hk
 refine Call.enter2 (n:=27) (by rfl) Tryz.func223 rfl rfl rfl ?_;refine zp4 ?_;simp only[Jm];refine zfv ?_;refine zaj ?_;refine zhD ?_;refine zcc ?_;refine zi6 ?_;refine zdp ?_;refine zab ?_;exact zeX
theorem Class0_K {w0:World} {F:jb} {p:jZ} {s:Nat} {x:jq} (ok:jaS p) (hx:p.g.L[s]?=some x):
  Call Tryz.prog w0 227 [.pointer (some ⟨p.b,0,none⟩), .int .i64 (s:Nat)] (planH p++F) (fun r H'=>r= .tuple [.int .i64 (x.cls:Nat), .int .i64 0].toArray∧H'=planH p++F):=by
 obtain⟨k,d,hk,hd,hs,rfl⟩:=L_at hx
 refine Call.enter2 (n:=18) (by rfl) Tryz.func227 rfl rfl rfl ?_;refine zp4 ?_;refine zil ?_;refine zay ?_;refine zab ?_;exact zeX
theorem Addr0_K {w0:World} {F:jb} {p:jZ} {s:Nat} {x:jq} (ok:jaS p) (hx:p.g.L[s]?=some x):
  Call Tryz.prog w0 121 [.pointer (some ⟨p.b,0,none⟩), .int .i64 (s:Nat)] (planH p++F) (fun r H'=>r= .tuple [.int .i64 (x.addr:Nat), .int .i64 0].toArray∧H'=planH p++F):=by
 obtain⟨h1,_,_,h2,h3,h4,_⟩:=ok.g.fits hx
 have hw:=ok.g.words
 have hpg:=ok.g.pg
 have hpp:=ok.g.pages.2
 obtain⟨k,d,hk,hd,hs,rfl⟩:=L_at hx
 have hn:=ok.g.n hk
 have hper:=ok.g.per hk
 have hy:=ok.g.y k hk
 have ho:=ok.o
 have hpl:p.g.parts.length=p.g.m:=jdW
 have hkl:k<p.g.parts.length:=by omega
 have hx:p.g.parts[k]?=some (p.g.pt k):=jey hk
 simp only[PlG.sl] at h1 h2 h3 h4⊢
 obtain⟨pt,hpt⟩: ∃ pt,pt=p.g.pt k:=⟨_,rfl⟩
 obtain⟨y,hy'⟩: ∃ y,y=p.g.y k:=⟨_,rfl⟩
 obtain⟨per,hper'⟩: ∃ y,y=p.g.per k:=⟨_,rfl⟩
 obtain⟨pg,hpg'⟩: ∃ y,y=p.g.page k:=⟨_,rfl⟩
 rw[←hy',←hper',←hpg'] at h1 h3 h4⊢;rw[←hper',←hpg'] at h2;rw[←hper'] at hper;rw[←hy'] at hy;rw[←hpt] at hx
 obtain⟨sz,fi,ma,pa,pe⟩:=pt
 obtain⟨rfl,_,_,rfl,rfl⟩:sz=y∧fi=p.g.first k∧ma=p.g.n k∧pa=pg∧pe=per:=by
  grind[PlG.pt]
 clear hpt hy' hper' hpg'
 obtain⟨a,ha⟩: ∃ a,a=d/pe:=⟨_,rfl⟩
 obtain⟨b,hb⟩: ∃ b,b=d%pe:=⟨_,rfl⟩
 have e1:((d:Nat):Int)/((pe:Nat):Int)=(a:Nat):=by omega
 have e2:((d:Nat):Int)%((pe:Nat):Int)=(b:Nat):=by omega
 rw[←ha,←hb] at h1⊢;rw[←ha] at h2 h3 h4;rw[←hb] at h4
 obtain⟨m1,hm1⟩: ∃ m,m=(pa+a)*p.g.pg:=⟨_,rfl⟩
 obtain⟨m2,hm2⟩: ∃ m,m=b*sz:=⟨_,rfl⟩
 have e3:(((pa:Nat):Int)+(a:Nat))*((p.g.pg:Nat):Int)=(m1:Nat):=by simp_all
 have e4:((b:Nat):Int)*((sz:Nat):Int)=(m2:Nat):=by omega
 have hal:a≤d:=by rw[ha];exact Nat.div_le_self _ _
 have hbl:b≤d:=by rw[hb];exact Nat.mod_le _ _
 rw[←hm1,←hm2] at h1⊢
 have hm1b:m1≤1048576:=by omega
 have hm2b:m2≤1048576:=by omega
 clear h3 h4;refine Call.enter2 (n:=47) (by rfl) Tryz.func121 rfl rfl rfl ?_;refine zp4 ?_;simp only[Jm];refine zfv ?_;refine zaj ?_;refine zhD ?_;refine zcc ?_;refine zky ?_;refine znl ?_;intro b9;refine za3 ?_;simp only[partE_enc]
 have e5:(((pa:Nat):Int)+((d:Nat):Int)/((pe:Nat):Int))*((p.g.pg:Nat):Int)=(m1:Nat):=by grind
 have e6:((d:Nat):Int)%((pe:Nat):Int)*((sz:Nat):Int)=(m2:Nat):=by grind
 have e7:((m1:Nat):Int)+((m2:Nat):Int)=((m1+m2:Nat):Int):=by omega
 refine K.seq ?_;refine K.drawn [] [(0,0),(1,0),(2,0),(3,0),(4,0),(5,0),(6,0),(7,0),(8,0),(9,0),(10,0),(11,0),(12,0),(13,0),(14,0),(15,0),(16,0),(17,0),(18,0),(19,0),(20,0),(21,0)] (by rfl) (by rfl) (by kernel_rfl) (by rfl) (by rfl) (by rfl) Part.nil ?_;refine znF ?_;refine zo ?_;refine zd7 ?_;refine ziX ?_;refine zdt ?_;refine zgD ?_;refine zlQ ?_;refine zo ?_;refine zd7 ?_;refine zlE ?_;refine zet ?_;refine zlQ ?_;refine zdt ?_;refine zgF ?_;rw[e5,e6,e7];exact zeX
set_option maxRecDepth 10000
structure BoM where
 b:Nat
 m:Ju
 t:Nat
 p:jZ
def jT (B:BoM):jb:=[(B.b,cells [.pointer (some ⟨B.m.b,0,none⟩), .int .i64 (B.t:Nat), .pointer (some ⟨B.p.b,0,none⟩)] 219)]
theorem jbn {B:BoM} {F:jb}:jT B++F=(B.b,cells [.pointer (some ⟨B.m.b,0,none⟩), .int .i64 (B.t:Nat), .pointer (some ⟨B.p.b,0,none⟩)] 219)::F:=rfl
structure jaD (B:BoM) (x:List Int):Prop where
 m:jak B.m
 p:jaS B.p
 r:B.m.R[B.t]?=some x
 n:x.length=B.p.g.words
 w:jac x
def jaB (m:Ju) (t:Nat) (x:List Int):Ju:=⟨m.b,m.R.set t x,m.ow,m.ob⟩
theorem jk6 {m:Ju} {t a:Nat} {w:Int} {x:List Int} (ht:m.R[t]?=some x):setM m t a w=jaB m t (x.set a w):=by grind[setM,jaB]
theorem jjW {m:Ju} {t:Nat} {x:List Int} {p:jq} (ht:m.R[t]?=some x):jeY m t p.addr p.size=jaB m t (J6 x p):=by unfold jeY jaB;rw [ht];rfl
theorem jld {m:Ju} {t:Nat} {x y:List Int}:jaB (jaB m t x) t y=jaB m t y:=by simp[jaB]
theorem putM_R {m:Ju} {t:Nat} {x y:List Int} (ht:m.R[t]?=some x):(jaB m t y).R[t]?=some y:=by grind[jaB]
theorem jgF {m:Ju} {t:Nat} {x:List Int} (ht:m.R[t]?=some x):jaB m t x=m:=by
 unfold jaB
 have:m.R.set t x=m.R:=by
  apply List.ext_getElem?
  grind
 rw[this]
theorem putM_ok {m:Ju} {t:Nat} {x y:List Int} (ok:jak m) (ht:m.R[t]?=some x) (hl:y.length=x.length):jak (jaB m t y):=by
 have h:=set_r ht (x':=y) hl
 refine ok_of ok ?_ h.2 (by simp)
 obtain⟨e1,e2⟩:=jdJ ht
 grind
def jbK (B:BoM) (x:List Int):BoM:=⟨B.b,jaB B.m B.t x,B.t,B.p⟩
theorem setB_ok {B:BoM} {x y:List Int} (ok:jaD B x) (hl:y.length=x.length) (hw:jac y):jaD (jbK B y) y:=⟨putM_ok ok.m ok.r hl,ok.p,putM_R ok.r,by rw[hl];exact ok.n,hw⟩
theorem jcn {B:BoM} {x:List Int} (ok:jaD B x):jbK B x=B:=by unfold jbK;rw [jgF ok.r]
def headV (o:Option HdP):Value:=match o with
 |some h=> .tuple [hdV h, .int .i64 0].toArray
 |none=> .tuple [hdV ⟨0,0,0⟩, .int .i64 5].toArray
section
variable {w0 : World} {F : jb} {B : BoM} {x : List Int} {s : Nat} {y : jq}
theorem bonone_K:
  Call Tryz.prog w0 222 [.pointer (some ⟨B.b,0,none⟩)] (jT B++(jy B.m++(planH B.p++F))) (fun r H'=>r= .bool false∧H'=jT B++(jy B.m++(planH B.p++F))):=by
 refine Call.enter1 (n:=12) (by rfl) Tryz.func222 rfl rfl rfl ?_;simp only[Jm,jaf,jbn];refine zfx ?_;refine zea ?_;exact zgQ
theorem place_K (ok:jaD B x) (hy:B.p.g.L[s]?=some y):
  Call Tryz.prog w0 166 [.pointer (some ⟨B.b,0,none⟩), .int .i64 (s:Nat)] (jT B++(jy B.m++(planH B.p++F))) (fun r H'=>r= .tuple [.int .i64 (y.addr:Nat), .int .i64 (y.size:Nat), .int .i64 0].toArray∧H'=jT B++(jy B.m++(planH B.p++F))):=by
 have okp:=ok.p
 refine Call.enter2 (n:=33) (by rfl) Tryz.func166 rfl rfl rfl ?_;refine zL ?_;refine zt ?_;refine ze2 ?_;refine jp (bonone_K (B:=B)) ?_;simp only[Jm,jaf,jbn];refine za6 ?_;refine zF ?_;refine zaa ?_;refine zz fun T hT=>?_;refine(CallV.part (CallV.fn (Addr0_K okp hy)) (by first|exact ja|(simp only[Jw,Jm,jaf,jbn];exact ja))).mono ?_;rintro _ _ ⟨rfl,rfl⟩;refine ze ?_;clear hT T;refine zlv ?_;refine zbR ?_;refine zas ?_;refine zaa ?_;refine zz fun T hT=>?_;refine(CallV.part (CallV.fn (Size0_K okp hy)) (by first|exact ja|(simp only[Jw,Jm,jaf,jbn];exact ja))).mono ?_;rintro _ _ ⟨rfl,rfl⟩;refine ze ?_;clear hT T;refine zlv ?_;refine zay ?_;refine zj ?_;refine zt ?_;refine zab ?_;exact zgQ
theorem lies_K {h:HdP} (ok:jaD B x) (hy:B.p.g.L[s]?=some y):
  Call Tryz.prog w0 169 [.pointer (some ⟨B.b,0,none⟩), .int .i64 (s:Nat), .int .i64 (y.size:Nat),hdV h] (jT B++(jy B.m++(planH B.p++F))) (fun r H'=>r= .bool (jaz y h)∧H'=jT B++(jy B.m++(planH B.p++F))):=by
 have okp:=ok.p
 have hneed:=fun A=>Need_K (w0:=w0) (H:=A) (h:=h)
 obtain⟨c,r,w⟩:=h
 unfold hdV at*;dsimp only at*
 cases hm:JT ⟨c,r,w⟩ with
 |false=>
  have e:jaz y ⟨c,r,w⟩=false:=by grind[jaz]
  have hn:jcZ ⟨c,r,w⟩=(0,2):=by grind[jcZ]
  simp only[hn] at hneed;rw[e];refine zoc ?_;refine zbN ?_;intro b7;refine zhf ?_;refine zp1 ?_;refine zF ?_;refine zaa ?_;refine zz fun T hT=>?_;refine zod ?_;rintro _ _ ⟨rfl,rfl⟩;refine ze ?_;clear hT T;refine zlv ?_;refine zap ?_;refine zC ?_;refine zdT ?_;refine zx ?_;refine zbg ?_;refine zm ?_;exact zgQ
 |true=>
  have hn:jcZ ⟨c,r,w⟩=(r+w+1,0):=by grind[jcZ]
  simp only[hn] at hneed
  by_cases h1:c=(y.cls:Nat)
  ·by_cases h2:r+w+1≤(y.size:Nat)
   ·have e:jaz y ⟨c,r,w⟩=true:=by grind[jaz]
    rw[e];refine zoc ?_;refine zbN ?_;intro b7;refine zhf ?_;refine zp1 ?_;refine zF ?_;refine zaa ?_;refine zz fun T hT=>?_;refine zod ?_;rintro _ _ ⟨rfl,rfl⟩;refine ze ?_;clear hT T;refine zlv ?_;refine zap ?_;refine zO ?_;refine zaV ?_;refine zQ ?_;refine zO ?_;refine zA ?_;refine ze3 ?_;refine zec ?_;refine zdh ?_;exact zgQ
   ·have e:jaz y ⟨c,r,w⟩=false:=by grind[jaz]
    rw[e];refine zoc ?_;refine zbN ?_;intro b7;refine zhf ?_;refine zp1 ?_;refine zF ?_;refine zaa ?_;refine zz fun T hT=>?_;refine zod ?_;rintro _ _ ⟨rfl,rfl⟩;refine ze ?_;clear hT T;refine zlv ?_;refine zap ?_;refine zO ?_;refine zaV ?_;refine zQ ?_;refine zO ?_;refine zA ?_;refine ze3 ?_;refine zhN ?_;refine zdh ?_;exact zgQ
  ·have e:jaz y ⟨c,r,w⟩=false:=by grind[jaz]
   rw[e];refine zoc ?_;refine zbN ?_;intro b7;refine zhf ?_;refine zp1 ?_;refine zF ?_;refine zaa ?_;refine zz fun T hT=>?_;refine zod ?_;rintro _ _ ⟨rfl,rfl⟩;refine ze ?_;clear hT T;refine zlv ?_;refine zap ?_;refine zO ?_;refine zaV ?_;refine zQ ?_;refine zpR ?_;refine zbg ?_;refine zm ?_;exact zgQ
theorem jeX (hG:ji w0) (ok:jaD B x) (hy:B.p.g.L[s]?=some y):
  Call Tryz.prog w0 137 [.pointer (some ⟨B.b,0,none⟩), .int .i64 (s:Nat)] (jT B++(jy B.m++(planH B.p++F))) (fun r H'=>r=headV (headP x y)∧H'=jT B++(jy B.m++(planH B.p++F))):=by
 have okp:=ok.p
 have okm:=ok.m
 have hr:=ok.r
 obtain⟨f1,f2,_⟩:=ok.p.g.fits hy
 have hal:y.addr<x.length:=by rw[ok.n];omega
 have hwx:=wAt_get hal
 obtain⟨w1,w2⟩:=ok.w.at_ y.addr
 obtain⟨w,hw⟩: ∃ w:Nat,wAt x y.addr=w:=⟨(wAt x y.addr).toNat,by omega⟩
 have hhead:headP x y=match getH w with|some h=>if jaz y h then some h else none|none=>none:=by grind[headP]
 rw[hw] at hwx w2
 have hwl:w<18446744073709551616:=by omega
 refine Call.enter2 (n:=53) (by rfl) Tryz.func137 rfl rfl rfl ?_;refine zbx ?_;intro b4;refine zay ?_;refine zp ?_;refine zi7 ?_;rw[jbn];refine zfv ?_;refine zaj ?_;refine zb8 ?_;refine K.drawn [] [(0,0),(1,0),(2,0),(3,0),(4,0),(5,0),(6,0),(7,0),(8,0),(9,2),(10,0),(11,0),(12,0),(13,0),(14,0)] (by rfl) (by rfl) (by kernel_rfl) (by rfl) (by rfl) (by rfl) Part.nil ?_;refine zcT ?_;refine zgE ?_;refine zd9 fun T hT=>?_;refine(CallV.part (CallV.fn (Load_K okm hr hwx)) ja).mono ?_;rintro _ _ ⟨rfl,rfl⟩;refine zi ?_;clear hT T;refine zeH ?_;refine zV ?_;refine zz fun T hT=>?_;refine(CallV.fn (hGet_K hG hwl)).mono ?_;rintro _ _ ⟨rfl,rfl⟩;unfold hGetP
 cases hg:getH w with
 |none=>
  rw[hg] at hhead;dsimp only at hhead⊢;refine ze ?_;clear hT T;rw[hhead];unfold hdV headV;refine zb4 ?_;intro b11;refine zM ?_;refine zdZ ?_;refine zbh ?_;refine zcQ ?_;refine zaE ?_;exact zgQ
 |some h=>
  rw[hg] at hhead;dsimp only at hhead⊢
  have hlies:=fun A=>lies_K (w0:=w0) (F:=A) (h:=h) ok hy
  obtain⟨c,r,w⟩:=h
  unfold hdV at*;dsimp only at*;refine ze ?_;clear hT T;refine zb4 ?_;intro b11;refine zfh ?_;refine zX ?_;refine zjW ?_;refine zu fun T hT=>?_;refine(CallV.part (CallV.fn (hlies _)) (by first|exact ja|(simp only[Jw,Jm,jaf,jbn];exact ja))).mono ?_;rintro _ _ ⟨rfl,rfl⟩
  cases hl:jaz y ⟨c,r,w⟩ with
  |true=>
   rw[hl] at hhead;simp only[if_true] at hhead;refine ze ?_;clear hT T;rw[hhead];unfold headV hdV;refine zpI ?_;refine zaX ?_;refine zau ?_;refine zpD ?_;exact zgQ
  |false=>
   rw[hl] at hhead;simp only[Bool.false_eq_true,if_false] at hhead;refine ze ?_;clear hT T;rw[hhead];unfold headV hdV;refine zeC ?_;refine za8 ?_;refine zcQ ?_;refine zaE ?_;exact zgQ
end
end Go.Proofs.YtebiafomiemgbaaGreatDoor.Sw
