/-The walker and contracts, part 17.-/
import Derived.Test.YtciaccbemnpipaaGreatDoorJ15
import Derived.Test.YtciaccbemnpipaaGreatDoorJ16
set_option linter.all false
namespace Go.Proofs.YtciaccbemnpipaaGreatDoor.Sw
set_option maxHeartbeats 8000000
open Go.Proofs.YtciaccbemnpipaaGreatDoor renaming lo -> qL, hi -> qH
open Go.RowKit
set_option maxRecDepth 10000
theorem jkN {w0:World} {F:jb} {m:Jy} (ok:jaB m):
  Cs w0 36 [pt m.b] (jy m++F) (.bool false):=by
 have hb:=ok.b
 have hl:=jiQ m.R
 have hne: ¬(((jaA m.R).length:Nat):Int)=0:=by omega
 refine en1 13 Tryz.func36 ?_;simp only[jG,j8];refine yr21 ?_;exact zbU
theorem jjh {w0:World} {F:jb} {m:Jy} {t:Nat} {x:List Int} (ok:jaB m) (ht:m.R[t]?=some x):
  Cs w0 246 [pt m.b, .int .i64 (t:Nat)] (jy m++F) (j9 (oV m.ow m.R.flatten.length) (baseP m.R t) (baseP m.R t+x.length) 1):=by
 have hb:=ok.b
 have hw:=ok.w
 have hl:=jiQ m.R
 have htl:=jl ht
 have htn:=ok.t
 have hfn:=ok.n
 obtain⟨e1,e2⟩:=jcq ht
 have g1:=jiR (R:=m.R) (t:=t) bc
 have g2:=jiR (R:=m.R) (t:=t+1) bc
 have g2':(jaA m.R)[((t:Int)+1).toNat]?=some ((baseP m.R t+x.length:Nat):Int):=by rw[show((t:Int)+1).toNat=t+1 by omega,g2,e1]
 have hge: ¬(t:Int)>=((jaA m.R).length:Nat)-1:=by omega
 refine en2 43 Tryz.func246 ?_;refine yr11 ?_;refine jj (jkN ok) ?_;simp only[jG,j8];refine yr26 ?_;refine K.dr [] (od 0 [0,0,0,0,0,0,0,0,0,0,0,0,0,0,0,0,0,0,0,0,0]) Part.nil ?_;refine yr24 ?_;exact zbU
theorem jhy {w0:World} {F:jb} {m:Jy} {t a n:Nat} {x:List Int} (ok:jaB m) (ht:m.R[t]?=some x) (hn:1<=n) (ha:a+n<=x.length):
  Call Tryz.prog w0 335 [pt m.b, .int .i64 (t:Nat), .int .i64 (a:Nat), .int .i64 (n:Nat)] (jy m++F)
   (fun r H'=>r=j9 (oV m.ow m.R.flatten.length) (baseP m.R t+a) (baseP m.R t+(a+n)) 1/\H'=jy m++F):=by
 have hw:=ok.w
 obtain⟨e1,e2⟩:=jcq ht
 have hfn:=ok.n
 have hsl:Sli w0 (jy m++F) uE (j9 (oV m.ow m.R.flatten.length) (baseP m.R t) (baseP m.R t+x.length) 1) x:=by
  have h:Sli w0 (jy m++F) uE (oV m.ow m.R.flatten.length) m.R.flatten:=by rw[j8];exact Sli.own jt hw rfl
  have h2:=h.sub (l:=baseP m.R t) (h:=baseP m.R t+x.length) bc e2
  rw[flat_part ht] at h2;exact h2
 have hxl:x.length<=1000000000:=by omega
 have hcap:=jkL hw
 have h2v:=fun hd=>subV_two (a:=baseP m.R t) (b:=baseP m.R t+x.length) (c:=a) (d:=a+n) hcap.1 hcap.2 e2 bc hd bc
 have h2v':=h2v bc
 have hle:(a:Int)+(n:Int)=((a+n:Nat):Int):=by omega
 refine en4 40 Tryz.func335 ?_;refine yr10 ?_;refine jj (jjh ok ht) ?_;refine yr31 ?_;refine zg ?_;refine yr5 ?_;rw[hle];refine yr5 ?_;rw[show uE.sz=1 from rfl,h2v'];exact zd
theorem jg8 {w0:World} {F:jb} {m:Jy} {t a n:Nat} {x:List Int} (ok:jaB m) (ht:m.R[t]?=some x) (ha:a+n<=x.length):
  Sli w0 (jy m++F) uE (j9 (oV m.ow m.R.flatten.length) (baseP m.R t+a) (baseP m.R t+(a+n)) 1) ((x.take (a+n)).drop a):=by
 have hw:=ok.w
 obtain⟨e1,e2⟩:=jcq ht
 have h:Sli w0 (jy m++F) uE (oV m.ow m.R.flatten.length) m.R.flatten:=by rw[j8];exact Sli.own jt hw rfl
 have h2:=h.sub (l:=baseP m.R t+a) (h:=baseP m.R t+(a+n)) bc bc
 obtain⟨A,B,hR,hA⟩:=jdb ht
 have hb:baseP m.R t=A.flatten.length:=by rw[hR,<-hA];exact jcE.1
 have e:(m.R.flatten.take (baseP m.R t+(a+n))).drop (baseP m.R t+a)=(x.take (a+n)).drop a:=by
  rw[hb,hR,List.flatten_append,List.flatten_cons,List.take_append,List.take_of_length_le bc,show A.flatten.length+(a+n)-A.flatten.length=a+n by omega,List.take_append_of_le_length ha,List.drop_append,List.drop_of_length_le bc,List.nil_append,show A.flatten.length+a-A.flatten.length=a by omega]
 rw[e] at h2;exact h2
theorem Load_K {w0:World} {F:jb} {m:Jy} {t a:Nat} {x:List Int} {w:Int} (ok:jaB m) (ht:m.R[t]?=some x) (hx:x[a]?=some w):
  Cs w0 249 [pt m.b, .int .i64 (t:Nat), .int .i64 (a:Nat)] (jy m++F) (.tuple [.int .u64 w, .int .i64 0].toArray):=by
 have hal:=jl hx
 have hg:((x.take (a+1)).drop a)[0]?=some w:=by rw[List.getElem?_drop,List.getElem?_take_of_lt bc];simpa using hx
 refine en3 12 Tryz.func249 ?_;refine yr3 ?_;intro b3;refine yr1 ?_;intro b4;refine yr1 ?_;intro b5;refine yr1 ?_;intro b6;refine yq6 fun T hT=>?_;refine(CallV.fn (on_K (R:=fun H'=>H'=(b6,cells [.int .u64 w] 67)::(jy m++F)) fun b=>CallV.clo (cap:=[pt b3,pt b4,pt b5,pt b6]) ?_)).mono ?_
 ·refine en4 10 Tryz.func334 ?_;refine yr5 ?_;refine je (jhy (a:=a) (n:=1) ok ht bc bc) ja ?_;rintro _ _ ⟨rfl,rfl⟩
  have hs:=jg8 (w0:=w0) (F:=F) (a:=a) (n:=1) ok ht bc
  have hsl:(0:Int).toNat<((x.take (a+1)).drop a).length:=by rw[List.length_drop,List.length_take];omega
  have hg':((x.take (a+1)).drop a)[(0:Int).toNat]?=some w:=hg
  refine yr4 ?_;exact KE.finN (H':=(b,cells [.int .i64 0] 76)::(b6,cells [.int .u64 w] 67)::(jy m++F)) jd rfl jc ja ⟨_,rfl,Part.all⟩
 ·rintro _ _ ⟨rfl,rfl⟩;refine ze ?_;clear hT T;refine yr12 ?_;exact zd
def setM (m:Jy) (t a:Nat) (w:Int):Jy:=⟨m.b,m.R.set t (((m.R[t]?).getD []).set a w),m.ow,m.ob⟩
theorem setM_R {m:Jy} {t a:Nat} {w:Int} {x:List Int} (ht:m.R[t]?=some x):(setM m t a w).R=m.R.set t (x.set a w):=by unfold setM;rw [ht];rfl
theorem ok_of {m:Jy} {R':List (List Int)} (ok:jaB m) (hf:R'.flatten.length=m.R.flatten.length) (hb:jaA R'=jaA m.R) (hl:R'.length=m.R.length):jaB ⟨m.b,R',m.ow,m.ob⟩:=by
 refine⟨?_,by show oOk iE (jaA R') m.ob;rw [hb];exact ok.b,by show R'.flatten.length<=_;rw [hf];exact ok.n,by show 1<=R'.length/\R'.length<=1000;rw [hl];exact ok.t⟩
 have h:=ok.w
 show oOk uE R'.flatten m.ow
 cases ho:m.ow with
 |none=>rw [ho] at h;simp only[oOk] at h|-;rw [h] at hf;exact List.length_eq_zero_iff.1 hf
 |some ob=>rw [ho] at h;simp only[oOk] at h|-;rw [hf];exact h
theorem Store_K {w0:World} {F:jb} {m:Jy} {t a:Nat} {x:List Int} {w:Int} (ok:jaB m) (ht:m.R[t]?=some x) (ha:a<x.length):
  Call Tryz.prog w0 293 [pt m.b, .int .i64 (t:Nat), .int .i64 (a:Nat), .int .u64 w] (jy m++F) (fun r H'=>r= .int .i64 0/\H'=jy (setM m t a w)++F):=by
 have hw:=ok.w
 obtain⟨e1,e2⟩:=jcq ht
 have hcap:=jkL hw
 obtain⟨v0,hv0⟩:=jq ha
 have hfa:=flat_at_r ht hv0
 have had:adr (j9 (oV m.ow m.R.flatten.length) (baseP m.R t+a) (baseP m.R t+(a+1)) 1) (0*uE.sz)=adr (oV m.ow m.R.flatten.length) ((baseP m.R t+a)*uE.sz):=adr_sub (a:=baseP m.R t+a) (b:=baseP m.R t+(a+1)) hcap.1 hcap.2 bc bc
 have hsw:=set_word (w:=w) ht ha
 have hbs:=(set_r ht (x':=x.set a w) bF).2
 have hlen:(m.R.flatten.set (baseP m.R t+a) w).length=m.R.flatten.length:=List.length_set
 refine en4 11 Tryz.func293 ?_;refine yr3 ?_;intro b4;refine yr1 ?_;intro b5;refine yr1 ?_;intro b6;refine yr1 ?_;intro b7;refine yq6 fun T hT=>?_;refine(CallV.fn (on_K (R:=fun H'=>H'=jy (setM m t a w)++F) fun b=>?_)).mono ?_
 ·refine CallV.clo (cap:=[pt b7,pt b4,pt b5,pt b6]) ?_;refine en4 10 Tryz.func358 ?_;refine zi ?_
  (repeat refine K.seq ?_)
  refine K.dr _ [(0,0),(1,0),(2,0),(4,1),(3,2),(5,0),(6,4)] Part.all ?_;refine yr5 ?_;refine je (jhy (a:=a) (n:=1) ok ht bc bc) ja ?_;rintro _ _ ⟨rfl,rfl⟩
  have hs:=jg8 (w0:=w0) (F:=F) (a:=a) (n:=1) ok ht bc
  have hsl:(0:Int).toNat<((x.take (a+1)).drop a).length:=by rw[List.length_drop,List.length_take];omega
  refine yr2 ?_
  --STOP before op 6
  rw[had];simp only[jG,j8]
  (first|(refine KD.eNX rfl (Eff.stSl (x1:=w) rfl rfl jdl rfl jt bh bh rfl rfl) ?_;rintro _ _ rfl)|(refine KD.eNX rfl (Eff.stSl0 (x1:=w) rfl rfl jdl rfl jt bh bh rfl rfl) ?_;rintro _ _ rfl))
  refine yr1 ?_
  skip
  rw[<-hsw,<-hlen,<-hsw,<-hbs];exact KE.finN (H':=(b,cells [.int .i64 0] 76)::(jy (setM m t a w)++F)) jd rfl jc (by rw[j8,setM_R ht];exact ja) ⟨_,rfl,by rw[j8];exact Part.all⟩
 ·rintro _ _ ⟨rfl,rfl⟩;refine ze ?_;clear hT T;refine yr4 ?_;exact zd
def jdh (m:Jy) (t a n:Nat):Jy:=⟨m.b,m.R.set t (cleared ((m.R[t]?).getD []) a (a+n) 0),m.ow,m.ob⟩
theorem zeroM_R {m:Jy} {t a n:Nat} {x:List Int} (ht:m.R[t]?=some x):(jdh m t a n).R=m.R.set t (cleared x a (a+n) 0):=by unfold jdh;rw [ht];rfl
theorem Zero_K {w0:World} {F:jb} {m:Jy} {t a n:Nat} {x:List Int} (ok:jaB m) (ht:m.R[t]?=some x) (hn:1<=n) (ha:a+n<=x.length):
  Call Tryz.prog w0 271 [pt m.b, .int .i64 (t:Nat), .int .i64 (a:Nat), .int .i64 (n:Nat)] (jy m++F) (fun r H'=>r= .int .i64 0/\H'=jy (jdh m t a n)++F):=by
 have hw:=ok.w
 obtain⟨e1,e2⟩:=jcq ht
 have hl:=jdp (xs:=x) (i:=a) (h:=a+n) (x0:=(0:Int)) bc ha
 have hsw:=jmk ht (i:=a) (h':=a+n) bc ha
 have hbs:=(set_r ht (x':=cleared x a (a+n) 0) hl).2
 have hlen:(cleared m.R.flatten (baseP m.R t+a) (baseP m.R t+(a+n)) 0).length=m.R.flatten.length:=jdp bc bc
 refine en4 11 Tryz.func271 ?_;refine yr3 ?_;intro b4;refine yr1 ?_;intro b5;refine yr1 ?_;intro b6;refine yr1 ?_;intro b7;refine yq6 fun T hT=>?_;refine(CallV.fn (on_K (R:=fun H'=>H'=jy (jdh m t a n)++F) fun b=>?_)).mono ?_
 ·refine CallV.clo (cap:=[pt b4,pt b5,pt b6,pt b7]) ?_;refine en4 9 Tryz.func346 ?_;refine yr6 ?_;refine ji (jhy (a:=a) (n:=n) ok ht hn ha) ja ?_;simp only[jG,j8];refine KL.eN (Eff.clearS (x0:=(0:Int)) (i:=baseP m.R t+a) (h:=baseP m.R t+(a+n)) rfl rfl rfl rfl bc bc jt hw) ?_;rintro _ _ ⟨rfl,okc,rfl⟩;refine yr1 ?_
  skip
  rw[<-hsw,<-hlen,<-hsw,<-hbs];exact KE.finN (H':=(b,cells [.int .i64 0] 76)::(jy (jdh m t a n)++F)) jd rfl jc (by rw[j8,zeroM_R ht];exact ja) ⟨_,rfl,by rw[j8];exact Part.all⟩
 ·rintro _ _ ⟨rfl,rfl⟩;refine ze ?_;clear hT T;refine yr4 ?_;exact zd
theorem All_K {w0:World} {F:jb} {m:Jy} (ok:jaB m):
  Call Tryz.prog w0 15 [pt m.b] (jy m++F) (fun r H'=> ∃ o,oOk uE m.R.flatten o/\r=oV o m.R.flatten.length/\H'=oH uE 67 m.R.flatten o++(jy m++F)):=by
 have hw:=ok.w
 have hn:=ok.n
 refine en1 10 Tryz.func15 ?_;refine yr10 ?_;refine jj (jkN ok) ?_;simp only[jG,j8];refine yr12 ?_;refine(CallV.pure fun w hw'=>CallV.fn (jgT (Sli.own jt hw rfl w hw') bc)).mono ?_;rintro _ _ ⟨_,⟨o1,ko1,rfl,rfl⟩,rfl⟩;refine yr4 ?_;exact KE.fin jd rfl jc (by first|exact ja|(simp only[jG,j8];exact ja)) ⟨o1,ko1,rfl,rfl⟩
theorem Words_K {w0:World} {F:jb} {m:Jy} {t:Nat} {x:List Int} (ok:jaB m) (ht:m.R[t]?=some x):
  Call Tryz.prog w0 156 [pt m.b, .int .i64 (t:Nat)] (jy m++F) (fun r H'=> ∃ o,oOk uE x o/\r= .tuple [oV o x.length, .int .i64 0].toArray/\H'=oH uE 67 x o++(jy m++F)):=by
 have hn:=ok.n
 obtain⟨e1,e2⟩:=jcq ht
 refine en2 10 Tryz.func156 ?_;refine yr3 ?_;intro b2;refine yr1 ?_;intro b3;refine yr1 ?_;intro b4;refine yq6 fun T hT=>?_;refine(CallV.fn (on_K (R:=fun H'=> ∃ o,oOk uE x o/\H'=(b4,cells [oV o x.length] 66)::(oH uE 67 x o++(jy m++F))) fun b=>?_)).mono ?_
 ·refine CallV.clo (cap:=[pt b2,pt b3,pt b4]) ?_;refine en3 7 Tryz.func245 ?_;refine yq3 fun T hT=>?_;refine(CallV.part (CallV.fn (jjh ok ht)) ja).mono ?_;rintro _ _ ⟨rfl,rfl⟩
  have hs:Sli w0 (jy m++F) uE (j9 (oV m.ow m.R.flatten.length) (baseP m.R t) (baseP m.R t+x.length) 1) x:=by
   have h:=jg8 (w0:=w0) (F:=F) (a:=0) (n:=x.length) ok ht bc
   rw[Nat.zero_add,Nat.add_zero,List.take_length,List.drop_zero] at h;exact h
  refine ze ?_;clear hT T;refine yr1 ?_;refine(CallV.pure fun w hw'=>CallV.fn (jgT (hs w (hw'.part ja)) bc)).mono ?_;rintro _ _ ⟨_,⟨o1,ko1,rfl,rfl⟩,rfl⟩;refine yr2 ?_;exact KE.finN (H':=(b,cells [.int .i64 0] 76)::(b4,cells [oV o1 x.length] 66)::(oH uE 67 x o1++(jy m++F))) jd rfl jc ja ⟨_,⟨o1,ko1,rfl⟩,Part.all⟩
 ·rintro _ _ ⟨rfl,o1,ko1,rfl⟩;refine ze ?_;clear hT T;refine yr12 ?_;exact KE.fin jd rfl jc ja ⟨o1,ko1,rfl,rfl⟩
def jaj (h:HdP):Int × Int:=if Jb h then(h.r+h.w+1,0) else(0,2)
def JJ (h:HdP) (i:Int):Bool × Int:=if Jb h then(if i<0\/i>=h.r+h.w then(false,110) else(decide (i<h.r),0)) else(false,2)
theorem jb6 {h:HdP} (hm:Jb h=true):0<=h.c/\h.c<8/\0<=h.r/\0<=h.w/\h.r<=63/\h.w<=63-h.r:=of_decide_eq_true hm
theorem Need_K {w0:World} {H:jb} {h:HdP}:Call Tryz.prog w0 190 [hdV h] H (fun u H'=>u= .tuple [.int .i64 (jaj h).1, .int .i64 (jaj h).2].toArray/\H'=H):=by
 have hu:hdV h= .agg [.int .i64 h.c, .int .i64 h.r, .int .i64 h.w].toArray:=rfl
 rw[hu];refine en1 13 Tryz.func190 ?_
 (iterate 4 first|refine yS ?_|intro _);refine yq8 fun T hT=>?_
 refine(CallV.fn (jfB (h:=h))).mono ?_;rintro _ _ ⟨rfl,rfl⟩
 cases hm:Jb h with
 |true=>
  have hb:=jb6 hm
  have hn:jaj h=(h.r+h.w+1,0):=by unfold jaj;rw [if_pos hm]
  refine ze ?_;clear hT T;rw[hn];refine yr19 ?_;exact zd
 |false=>
  have hn:jaj h=(0,2):=by unfold jaj;rw [if_neg (by simp[hm])]
  refine ze ?_;clear hT T;rw[hn];refine yr12 ?_;exact zd
theorem jjN {w0:World} {H:jb} {h:HdP} {i:Int}:Call Tryz.prog w0 301 [hdV h, .int .i64 i] H (fun u H'=>u= .tuple [.bool (JJ h i).1, .int .i64 (JJ h i).2].toArray/\H'=H):=by
 have hu:hdV h= .agg [.int .i64 h.c, .int .i64 h.r, .int .i64 h.w].toArray:=rfl
 rw[hu];refine en2 26 Tryz.func301 ?_
 (iterate 4 first|refine yS ?_|intro _);refine yq9 fun T hT=>?_
 refine(CallV.fn (jfB (h:=h))).mono ?_;rintro _ _ ⟨rfl,rfl⟩
 cases hm:Jb h with
 |true=>
  have hb:=jb6 hm
  refine ze ?_;clear hT T
  by_cases h1:i<0
  ·have hn:JJ h i=(false,110):=by unfold JJ;rw [if_pos hm,if_pos (.inl h1)]
   rw[hn];refine yr31 ?_;exact zd
  by_cases h2:i>=h.r+h.w
  ·have hn:JJ h i=(false,110):=by unfold JJ;rw [if_pos hm,if_pos (.inr h2)]
   rw[hn];refine yr31 ?_;exact zd
  ·have hn:JJ h i=(decide (i<h.r),0):=by unfold JJ;rw [if_pos hm,if_neg bc]
   rw[hn]
   by_cases h3:i<h.r
   ·have hd:decide (i<h.r)=true:=decide_eq_true h3
    refine yr36 ?_;exact zaR
   ·have hd:decide (i<h.r)=false:=decide_eq_false h3
    refine yr36 ?_;exact zaR
 |false=>
  have hn:JJ h i=(false,2):=by unfold JJ;rw [if_neg (by simp[hm])]
  refine ze ?_;clear hT T;rw[hn];refine yr14 ?_;exact zd
theorem jhw {w0:World} {H:jb} {h:HdP}:Cs w0 222 [hdV h] H (.bool (Jb h)):=by
 obtain⟨c,r,w⟩:=h
 unfold hdV
 have yes:(0<=c/\c<8/\0<=r/\0<=w/\r<=63/\w<=63-r)->Jb ⟨c,r,w⟩=true:=fun h=>decide_eq_true h
 have no: ¬(0<=c/\c<8/\0<=r/\0<=w/\r<=63/\w<=63-r)->Jb ⟨c,r,w⟩=false:=fun h=>decide_eq_false h
 refine en1 34 Tryz.func222 ?_
 by_cases h1:c>=0
 ·by_cases h2:c<=7
  ·by_cases h3:r>=0
   ·by_cases h5:r<=63
    ·by_cases h4:w>=0
     ·by_cases h6:w<=63-r
      ·rw[yes bc]
       (iterate 44 first|refine yS ?_|intro _)
       exact zd
      ·rw[no bc]
       (iterate 44 first|refine yS ?_|intro _)
       exact zd
     ·rw[no bc]
      (iterate 44 first|refine yS ?_|intro _)
      exact zd
    ·rw[no bc]
     (iterate 44 first|refine yS ?_|intro _)
     exact zd
   ·rw[no bc]
    (iterate 44 first|refine yS ?_|intro _)
    exact zd
  ·rw[no bc]
   (iterate 44 first|refine yS ?_|intro _)
   exact zd
 ·rw[no bc]
  (iterate 44 first|refine yS ?_|intro _)
  exact zd
def jbX (h:HdP):Value:=if Jb h then .tuple [.int .u64 (putN h.c.toNat h.r.toNat h.w.toNat:Nat), .int .i64 0].toArray else .tuple [.int .u64 0, .int .i64 2].toArray
theorem rPut_K {w0:World} {H:jb} {h:HdP}:Call Tryz.prog w0 227 [hdV h] H (fun u H'=>u=jbX h/\H'=H):=by
 have hu:hdV h= .agg [.int .i64 h.c, .int .i64 h.r, .int .i64 h.w].toArray:=rfl
 rw[hu];refine en1 22 Tryz.func227 ?_
 (iterate 4 first|refine yS ?_|intro _);refine yq8 fun T hT=>?_
 refine(CallV.fn (jhw (h:=h))).mono ?_;rintro _ _ ⟨rfl,rfl⟩
 cases hm:Jb h with
 |true=>
  have hb:=jb6 hm
  have hn:jbX h= .tuple [.int .u64 (putN h.c.toNat h.r.toNat h.w.toNat:Nat), .int .i64 0].toArray:=by unfold jbX;rw [if_pos hm]
  refine ze ?_;clear hT T;rw[hn];clear hm hn
  obtain⟨c,r,w⟩:=h
  dsimp only at hb|-
  obtain⟨c,rfl⟩: ∃ q:Nat,c=q:=⟨c.toNat,by omega⟩
  obtain⟨r,rfl⟩: ∃ q:Nat,r=q:=⟨r.toNat,by omega⟩
  obtain⟨w,rfl⟩: ∃ q:Nat,w=q:=⟨w.toNat,by omega⟩
  simp only[Int.toNat_natCast]
  obtain⟨A,hA⟩: ∃ A,A=c*2^48:=⟨_,rfl⟩
  obtain⟨B,hB⟩: ∃ A,A=r*2^32:=⟨_,rfl⟩
  obtain⟨C,hC⟩: ∃ A,A=w*2^16:=⟨_,rfl⟩
  have bA:A<=7*2^48:=by rw[hA];exact Nat.mul_le_mul_right _ bc
  have bB:B<=63*2^32:=by rw[hB];exact Nat.mul_le_mul_right _ bc
  have bC:C<=63*2^16:=by rw[hC];exact Nat.mul_le_mul_right _ bc
  rw[show 7*2^48=1970324836974592 by decide] at bA;rw[show 63*2^32=270582939648 by decide] at bB;rw[show 63*2^16=4128768 by decide] at bC
  have hp:putN c r w=14339461213547659264+A+B+C:=by
   unfold putN;rw[<-hA,<-hB,<-hC,show 199*2^56=14339461213547659264 by decide];omega
  have s1:IntKind.u64.wrap ((c:Int)*2^(min (Int.toNat 48) IntKind.u64.bits))=(A:Int):=by rw[hA];exact jea (j:=48) bc (by rw[<-hA];omega)
  have s2:IntKind.u64.wrap ((r:Int)*2^(min (Int.toNat 32) IntKind.u64.bits))=(B:Int):=by rw[hB];exact jea (j:=32) bc (by rw[<-hB];omega)
  have s3:IntKind.u64.wrap ((w:Int)*2^(min (Int.toNat 16) IntKind.u64.bits))=(C:Int):=by rw[hC];exact jea (j:=16) bc (by rw[<-hC];omega)
  have t1:(14339461213547659264:Int)+(A:Int)=((14339461213547659264+A:Nat):Int):=by omega
  rw[hp];clear hA hB hC hp;refine yr6 ?_;refine zg ?_;refine yr4 ?_;rw[s1];refine yr5 ?_;rw[s2];refine yr5 ?_;rw[s3];refine yr6 ?_;exact KE.fin jd rfl jc ja ⟨by show Value.tuple [.int .u64 ((14339461213547659264:Int)+(A:Int)+(B:Int)+(C:Int)),_].toArray=_;rfl,rfl⟩
 |false=>
  have hn:jbX h= .tuple [.int .u64 0, .int .i64 2].toArray:=by unfold jbX;rw [if_neg (by simp[hm])]
  refine ze ?_;clear hT T;rw[hn];refine yr12 ?_;exact zd
theorem jjU {ws:List Nat} {w:Nat}: ∀ k,k<=ws.length->packK ws (digK ws w ws.length) k=w%2^(ws.take k).sum
 |0,_=>by simp[packK,Nat.mod_one]
 |k+1,h=>by
  obtain⟨n,hn⟩:=jq (l:=ws) (k:=k) bc
  have hd:(digK ws w ws.length)[k]?=some (w/2^(ws.take k).sum%2^n):=by
   unfold digK;rw[List.getElem?_map,List.getElem?_range bc,Option.map_some,hn];rfl
  rw[jaS hd,jjU k bc,ja6 hn,List.sum_append,List.sum_cons,List.sum_nil,Nat.add_zero,Nat.pow_add,Nat.mod_mul,Nat.mul_comm (w/2^(ws.take k).sum%2^n)]
theorem pack5 (a b c d e:Nat):packK wdL [a,b,c,d,e] 5=a+b*2^16+c*2^32+d*2^48+e*2^56:=by
 have h1:=jaS (ws:=wdL) (vs:=[a,b,c,d,e]) (k:=0) rfl
 have h2:=jaS (ws:=wdL) (vs:=[a,b,c,d,e]) (k:=1) rfl
 have h3:=jaS (ws:=wdL) (vs:=[a,b,c,d,e]) (k:=2) rfl
 have h4:=jaS (ws:=wdL) (vs:=[a,b,c,d,e]) (k:=3) rfl
 have h5:=jaS (ws:=wdL) (vs:=[a,b,c,d,e]) (k:=4) rfl
 have e0:packK wdL [a,b,c,d,e] 0=0:=rfl
 rw[show(wdL.take 0).sum=0 from rfl,Nat.pow_zero,Nat.mul_one] at h1;rw[show(wdL.take 1).sum=16 from rfl] at h2;rw[show(wdL.take 2).sum=32 from rfl] at h3;rw[show(wdL.take 3).sum=48 from rfl] at h4;rw[show(wdL.take 4).sum=56 from rfl] at h5;rw[h5,h4,h3,h2,h1,e0,Nat.zero_add]
theorem put_get {w d0 d1 d2 d3 d4:Nat} (hw:w<18446744073709551616) (h0:d0=w%2^16) (h1:d1=w/2^16%2^16) (h2:d2=w/2^32%2^16) (h3:d3=w/2^48%2^8) (h4:d4=w/2^56%2^8):putN d3 d2 d1=w↔d0=0/\d4=199:=by
 have hp:=jjU (ws:=wdL) (w:=w) 5 bn
 rw[show wdL.length=5 from rfl,dig_wd,<-h0,<-h1,<-h2,<-h3,<-h4,pack5,show(wdL.take 5).sum=64 from rfl,show(2:Nat)^64=18446744073709551616 by decide,Nat.mod_eq_of_lt hw] at hp
 have hd0:d0<65536:=by rw[h0];exact Nat.mod_lt _ bn
 clear h0 h1 h2 h3 h4;unfold putN;clear hw
 have hE0:65536<=2^56:=by decide
 obtain⟨A,hA⟩: ∃ A,A=d1*2^16:=⟨_,rfl⟩
 obtain⟨B,hB⟩: ∃ A,A=d2*2^32:=⟨_,rfl⟩
 obtain⟨C,hC⟩: ∃ A,A=d3*2^48:=⟨_,rfl⟩
 obtain⟨E,hE⟩: ∃ A,A=2^56:=⟨_,rfl⟩
 rw[<-hA,<-hB,<-hC,<-hE] at hp|-;rw[<-hE] at hE0;clear hA hB hC hE
 constructor
 ·intro h
  have he:d0+d4*E=199*E:=by omega
  have h0:d0=0:=by
   have h5:(d0+d4*E)%E=(199*E)%E:=by rw[he]
   rw[Nat.add_mul_mod_self_right,Nat.mul_mod_left,Nat.mod_eq_of_lt bc] at h5;exact h5
  refine⟨h0,?_⟩;rw[h0,Nat.zero_add] at he;exact Nat.eq_of_mul_eq_mul_right bc he
 ·rintro⟨h0,h4⟩;rw[h0,h4] at hp
  omega
theorem rGet_K {w0:World} {H:jb} {w:Nat} (hw:w<18446744073709551616):Call Tryz.prog w0 241 [.int .u64 (w:Nat)] H (fun u H'=>u=jbD w/\H'=H):=by
 obtain⟨d0,hd0⟩: ∃ d,d=w%2^16:=⟨_,rfl⟩
 obtain⟨d1,hd1⟩: ∃ d,d=w/2^16%2^16:=⟨_,rfl⟩
 obtain⟨d2,hd2⟩: ∃ d,d=w/2^32%2^16:=⟨_,rfl⟩
 obtain⟨d3,hd3⟩: ∃ d,d=w/2^48%2^8:=⟨_,rfl⟩
 obtain⟨d4,hd4⟩: ∃ d,d=w/2^56%2^8:=⟨_,rfl⟩
 have hpg:=put_get hw hd0 hd1 hd2 hd3 hd4
 have c1:d1<65536:=by rw[hd1];exact Nat.mod_lt _ bn
 have c2:d2<65536:=by rw[hd2];exact Nat.mod_lt _ bn
 have c3:d3<256:=by rw[hd3];exact Nat.mod_lt _ bn
 have hg:jbH w=if d0=0/\d4=199/\Jb ⟨(d3:Int),(d2:Int),(d1:Int)⟩=true then some ⟨(d3:Int),(d2:Int),(d1:Int)⟩ else none:=by unfold jbH;rw [<-hd0,<-hd1,<-hd2,<-hd3,<-hd4]
 obtain⟨u1,hu1⟩: ∃ u,u=w/2^48:=⟨_,rfl⟩
 obtain⟨u2,hu2⟩: ∃ u,u=w/2^32:=⟨_,rfl⟩
 obtain⟨u3,hu3⟩: ∃ u,u=w/2^16:=⟨_,rfl⟩
 have s1:(w:Int).fdiv (2^(min (Int.toNat 48) IntKind.u64.bits))=(u1:Int):=by rw[hu1];exact jby (j:=48) bc
 have s2:(w:Int).fdiv (2^(min (Int.toNat 32) IntKind.u64.bits))=(u2:Int):=by rw[hu2];exact jby (j:=32) bc
 have s3:(w:Int).fdiv (2^(min (Int.toNat 16) IntKind.u64.bits))=(u3:Int):=by rw[hu3];exact jby (j:=16) bc
 have m1:(u1:Int)%256=(d3:Int):=by rw[<-hu1,show(2:Nat)^8=256 by decide] at hd3;omega
 have m2:(u2:Int)%65536=(d2:Int):=by rw[<-hu2,show(2:Nat)^16=65536 by decide] at hd2;omega
 have m3:(u3:Int)%65536=(d1:Int):=by rw[<-hu3,show(2:Nat)^16=65536 by decide] at hd1;omega
 clear hd0 hd1 hd2 hd3 hd4 hu1 hu2 hu3;refine en1 34 Tryz.func241 ?_
 (iterate 7 first|refine yS ?_|intro _)
 refine zg ?_;refine yr2 ?_;rw[s1];refine yr1 ?_;rw[m1];refine yr3 ?_;rw[s2];refine yr1 ?_;rw[m2];refine yr3 ?_;rw[s3];refine yr1 ?_;rw[m3]
 (iterate 4 first|refine yS ?_|intro _);refine yq6 fun T hT=>?_
 refine(CallV.fn (rPut_K (h:=⟨(d3:Int),(d2:Int),(d1:Int)⟩))).mono ?_;rintro _ _ ⟨rfl,rfl⟩
 cases hm:Jb ⟨(d3:Int),(d2:Int),(d1:Int)⟩ with
 |true=>
  have hpp:jbX ⟨(d3:Int),(d2:Int),(d1:Int)⟩= .tuple [.int .u64 (putN d3 d2 d1:Nat), .int .i64 0].toArray:=by unfold jbX;rw [if_pos hm];rfl
  rw[hpp]
  by_cases he:putN d3 d2 d1=w
  ·have hr:jbD w= .tuple [.agg [.int .i64 (d3:Nat), .int .i64 (d2:Nat), .int .i64 (d1:Nat)].toArray, .int .i64 0].toArray:=by
    unfold jbD;rw [hg,if_pos ⟨(hpg.1 he).1,(hpg.1 he).2,hm⟩];rfl
   rw[he]
   have hne: ¬(w:Int)≠(w:Int):=by omega
   refine ze ?_;clear hT T;rw[hr];refine yr30 ?_;exact zd
  ·have hr:jbD w= .tuple [.agg [.int .i64 0, .int .i64 0, .int .i64 0].toArray, .int .i64 5].toArray:=by
    unfold jbD;rw [hg,if_neg fun h=>he (hpg.2 ⟨h.1,h.2.1⟩)];rfl
   have hne:((putN d3 d2 d1:Nat):Int)≠(w:Int):=by omega
   refine ze ?_;clear hT T;rw[hr];refine yr29 ?_;exact zd
 |false=>
  have hpp:jbX ⟨(d3:Int),(d2:Int),(d1:Int)⟩= .tuple [.int .u64 0, .int .i64 2].toArray:=by unfold jbX;rw [if_neg (by simp[hm])]
  have hr:jbD w= .tuple [.agg [.int .i64 0, .int .i64 0, .int .i64 0].toArray, .int .i64 5].toArray:=by
   unfold jbD;rw [hg,if_neg fun h=>by rw[hm] at h;exact absurd h.2.2 bF];rfl
  rw[hpp];refine ze ?_;clear hT T;rw[hr];refine yr29 ?_;exact zd
theorem jkF {w0:World} {H:jb} {h:HdP}:Call Tryz.prog w0 125 [hdV h] H (fun u H'=>u= .tuple [.int .i64 (jaj h).1, .int .i64 (jaj h).2].toArray/\H'=H):=by
 have hu:hdV h= .agg [.int .i64 h.c, .int .i64 h.r, .int .i64 h.w].toArray:=rfl
 rw[hu];refine en1 13 Tryz.func125 ?_
 (iterate 4 first|refine yS ?_|intro _);refine yq8 fun T hT=>?_
 refine(CallV.fn (jhw (h:=h))).mono ?_;rintro _ _ ⟨rfl,rfl⟩
 cases hm:Jb h with
 |true=>
  have hb:=jb6 hm
  have hn:jaj h=(1+h.r+h.w,0):=by unfold jaj;rw [if_pos hm];congr 1;omega
  refine ze ?_;clear hT T;rw[hn];refine yr19 ?_;exact zd
 |false=>
  have hn:jaj h=(0,2):=by unfold jaj;rw [if_neg (by simp[hm])]
  refine ze ?_;clear hT T;rw[hn];refine yr12 ?_;exact zd
theorem rField_K {w0:World} {H:jb} {h:HdP} {i:Int}:Call Tryz.prog w0 326 [hdV h, .int .i64 i] H (fun u H'=>u= .tuple [.bool (JJ h i).1, .int .i64 (JJ h i).2].toArray/\H'=H):=by
 have hu:hdV h= .agg [.int .i64 h.c, .int .i64 h.r, .int .i64 h.w].toArray:=rfl
 rw[hu];refine en2 24 Tryz.func326 ?_
 (iterate 4 first|refine yS ?_|intro _);refine yq8 fun T hT=>?_
 refine(CallV.fn (jhw (h:=h))).mono ?_;rintro _ _ ⟨rfl,rfl⟩
 cases hm:Jb h with
 |true=>
  have hb:=jb6 hm
  refine ze ?_;clear hT T
  by_cases h1:i<0
  ·have hn:JJ h i=(false,110):=by unfold JJ;rw [if_pos hm,if_pos (.inl h1)]
   rw[hn];refine yr31 ?_;exact zd
  by_cases h2:i>=h.r+h.w
  ·have hn:JJ h i=(false,110):=by unfold JJ;rw [if_pos hm,if_pos (.inr h2)]
   rw[hn];refine yr31 ?_;exact zd
  ·have hn:JJ h i=(decide (i<h.r),0):=by unfold JJ;rw [if_pos hm,if_neg bc]
   rw[hn]
   by_cases h3:i<h.r
   ·have hd:decide (i<h.r)=true:=decide_eq_true h3
    refine yr36 ?_;exact zaR
   ·have hd:decide (i<h.r)=false:=decide_eq_false h3
    refine yr36 ?_;exact zaR
 |false=>
  have hn:JJ h i=(false,2):=by unfold JJ;rw [if_neg (by simp[hm])]
  refine ze ?_;clear hT T;rw[hn];refine yr12 ?_;exact zd
structure CfgOk (c:Cfg):Prop where
 cl:1<=c.cl.length/\c.cl.length<=8
 tn:1<=c.tn.length/\c.tn.length<=8
 el: ∀ x∈c.cl,1<x/\x<=jbV c.cl
 page:jbV c.cl<=c.page/\c.page<=64
 workers:0<=c.workers/\c.workers<=8
 grey:1<=c.grey/\c.grey<=64
 gens:1<=c.gens/\c.gens<=2147483648
 ten: ∀ t∈c.tn,(jbV c.cl<=t.quota/\t.quota<=4096)/\(1<=t.trigger/\t.trigger<=1048576)/\(1<=t.caps/\t.caps<=1024)/\(0<=t.assist/\t.assist<=1024)
theorem jaz {c:Cfg} (h:cfgP c=true):CfgOk c:=by
 simp only[cfgP,jcT,Bool.and_eq_true,List.all_eq_true,jbs,jan,decide_eq_true_eq] at h
 obtain⟨hc,⟨p1,p2,p3,p4,p5,p6,p7,p8,p9,p10,_⟩,ht⟩:=h
 have hcc:=hc
 simp only[Jk,Bool.and_eq_true,decide_eq_true_eq] at hcc
 obtain⟨⟨⟨c1,c2⟩,c3⟩,c4⟩:=hcc
 refine⟨⟨c1,c2⟩,⟨by omega,by omega⟩,?_,⟨p1,p2⟩,⟨p5,p6⟩,⟨p7,p8⟩,⟨p9,p10⟩,?_⟩
 ·intro x hx;refine⟨(jc0 c4).1 x hx,?_⟩
  obtain⟨i,hi⟩:=List.getElem?_of_mem hx
  obtain⟨z,hz⟩:=jq (l:=c.cl) (k:=c.cl.length-1) bc
  have:=jfZ hc (by have:=jl hi;omega:i<=c.cl.length-1) hi hz
  have hzl:c.cl.getLast?=some z:=by rw[List.getLast?_eq_getElem?];exact hz
  simpa [jbV,hzl] using this
 ·intro t hm
  obtain⟨q1,q2,q3,q4,q5,q6,q7,q8,_⟩:=ht t hm
  exact⟨⟨q1,q2⟩,⟨q3,q4⟩,⟨q5,q6⟩,⟨q7,q8⟩⟩
def Jh (c:Cfg) (t k:Int):Bool:=cfgP c&&jan [0,t,(c.tn.length:Nat)-1,0,k,(c.cl.length:Nat)-1]
theorem jbN {c:Cfg} {t k:Int} (h:Jh c t k=true): ∃ (i j:Nat) (x:Tn) (y:Int),t=i/\k=j/\c.tn[i]?=some x/\c.cl[j]?=some y/\CfgOk c:=by
 simp only[Jh,Bool.and_eq_true,jan,decide_eq_true_eq] at h
 obtain⟨hc,h1,h2,h3,h4,_⟩:=h
 obtain⟨x,hx⟩:=jq (l:=c.tn) (k:=t.toNat) bc
 obtain⟨y,hy⟩:=jq (l:=c.cl) (k:=k.toNat) bc
 exact⟨t.toNat,k.toNat,x,y,by omega,by omega,hx,hy,jaz hc⟩
theorem jgY {w0:World} {H:jb} {c:Cfg} {vc vt:Value} {t k:Int} (hR:Jl w0 H c vc vt):
  Cs w0 85 [jA c vc vt, .int .i64 t, .int .i64 k] H (.bool (Jh c t k)):=by
 have hc0:=fun A (hp:Part A H)=>jhP (hR.part hp)
 obtain⟨hS,hT',o1,o2,l1,l2⟩:=hR
 have he:Jh c t k=(cfgP c&&jan [0,t,(c.tn.length:Nat)-1,0,k,(c.cl.length:Nat)-1]):=rfl
 obtain⟨cl,page,tn,workers,grey,gens⟩:=c
 dsimp only at hS hT' l1 l2 he;simp only[jA,jV] at hc0|-;refine en3 24 Tryz.func85 ?_
 (iterate 4 first|refine yS ?_|intro _);refine yq6 fun T hT=>?_
 refine(CallV.fn (hc0 _ ja)).mono ?_;rintro _ _ ⟨rfl,rfl⟩
 cases hc:cfgP ⟨cl,page,tn,workers,grey,gens⟩ with
 |false=>
  rw[hc,Bool.false_and] at he;refine zaO ?_;clear hT T;refine yr19 ?_;exact zN
 |true=>
  rw[hc,Bool.true_and] at he;simp only[jaX,if_true];refine ze ?_;clear hT T
  (iterate 15 first|refine yS ?_|intro _)
  refine jj (jgr (l:=[0,t,(tn.length:Nat)-1,0,k,(cl.length:Nat)-1]) (n:=2) (Sli.blk jK rfl bF bn rfl) rfl bn) ?_;refine yr5 ?_;exact zN
def jde (c:Cfg):Bool:=decide (c.cl.length<=50)&&decide (c.tn.length<=50)
theorem Small_K {w0:World} {H:jb} {c:Cfg} {vc vt:Value} (hR:Jl w0 H c vc vt):
  Cs w0 39 [jA c vc vt] H (.bool (jde c)):=by
 obtain⟨hS,hT',o1,o2,l1,l2⟩:=hR
 obtain⟨cl,page,tn,workers,grey,gens⟩:=c
 dsimp only at hS hT' l1 l2;simp only[jA,jV]
 have hd:jde ⟨cl,page,tn,workers,grey,gens⟩=(decide (cl.length<=50)&&decide (tn.length<=50)):=rfl
 refine en1 13 Tryz.func39 ?_
 by_cases h1:cl.length<=50
 ·by_cases h2:tn.length<=50
  ·have he:jde ⟨cl,page,tn,workers,grey,gens⟩=true:=by rw[hd,decide_eq_true h1,decide_eq_true h2];rfl
   (iterate 23 first|refine yS ?_|intro _)
   exact zN
  ·have he:jde ⟨cl,page,tn,workers,grey,gens⟩=false:=by rw[hd,decide_eq_true h1,decide_eq_false h2];rfl
   (iterate 23 first|refine yS ?_|intro _)
   exact zN
 ·have he:jde ⟨cl,page,tn,workers,grey,gens⟩=false:=by rw[hd,decide_eq_false h1];rfl
  (iterate 23 first|refine yS ?_|intro _)
  exact zN
structure SwP where
 A:List Bool
 R:List (List Int)
 C:List Int
 act:Bool
 at_:Nat
 D:List Bool
def SwP.x (s:SwP):List Int:=(s.R[0]?).getD []
structure SwOk (g:PlG) (s:SwP):Prop where
 A:s.A.length=g.slots
 C:s.C.length=g.slots
 D:s.D.length=g.slots
 R:s.R[0]?=some s.x
 x:s.x.length=g.words
 w:JF s.x
 c: ∀ v∈s.C,v=0\/v=2
 at_:s.at_<=g.slots
 idle:s.act=false->s.at_=0/\s.D=List.replicate g.slots false
def stepS (g:PlG) (s:SwP):SwP × Bool:=
 if s.act=true/\s.at_<g.slots then
  match g.L[s.at_]? with
  |some p=>if s.A[s.at_]?=some true/\s.C[s.at_]?=some 0 then(⟨s.A,s.R.set 0 (JH s.x p),s.C,s.act,s.at_+1,s.D.set s.at_ true⟩,true) else(⟨s.A,s.R,s.C,s.act,s.at_+1,s.D⟩,true)
  |none=>(s,true)
 else(s,false)
theorem x_set {R:List (List Int)} {x y:List Int} (h:R[0]?=some x):(R.set 0 y)[0]?=some y:=by
 rw[List.getElem?_set_self (jl h)]
theorem SwOk.putx {g:PlG} {s:SwP} (ok:SwOk g s) {y:List Int} (h1:y.length=g.words) (h2:JF y) {A:List Bool} (hA:A.length=g.slots):SwOk g ⟨A,s.R.set 0 y,s.C,s.act,s.at_,s.D⟩:=by
 have e:SwP.x ⟨A,s.R.set 0 y,s.C,s.act,s.at_,s.D⟩=y:=by unfold SwP.x;rw [x_set ok.R];rfl
 exact⟨hA,ok.C,ok.D,by rw[e];exact x_set ok.R,by rw[e];exact h1,by rw[e];exact h2,ok.c,ok.at_,ok.idle⟩
theorem Je {g:PlG} {i:Nat} (h:i<g.slots): ∃ p,g.L[i]?=some p:=jq (by rw[jak];exact h)
theorem je7: ∀ A D:List Bool,(ja1 A D).length=A.length
 | [],D=>by cases D<;>rfl
 |a::A,[]=>rfl
 |a::A,d::D=>by simp[ja1,je7 A D]
theorem jlf (A D:List Bool):(jah A D).2.length=A.length:=by
 unfold jah;split
 ·split
  ·exact je7 _ _
  ·rfl
 ·rfl
theorem jdt {g:PlG} {A:List Bool} {n:Int} (h:(jX g A n).2.1=0): ∃ (k i:Nat),n=k/\k<g.m/\jaR A (g.first k) (g.n k)=some i/\jX g A n=((i:Int),0,A.set i true)/\i<A.length:=by
 unfold jX at h|-
 split at h
 ·rename_i hk
  obtain⟨k,rfl⟩: ∃ k:Nat,n=k:=⟨n.toNat,by omega⟩
  rw[if_pos hk];simp only[Int.toNat_natCast] at h|-
  cases hf:jaR A (g.first k) (g.n k) with
  |none=>rw [hf] at h;simp at h
  |some i=>exact⟨k,i,rfl,by omega,hf,rfl,jl (jcA hf).2.2.1⟩
 ·simp at h
def jcd (s:SwP) (i:Nat):Bool:=(s.A[i]?).getD false&&decide (s.C[i]?=some 0)
structure Run (g:PlG) (s:SwP) (j:Nat) (t:SwP):Prop where
 A:t.A=s.A
 C:t.C=s.C
 act:t.act=true
 at_:t.at_=j
 dl:t.D.length=g.slots
 D: ∀ i,i<g.slots->t.D[i]?=some (decide (i<j)&&jcd s i)
 tl:t.R.tail=s.R.tail
 R:t.R[0]?=some t.x
 xl:t.x.length=g.words
 x: ∀ i p,g.L[i]?=some p-> ∀ a,p.addr<=a->a<p.addr+p.size->t.x[a]?=if decide (i<j)&&jcd s i then some 0 else s.x[a]?
theorem Run.ok {g:PlG} {s t:SwP} {j:Nat} (hg:jh g) (h:Run g s j t) (ok:SwOk g t) (hj:j<g.slots): ∃ t',stepS g t=(t',true)/\Run g s (j+1) t':=by
 obtain⟨p,hp⟩:=Je hj
 have hfit:=hg.fits hp
 unfold stepS;rw[if_pos ⟨h.act,by rw[h.at_];exact hj⟩,h.at_,hp];dsimp only
 have hAl:j<s.A.length:=by rw[<-h.A,ok.A];exact hj
 have hg':(s.A[j]?=some true/\s.C[j]?=some 0)↔jcd s j=true:=by
  unfold jcd;rw[List.getElem?_eq_getElem hAl]
  simp
 rw[h.A,h.C]
 by_cases hc:s.A[j]?=some true/\s.C[j]?=some 0
 ·rw[if_pos hc]
  have hgn:=hg'.1 hc
  refine⟨_,rfl,?_⟩
  have e:SwP.x ⟨s.A,t.R.set 0 (JH t.x p),s.C,t.act,j+1,t.D.set j true⟩=JH t.x p:=by unfold SwP.x;rw [x_set h.R];rfl
  refine⟨rfl,rfl,h.act,rfl,by rw[List.length_set];exact h.dl,?_,?_,by rw[e];exact x_set h.R,by rw[e,jdz (by rw[h.xl];exact hfit.1)];exact h.xl,?_⟩
  ·intro i hi;dsimp only
   by_cases hij:i=j
   ·subst hij;rw[List.getElem?_set_self (by rw[h.dl];exact hi),hgn];simp
   ·rw[List.getElem?_set_ne bc,h.D i hi]
    congr 2
    exact decide_eq_decide.2 bc
  ·dsimp only;rw[<-h.tl]
   cases t.R<;>rfl
  ·intro i q hq a ha1 ha2;rw[e]
   have hxl:=h.xl
   by_cases hij:i=j
   ·subst hij;rw[hp] at hq;cases hq;rw[hgn];simp only[Nat.lt_succ_self,decide_true,Bool.and_self,if_true];unfold JH Go.Proofs.YtciaccbemnpipaaGreatDoor.cleared;rw[List.append_assoc,List.getElem?_append_right bK,List.getElem?_append_left (by rw[List.length_replicate,List.length_take];omega),List.getElem?_replicate,if_pos bK]
   ·have hap:=hg.apart hq hp hij
    rw[show(decide (i<j+1)&&jcd s i)=(decide (i<j)&&jcd s i) by congr 1;exact decide_eq_decide.2 bc,<-h.x i q hq a ha1 ha2]
    have hfq:=hg.fits hq
    unfold JH Go.Proofs.YtciaccbemnpipaaGreatDoor.cleared
    rcases Nat.lt_or_ge a p.addr with h1|h1
    ·rw[List.append_assoc,List.getElem?_append_left bK,List.getElem?_take_of_lt h1]
    ·rw[List.getElem?_append_right Bw,List.getElem?_drop]
     congr 1
     rw[List.length_append,List.length_take,List.length_replicate];omega
 ·rw[if_neg hc]
  have hgn:jcd s j=false:=by
   cases hx:jcd s j with
   |false=>rfl
   |true=>exact absurd (hg'.2 hx) hc
  refine⟨_,rfl,⟨rfl,rfl,h.act,rfl,h.dl,?_,h.tl,h.R,h.xl,?_⟩⟩
  ·intro i hi;dsimp only;rw[h.D i hi]
   by_cases hij:i=j
   ·subst hij;rw [hgn];simp
   ·congr 2
    exact decide_eq_decide.2 bc
  ·intro i q hq a ha1 ha2
   have:=h.x i q hq a ha1 ha2
   show t.x[a]?=_
   rw[this]
   by_cases hij:i=j
   ·subst hij;rw [hgn];simp
   ·rw[show(decide (i<j+1)&&jcd s i)=(decide (i<j)&&jcd s i) by congr 1;exact decide_eq_decide.2 bc]
theorem jfA: ∀ {A D:List Bool},(∀ i:Nat,D[i]?=some true->A[i]?=some true)->jbC A D=true
 | [],D,_=>by cases D<;>rfl
 |a::A,[],_=>rfl
 |a::A,d::D,h=>by
  have h1:=h 0
  simp only[List.getElem?_cons_zero,Option.some.injEq] at h1
  have h2:=jfA (A:=A) (D:=D) (fun i hi=>by have:=h (i+1);simp only[List.getElem?_cons_succ] at this;exact this hi)
  simp only[jbC,h2,Bool.and_true]
  cases d with
  |false=>rfl
  |true=>rw [h1 rfl];rfl
theorem jd4: ∀ {A D:List Bool} (i:Nat),A.length=D.length->(ja1 A D)[i]?=(A[i]?).map fun a=>a&&!((D[i]?).getD false)
 | [],D,i,h=>by cases D with
  |nil=>simp[ja1]
  |cons d D=>simp at h
 |a::A,[],i,h=>by simp at h
 |a::A,d::D,0,h=>by simp[ja1]
 |a::A,d::D,i+1,h=>by
  simp only[ja1,List.getElem?_cons_succ];exact jd4 i (by simpa using h)
structure AeS where
 k:Nat
 A:jb
theorem each1_K {w0:World} {F A0:jb} {r:jam} {bl:Nat} {yv:Value} (hG:ju w0) (ok:RowOk r) (J:Nat->jb->Prop) (E:jb->Prop)
  (hy: ∀ k i A,J k A->nextB r.bs k true=some i->CallV Tryz.prog w0 yv [.int .i64 (i:Nat)] (A++((bl,cells [pt r.b] 154)::(jD r++F)))
   (fun u H'=>(u= .bool true/\ ∃ A',J (i+1) A'/\H'=A'++((bl,cells [pt r.b] 154)::(jD r++F)))\/(u= .bool false/\ ∃ A',E A'/\H'=A'++((bl,cells [pt r.b] 154)::(jD r++F)))))
  (h0:J 0 A0):
  Call Tryz.prog w0 405 [yv,pt bl] (A0++((bl,cells [pt r.b] 154)::(jD r++F)))
   (fun _ H'=> ∃ A',H'=A'++((bl,cells [pt r.b] 154)::(jD r++F))/\((∃ k,nextB r.bs k true=none/\J k A')\/E A')):=by
 have hn:=ok.n
 refine en2 22 Tryz.func405 ?_;refine yr4 ?_;refine ji (jfF (k:=0) (v:=true) ok hG bc) ja ?_;refine yr8 ?_;refine K.loopT (σ:=AeS) [(0,_),(1,_)] (fun s kp_=>(3, .int .i64 (nxI (nextB r.bs s.k true)))::(4, .bool (nextB r.bs s.k true).isSome)::kp_) (fun s=>s.A++((bl,cells [pt r.b] 154)::(jD r++F))) (fun s=>J s.k s.A) (fun s=>r.bs.length+1-s.k) (⟨0,A0⟩) jg ja (h0) ?_;rintro⟨k,A⟩ hJ;dsimp only at hJ|-
 cases hnx:nextB r.bs k true with
 |none=>
  unfold nxI;dsimp only[Option.isSome,Option.getD];refine yr11 ?_;exact KE.finN jd rfl jc ja ⟨A,rfl, .inl ⟨k,hnx,hJ⟩⟩
 |some i=>
  unfold nxI;dsimp only[Option.isSome,Option.getD]
  obtain⟨n1,n2,n3,n4⟩:=jck hnx
  have he:((i:Nat):Int)+1=((i+1:Nat):Int):=by omega
  refine yq15 fun T hT=>?_;refine(hy k i A hJ hnx).mono ?_;rintro _ _ (⟨rfl,A',hJ',rfl⟩|⟨rfl,A',hE',rfl⟩)
  ·refine ze ?_;clear hT T;refine yq11 fun T hT=>?_;rw[he];refine(CallV.part (CallV.fn (jfF (k:=i+1) (v:=true) ok hG bc)) ja).mono ?_;rintro _ _ ⟨rfl,rfl⟩;refine ze ?_;clear hT T;refine yr6 ?_;exact KE.again ⟨i+1,A'⟩ jg ja hJ' (by show r.bs.length+1-(i+1)<r.bs.length+1-k;omega)
  ·refine ze ?_;clear hT T;refine yr9 ?_;exact KE.fin jd rfl jc ja ⟨A',rfl, .inr hE'⟩
theorem aeach_K {w0:World} {H:jb} {b:Nat}:
  Call Tryz.prog w0 403 [pt b] H (fun u H'=> ∃ bl,u= .func (.func 405) #[] [pt bl].toArray/\H'=(bl,cells [pt b] 154)::H):=by
 refine en1 4 Tryz.func403 ?_;refine yr3 ?_;intro b1;refine yr10 ?_;exact KE.fin jd rfl jc ja ⟨b1,rfl,rfl⟩
def jbd (A D:List Bool) (k:Nat):List Bool:=(List.range A.length).map fun i=>(A[i]?).getD false&&!(decide (i<k)&&(D[i]?).getD false)
theorem jdv (A D:List Bool) (k:Nat):(jbd A D k).length=A.length:=by simp[jbd]
theorem jcf {A D:List Bool} {k i:Nat} (h:i<A.length):(jbd A D k)[i]?=some ((A[i]?).getD false&&!(decide (i<k)&&(D[i]?).getD false)):=by
 unfold jbd;rw [List.getElem?_map,List.getElem?_range h];rfl
theorem jh2 (A D:List Bool):jbd A D 0=A:=by
 apply List.ext_getElem?
 intro i
 by_cases h:i<A.length
 ·rw[jcf h,List.getElem?_eq_getElem h];simp
 ·rw[List.getElem?_eq_none Bk,List.getElem?_eq_none bc]
theorem jlK {A D:List Bool} {k i:Nat} (hl:D.length=A.length) (h:nextB D k true=some i):(jbd A D k).set i false=jbd A D (i+1):=by
 obtain⟨n1,n2,n3,n4⟩:=jck h
 apply List.ext_getElem?
 intro j
 by_cases hj:j<A.length
 ·rw[jcf hj]
  by_cases hij:j=i
  ·subst hij;rw[List.getElem?_set_self (by rw[jdv];exact hj),n3];simp
  ·rw[List.getElem?_set_ne bc,jcf hj]
   by_cases hjk:j<k
   ·simp[hjk,show j<i+1 by omega]
   ·by_cases hji:j<i
    ·have:=n4 j bc hji
     simp only[Bool.not_eq_true] at this;rw[this];simp
    ·simp[hjk,show ¬j<i+1 by omega]
 ·rw[List.getElem?_eq_none (by simp[jdv];omega),List.getElem?_eq_none Bk]
theorem jlM {A D:List Bool} {k:Nat} (hl:D.length=A.length) (h:nextB D k true=none):jbd A D k=ja1 A D:=by
 apply List.ext_getElem?
 intro j
 by_cases hj:j<A.length
 ·rw[jcf hj,jd4 j hl.symm,List.getElem?_eq_getElem hj];simp only[Option.map_some,Option.getD_some]
  by_cases hjk:j<k
  ·simp[hjk]
  ·unfold nextB at h;rw[List.find?_eq_none] at h
   have:=h j (List.mem_range.2 bc)
   simp only[show k<=j by omega,decide_true,Bool.true_and,beq_iff_eq,Bool.not_eq_true] at this;rw[this];simp[hjk]
 ·rw[List.getElem?_eq_none Bk,List.getElem?_eq_none (by rw[je7];omega)]
theorem jhz: ∀ {A D:List Bool} {i:Nat},A[i]?=some false->D[i]?=some true->jbC A D=false
 |a::A,d::D,0,h1,h2=>by
  simp at h1 h2;subst h1;subst h2;rfl
 |a::A,d::D,i+1,h1,h2=>by
  simp only[List.getElem?_cons_succ] at h1 h2
  simp[jbC,jhz h1 h2]
 | [],D,i,h1,h2=>by simp at h1
 |a::A,[],i,h1,h2=>by simp at h2
def slL (x:jn):List Value:=[.int .i64 (x.cls:Nat), .int .i64 (x.size:Nat), .int .i64 (x.addr:Nat), .int .i64 (x.page:Nat)]
def slE:Enc jn:=⟨slL,4,fun _=>rfl,by intro x v hv;simp[slL] at hv;rcases hv with rfl|rfl|rfl|rfl<;>rfl⟩
namespace PlG
def firsts (g:PlG):List Int:=(cutL g.pgs (fun k j=>g.first k+j*g.per k) g.m).map fun n=>((n:Nat):Int)
def manys (g:PlG):List Int:=(cutL g.pgs (fun k j=>min (g.per k) (g.n k-j*g.per k)) g.m).map fun n=>((n:Nat):Int)
def clI (g:PlG):List Int:=g.cl.map fun n=>((n:Nat):Int)
end PlG
structure PlV where
 L:Value
 F:Value
 M:Value
 C:Value
 t:Nat
def plL (v:PlV) (g:PlG):List Value:=[v.L,v.F,v.M, .int .i64 (g.words:Nat),v.C]
structure jad (w0:World) (D:jb) (v:PlV) (g:PlG):Prop where
 L:Sli w0 D slE v.L g.L
 F:Sli w0 D iE v.F g.firsts
 M:Sli w0 D iE v.M g.manys
 C:Sli w0 D iE v.C g.clI
 oL:v.L.oneCell'=true
 oF:v.F.oneCell'=true
 oM:v.M.oneCell'=true
 oC:v.C.oneCell'=true
theorem jad.part {w0:World} {D D':jb} {v:PlV} {g:PlG} (h:jad w0 D v g) (hp:Part D' D):jad w0 D' v g:=⟨h.L.part hp,h.F.part hp,h.M.part hp,h.C.part hp,h.oL,h.oF,h.oM,h.oC⟩
structure ArD (w0:World) (D:jb) (v:PlV) (va:Value) (g:PlG) (A:List Bool):Prop where
 p:jad w0 D v g
 a:Sli w0 D boE va A
 o:va.oneCell'=true
theorem ArD.part {w0:World} {D D':jb} {v:PlV} {va:Value} {g:PlG} {A:List Bool} (h:ArD w0 D v va g A) (hp:Part D' D):ArD w0 D' v va g A:=⟨h.p.part hp,h.a.part hp,h.o⟩
structure RwD where
 a:Option Addr
 n:Nat
 c:Nat
 x:List Int
def rwE:Enc RwD:=⟨fun r=> [.slice r.a r.n r.c],1,fun _=>rfl,by intro x v hv;simp at hv;subst hv;rfl⟩
structure jaE (w0:World) (D:jb) (vr:Value) (R:List RwD):Prop where
 r:Sli w0 D rwE vr R
 o:vr.oneCell'=true
 x: ∀ q∈R,Sli w0 D uE (.slice q.a q.n q.c) q.x
theorem jaE.part {w0:World} {D D':jb} {vr:Value} {R:List RwD} (h:jaE w0 D vr R) (hp:Part D' D):jaE w0 D' vr R:=⟨h.r.part hp,h.o,fun q hq=>(h.x q hq).part hp⟩
def rwX (R:List RwD):List (List Int):=R.map (·.x)
