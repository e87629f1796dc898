/-The walker and the contracts that the law needs,part 29. -/
import Derived.Test.YtebiafomiemgbaaGreatDoorJ27
set_option linter.unusedVariables false set_option linter.unusedSimpArgs false set_option linter.unusedVariables false
set_option linter.unusedSimpArgs false
namespace Go.Proofs.YtebiafomiemgbaaGreatDoor.Sw
set_option maxHeartbeats 8000000
open Go.Proofs.YtebiafomiemgbaaGreatDoor renaming lo → qL, hi → qH
open Go.RowKit
set_option maxRecDepth 10000
section
variable {w0 : World} {F : jb} {B : BoM} {x : List Int} {s : Nat} {y : jq}
theorem zero_ok {m:Ju} {t:Nat} {p:jq} (okm:jak m) (hr:m.R[t]?=some x) (hl:p.addr+p.size≤x.length):jak (jaB m t (J6 x p)):=putM_ok okm hr (jd0 hl)
theorem bWipe_K (ok:jaD B x) (hy:B.p.g.L[s]?=some y):
  Call Tryz.prog w0 187 [.pointer (some ⟨B.b,0,none⟩), .int .i64 (s:Nat)] (jT B++(jy B.m++(planH B.p++F))) (fun r H'=>r= .int .i64 0∧H'=jT B++(jy (jaB B.m B.t (J6 x y))++(planH B.p++F))):=by
 have okm:=ok.m
 have hr:=ok.r
 obtain⟨f1,f2,_⟩:=ok.p.g.fits hy
 have hz:=jjW (p:=y) hr
 refine Call.enter2 (n:=29) (by rfl) Tryz.func187 rfl rfl rfl ?_;refine zde ?_;refine zi7 ?_;rw[jbn];refine zfv ?_;refine zaj ?_;refine zb8 ?_;refine K.drawn [] [(0,0),(1,0),(2,0),(3,0),(4,0),(5,0),(6,0),(7,0),(8,0),(9,0),(10,2),(11,0)] (by rfl) (by rfl) (by kernel_rfl) (by rfl) (by rfl) (by rfl) Part.nil ?_;refine zcT ?_;refine zgE ?_;refine zbo ?_;refine zk fun T hT=>?_;refine(CallV.part (CallV.fn (Zero_K (n:=y.size) okm hr (by omega) (by rw[ok.n];omega))) ja).mono ?_;rintro _ _ ⟨rfl,rfl⟩;rw[hz];refine zi ?_;clear hT T;refine zbp ?_;exact zsp
theorem Make_K {h:HdP} (hG:ji w0) (ok:jaD B x) (hy:B.p.g.L[s]?=some y):
  Call Tryz.prog w0 197 [.pointer (some ⟨B.b,0,none⟩), .int .i64 (s:Nat),hdV h] (jT B++(jy B.m++(planH B.p++F))) (fun r H'=>r= .int .i64 (makeP x y h).1∧H'=jT B++(jy (jaB B.m B.t (makeP x y h).2)++(planH B.p++F))):=by
 have okm:=ok.m
 have hr:=ok.r
 obtain⟨f1,f2,_⟩:=ok.p.g.fits hy
 have hz:=jjW (p:=y) hr
 have hself:=jgF hr
 have hput:=fun A (hm:JT h=true)=>Put_K (w0:=w0) (H:=A) hG hm
 have hlies:=fun A=>lies_K (w0:=w0) (F:=A) (h:=h) ok hy
 have hmk:makeP x y h=if jaz y h then(if (headP x y).isSome then(8,x) else(0,(J6 x y).set y.addr (putW h))) else(2,x):=rfl
 have hpw:putW h=(putN h.c.toNat h.r.toNat h.w.toNat:Nat):=rfl
 have hlm:=fun e=>(jdI (p:=y) (h:=h) e).1
 obtain⟨pw,hpw'⟩: ∃ pw,pw=putW h:=⟨_,rfl⟩
 rw[←hpw'] at hmk hpw;simp only[←hpw] at hput
 obtain⟨mk,hmk'⟩: ∃ mk,mk=makeP x y h:=⟨_,rfl⟩
 rw[←hmk'] at hmk⊢
 obtain⟨li,hli⟩: ∃ li,li=jaz y h:=⟨_,rfl⟩
 rw[←hli] at hmk hlm;simp only[←hli] at hlies
 obtain⟨c,r,w⟩:=h
 unfold hdV at*;dsimp only at*;clear hpw hpw' hmk' hli;refine Call.enter3 (n:=65) (by rfl) Tryz.func197 rfl rfl rfl ?_;refine zbY ?_;intro b5;refine zay ?_;refine zp ?_;refine zi7 ?_;refine zfv ?_;refine zaj ?_;refine za6 ?_;refine zB ?_;refine zj ?_;refine zcY fun T hT=>?_;refine(CallV.part (CallV.fn (hlies _)) ja).mono ?_;rintro _ _ ⟨rfl,rfl⟩
 cases li with
 |false=>
  refine ze ?_;clear hT T;simp only[Bool.false_eq_true,if_false] at hmk;rw[hmk];dsimp only;rw[hself];refine zaQ ?_;exact zaL
 |true=>
  simp only[if_true] at hmk;refine ze ?_;clear hT T;refine zy ?_;refine za6 ?_;refine za9 fun T hT=>?_;refine(CallV.part (CallV.fn (jeX hG ok hy)) ja).mono ?_;rintro _ _ ⟨rfl,rfl⟩;unfold headV
  cases hh:headP x y with
  |some h'=>
   rw[hh] at hmk;simp only[Option.isSome,if_true] at hmk;dsimp only
   obtain⟨c',r',w'⟩:=h'
   unfold hdV;dsimp only;refine ze ?_;clear hT T;rw[hmk];dsimp only;rw[hself];refine zaO ?_;intro b10;refine zeF ?_;exact zaL
  |none=>
   rw[hh] at hmk;simp only[Option.isSome,Bool.false_eq_true,if_false] at hmk;dsimp only;unfold hdV;dsimp only;refine ze ?_;clear hT T;refine zaO ?_;intro b10;refine zC ?_;refine zK ?_;refine zcf ?_;refine jp (hput _ (hlm rfl)) ?_;rw[jbn];refine zY ?_;refine zdK ?_;refine K.drawn [] [(0,0),(1,0),(2,0),(3,0),(4,0),(5,0),(6,0),(7,0),(8,0),(9,0),(10,2)] (by kernel_rfl) (by kernel_rfl) (by kernel_rfl) (by kernel_rfl) (by kernel_rfl) (by kernel_rfl) Part.nil ?_;refine zcT ?_;refine zgE ?_;refine zbo ?_;refine zk fun T hT=>?_;refine(CallV.part (CallV.fn (Zero_K (n:=y.size) okm hr (by omega) (by rw[ok.n];omega))) ja).mono ?_;rintro _ _ ⟨rfl,rfl⟩;rw[hz];refine zi ?_;clear hT T;refine zam ?_;refine zbC ?_;refine K.drawn [] [(0,0),(1,0),(2,0),(3,0),(4,0),(5,0),(6,0),(7,0),(8,0),(9,0),(10,2),(11,0)] (by kernel_rfl) (by kernel_rfl) (by kernel_rfl) (by kernel_rfl) (by kernel_rfl) (by kernel_rfl) Part.nil ?_;refine zcT ?_;refine zgE ?_;refine zbo ?_;refine zk fun T hT=>?_;refine(CallV.part (CallV.fn (Store_K (t:=B.t) (a:=y.addr) (x:=J6 x y) (w:=pw) (zero_ok okm hr (by rw[ok.n];omega)) (putM_R hr) (by rw[jd0 (by rw[ok.n];omega),ok.n];omega))) ja).mono ?_;rintro _ _ ⟨rfl,rfl⟩;rw[jk6 (putM_R hr),jld];refine zi ?_;clear hT T;rw[hmk];dsimp only;refine zbp ?_;exact zsp
end
set_option maxRecDepth 10000
def arK (a:ArM) (D:List Bool) (k:Nat):ArM:=⟨a.b,⟨a.r.b,jdp a.r.bs D k,a.r.o⟩⟩
theorem jlK (a:ArM) (D:List Bool):arK a D 0=a:=by unfold arK;rw [lessK_zero]
theorem arK_next {a:ArM} {D:List Bool} {k i:Nat} (hl:D.length=a.r.bs.length) (h:nextB D k true=some i):setA (arK a D k) i false=arK a D (i+1):=by
 grind[setA,arK,JR,lessK_next]
def GaJ (l D:Nat) (rc:Rec) (b2 b4:Nat) (a:ArM) (p:jZ) (bs:List Bool) (k:Nat) (A:jb):Prop:=
 A=(l, .loop (rc .ready none))::(D, .deferred (some []))::(b2,cells [.pointer (some ⟨a.b,0,none⟩)] 62)::(b4,cells [.int .i64 0] 30)::j7 a p∧ ∀ j:Nat,j<k→bs[j]?=some true→a.r.bs[j]?=some true
def GaE (l D:Nat) (rc:Rec) (b2 b4:Nat) (a:ArM) (p:jZ) (bs:List Bool) (A:jb):Prop:=
 A=(l, .loop (rc .done (some .ret)))::(D, .deferred (some []))::(b2,cells [.pointer (some ⟨a.b,0,none⟩)] 62)::(b4,cells [.int .i64 9] 30)::j7 a p∧ ∃ i:Nat,a.r.bs[i]?=some false∧bs[i]?=some true
def GbJ (l D:Nat) (rc:Rec) (b2 b4:Nat) (a:ArM) (p:jZ) (bs:List Bool) (k:Nat) (A:jb):Prop:=
 A=(l, .loop (rc .ready none))::(D, .deferred (some []))::(b2,cells [.pointer (some ⟨a.b,0,none⟩)] 62)::(b4,cells [.int .i64 0] 30)::j7 (arK a bs k) p∧jaE (arK a bs k) p
theorem bit_of {l:List Bool} {i:Nat} (h:i<l.length) {v:Bool} (e:(l[i]?).getD false=v):l[i]?=some v:=by
 grind
set_option maxHeartbeats 2000000 in
theorem GiveAll_K {w0:World} {F:jb} {a:ArM} {p:jZ} {r:jaM} (hG:ji w0) (ok:jaE a p) (okr:RowOk r) (hl:r.bs.length=a.r.bs.length):
  Call Tryz.prog w0 338 [.pointer (some ⟨a.b,0,none⟩), .pointer (some ⟨r.b,0,none⟩)] (jN r++(j7 a p++(planH p++F))) (fun v H'=>v= .int .i64 (jbp a.r.bs r.bs).1∧ ∃ a':ArM,jaE a' p∧a'.b=a.b∧a'.r.b=a.r.b∧a'.r.bs=(jbp a.r.bs r.bs).2∧H'=jN r++(j7 a' p++(planH p++F))):=by
 have okar:=ok.r
 have hgp:jbp a.r.bs r.bs=if jdP a.r.bs r.bs then(0,jc0 a.r.bs r.bs) else(9,a.r.bs):=by unfold jbp;rw [if_pos hl]
 have hne: ¬((r.bs.length:Nat):Int)≠((a.r.bs.length:Nat):Int):=by omega
 refine Call.enter2 (n:=40) (by kernel_rfl) Tryz.func338 rfl rfl rfl ?_;refine zbc ?_;intro b2 b4;refine zdl ?_;refine zaI ?_;refine jn (jfn (a:=a) (p:=p)) ja ?_;refine zt ?_;refine zob ?_;refine K.drawn _ [(0,0),(1,2),(2,0),(3,0),(4,0),(6,1),(7,1),(8,1),(9,1),(5,2),(10,2),(11,0),(12,0),(13,0)] (by kernel_rfl) (by kernel_rfl) (by kernel_rfl) (by kernel_rfl) (by kernel_rfl) (by kernel_rfl) Part.all ?_;refine zd9 fun T hT=>?_;refine(CallV.part (CallV.fn (ji8 okr)) ja).mono ?_;rintro _ _ ⟨r',kr',hbs,rfl,rfl⟩;refine zi ?_;clear hT T;refine KD.v0 rfl rfl (Val.eqlPN rfl rfl rfl) ?_;refine zo ?_;refine zca ?_;refine zok ?_;refine KD.y1 rfl rfl rfl rfl (Val.nilCheck rfl) ?_;refine KD.y1 rfl rfl rfl rfl (Val.fieldAddr0 (k:=1) rfl rfl) ?_;refine zok ?_;refine zdR fun T hT=>?_;refine(CallV.part (CallV.fn (jhs (r:=r))) ja).mono ?_;rintro _ _ ⟨rfl,rfl⟩;refine zi ?_;clear hT T;simp only[arenaH_app];refine zdR fun T hT=>?_;refine(CallV.part (CallV.fn (jhs (r:=a.r))) ja).mono ?_;rintro _ _ ⟨rfl,rfl⟩;refine zi ?_;clear hT T;refine zkQ ?_;refine zcr ?_;refine zcv ?_;refine zfC ?_;refine zaw ?_;refine zhU ?_;refine zz fun T hT=>?_;refine(CallV.part (CallV.fn (aeach_K (b:=r.b) (H:=(b2,cells [.pointer (some ⟨a.b,0,none⟩)] 62)::(b4,cells [.int .i64 0] 30)::(j7 a p++(jN r++(planH p++F)))))) (by simp only[arenaH_app];exact ja)).mono ?_;rintro _ _ ⟨bl,rfl,rfl⟩;refine ze ?_;clear hT T;refine zc1 ?_;refine K.rangeFunc (lb:=[.pointer (some ⟨bl,0,none⟩)]) rfl
  (fun D G=>G=(bl,cells [.pointer (some ⟨r.b,0,none⟩)] 129)::(D, .deferred (some []))::(b2,cells [.pointer (some ⟨a.b,0,none⟩)] 62)::(b4,cells [.int .i64 0] 30)::(j7 a p++(jN r++(planH p++F)))∧ ∀ j:Nat,r.bs[j]?=some true→a.r.bs[j]?=some true)
  (fun D c G=>c= .ret∧G=(bl,cells [.pointer (some ⟨r.b,0,none⟩)] 129)::(D, .deferred (some []))::(b2,cells [.pointer (some ⟨a.b,0,none⟩)] 62)::(b4,cells [.int .i64 9] 30)::(j7 a p++(jN r++(planH p++F)))∧ ∃ i:Nat,a.r.bs[i]?=some false∧r.bs[i]?=some true) ?_ ?_ ?_
 ·intro l D rc hyl
  refine(Call.part (each1_K (F:=planH p++F) (r:=r) (bl:=bl) hG okr (GaJ l D rc b2 b4 a p r.bs) (GaE l D rc b2 b4 a p r.bs)
   (A0:=(l, .loop (rc .ready none))::(D, .deferred (some []))::(b2,cells [.pointer (some ⟨a.b,0,none⟩)] 62)::(b4,cells [.int .i64 0] 30)::j7 a p) ?_ ⟨rfl,fun j h=>by omega⟩) (by simp only[List.cons_append];exact ja)).mono ?_
  ·rintro k i A ⟨rfl,hno⟩ hnx
   obtain⟨n1,n2,n3,n4⟩:=jd4 hnx
   have hdi:=bit_of n1 n3
   have hno': ∀ j:Nat,j<i→r.bs[j]?=some true→a.r.bs[j]?=some true:=fun j h1 h2=>by
    by_cases hj:j<k
    ·exact hno j hj h2
    ·exact absurd (by rw[h2];rfl) (n4 j (by omega) h1)
   have hgb:getB a.r.bs (i:Nat)=(a.r.bs[i]?).getD false:=jhh
   obtain⟨v,hv⟩:=jh (l:=a.r.bs) (k:=i) (by omega)
   rw[hv] at hgb;dsimp only[Option.getD] at hgb;simp only[List.cons_append];refine zou ?_;refine za4 ?_;refine zlx ?_;refine K.block ?_;simp only[arenaH_app];refine zG ?_;refine za0 ?_;refine zae ?_;refine zz fun T hT=>?_;refine(CallV.part (CallV.fn (Get_K (i:=(i:Nat)) okar)) ja).mono ?_;rintro _ _ ⟨rfl,rfl⟩;rw[hgb]
   cases v with
   |true=>
    refine ze ?_;clear hT T;refine zy ?_;refine zh6 ?_;refine KE.part ((l, .loop (rc .busy none))::((D, .deferred (some []))::(b2,cells [.pointer (some ⟨a.b,0,none⟩)] 62)::(b4,cells [.int .i64 0] 30)::j7 a p)++((bl,cells [.pointer (some ⟨r.b,0,none⟩)] 129)::(jN r++(planH p++F)))) (by simp only[List.cons_append,arenaH_app];exact ja) ?_
    exact KE.roundN jI.head (.inl ⟨rfl,_,⟨rfl,fun j h1 h2=>by
     by_cases hji:j=i
     ·rw[hji];exact hv
     ·exact hno' j (by omega) h2⟩,rfl⟩)
   |false=>
    refine ze ?_;clear hT T;refine zaQ ?_;refine zdB ?_;refine zef ?_;refine KE.part ((l, .loop (rc .busy none))::((D, .deferred (some []))::(b2,cells [.pointer (some ⟨a.b,0,none⟩)] 62)::(b4,cells [.int .i64 9] 30)::j7 a p)++((bl,cells [.pointer (some ⟨r.b,0,none⟩)] 129)::(jN r++(planH p++F)))) (by simp only[List.cons_append,arenaH_app];exact ja) ?_;exact KE.roundR jI.head (.inr ⟨rfl,_,⟨rfl,i,hv,hdi⟩,rfl⟩)
  ·rintro u H' ⟨A',rfl,(⟨k,hk,rfl,hno⟩|⟨rfl,i,hi1,hi2⟩)⟩
   ·refine .inl ⟨_,?_,rfl,fun j hj=>?_⟩
    ·simp only[List.cons_append];exact ja
    ·by_cases hjk:j<k
     ·exact hno j hjk hj
     ·unfold nextB at hk;rw[List.find?_eq_none] at hk
      have:=hk j (List.mem_range.2 (jv hj))
      rw[hj] at this
      simp at this;omega
   ·refine .inr ⟨.ret,_,?_,rfl,rfl,i,hi1,hi2⟩;simp only[List.cons_append];exact ja
 ·rintro D G ⟨rfl,hall⟩
  have hoa:jdP a.r.bs r.bs=true:=ok_all hall
  rw[hoa] at hgp;simp only[if_true] at hgp;rw[hgp];refine zaw ?_;refine zhU ?_;refine zn ?_;refine jB (aeach_K (b:=r.b) (H:=(D, .deferred (some []))::(b2,cells [.pointer (some ⟨a.b,0,none⟩)] 62)::(b4,cells [.int .i64 0] 30)::(j7 a p++(jN r++(planH p++F))))) ja ?_;rintro _ _ ⟨bm,rfl,rfl⟩;refine zc1 ?_;refine K.rangeFunc (lb:=[.pointer (some ⟨bm,0,none⟩)]) rfl
   (fun D2 G=> ∃ k,nextB r.bs k true=none∧jaE (arK a r.bs k) p∧G=(bm,cells [.pointer (some ⟨r.b,0,none⟩)] 129)::(D2, .deferred (some []))::(b2,cells [.pointer (some ⟨a.b,0,none⟩)] 62)::(b4,cells [.int .i64 0] 30)::(j7 (arK a r.bs k) p++(jN r++(planH p++((D, .deferred (some []))::F)))))
   (fun D c G=>False) ?_ ?_ ?_
  ·intro l D2 rc hyl
   refine(Call.part (each1_K (F:=planH p++((D, .deferred (some []))::F)) (r:=r) (bl:=bm) hG okr (GbJ l D2 rc b2 b4 a p r.bs) (fun _=>False)
    (A0:=(l, .loop (rc .ready none))::(D2, .deferred (some []))::(b2,cells [.pointer (some ⟨a.b,0,none⟩)] 62)::(b4,cells [.int .i64 0] 30)::j7 (arK a r.bs 0) p) ?_ ⟨rfl,by rw[jlK];exact ok⟩) (by rw[jlK];simp only[List.cons_append];exact ja)).mono ?_
   ·rintro k i A ⟨rfl,hok⟩ hnx
    obtain⟨n1,n2,n3,n4⟩:=jd4 hnx
    have hdi:=bit_of n1 n3
    have hai:=hall i hdi
    have hki:(arK a r.bs k).r.bs[i]?=some true:=by
     show(jdp a.r.bs r.bs k)[i]?=_
     rw[jfP (jv hai),hai];simp;omega
    have hnk:=arK_next hl hnx
    have hok':=setA_ok hok i false
    rw[hnk] at hok';simp only[List.cons_append];refine zou ?_;refine za4 ?_;refine zlx ?_;refine K.block (K.region ?_);refine zw ?_;refine zz fun T hT=>?_;refine(CallV.part (CallV.fn (agive_K hok hki)) ja).mono ?_;rintro _ _ ⟨rfl,rfl⟩;rw[hnk];refine ze ?_;clear hT T;refine zR ?_;refine zaw ?_;refine KE.part ((l, .loop (rc .busy none))::((D2, .deferred (some []))::(b2,cells [.pointer (some ⟨a.b,0,none⟩)] 62)::(b4,cells [.int .i64 0] 30)::j7 (arK a r.bs (i+1)) p)++((bm,cells [.pointer (some ⟨r.b,0,none⟩)] 129)::(jN r++(planH p++((D, .deferred (some []))::F))))) (by simp only[List.cons_append];exact ja) ?_;exact KE.roundN jI.head (.inl ⟨rfl,_,⟨rfl,hok'⟩,rfl⟩)
   ·rintro u H' ⟨A',rfl,(⟨k,hk,rfl,hok⟩|hf)⟩
    ·refine .inl ⟨_,?_,k,hk,hok,rfl⟩;simp only[List.cons_append];exact ja
    ·exact hf.elim
  ·rintro D2 G ⟨k,hk,hok,rfl⟩
   have hlk:(arK a r.bs k).r.bs=jc0 a.r.bs r.bs:=lessK_done hl hk
   refine zaw ?_;refine zV ?_;refine zdB ?_;exact KE.fin je rfl jd ja ⟨rfl,arK a r.bs k,hok,rfl,rfl,hlk,rfl⟩
  ·rintro D2 c G hf;exact hf.elim
 ·rintro D c G ⟨rfl,rfl,i,hi1,hi2⟩
  have hoa:jdP a.r.bs r.bs=false:=ok_bad hi1 hi2
  rw[hoa] at hgp;simp only[Bool.false_eq_true,if_false] at hgp;rw[hgp];refine ziP ?_;exact KE.fin je rfl jd ja ⟨rfl,a,ok,rfl,rfl,rfl,rfl⟩
open Go.RowKit
set_option maxRecDepth 10000
structure FnP where
 f:FuncId
 first:List Value
 cap:List Value
def fnE:Enc FnP:=⟨fun x=> [.func (.func x.f) x.first.toArray x.cap.toArray],1,fun _=>rfl,by intro x v hv;simp at hv;subst hv;rfl⟩
theorem all_not {q:Nat→Bool} {k n:Nat} (hk:k<n) (h:q k=false):(List.range n).all q=false:=by
 grind
structure HoS where
 k:Nat
theorem hold_K {w0:World} {H:jb} {v:Value} {l:List FnP} {z:Int} (q:Nat→Bool) (hS:Sli w0 H fnE v l) (hl:l.length≤1000)
  (hy: ∀ i x,l[i]?=some x→CallV Tryz.prog w0 (.func (.func x.f) x.first.toArray x.cap.toArray) [.int .i64 z] H (fun r H'=>r= .bool (q i)∧H'=H)):
  Call Tryz.prog w0 184 [.int .i64 z,v] H (fun r H'=>r= .bool ((List.range l.length).all q)∧H'=H):=by
 refine Call.enter2 (n:=18) (by rfl) Tryz.func184 rfl rfl rfl ?_;refine zai ?_;refine zcm ?_;refine K.loopT (σ:=HoS) [(0,_),(7,_),(8,_)] (fun s kp_=>(9, .int .i64 (s.k:Nat))::kp_) (fun s=>H) (fun s=>s.k≤l.length∧(List.range s.k).all q=true) (fun s=>l.length-s.k) (⟨0⟩) jc ja (⟨Nat.zero_le _,rfl⟩) ?_;rintro⟨k⟩ ⟨hk,hq⟩;dsimp only at hk hq⊢
 by_cases hlt:k<l.length
 ·obtain⟨x,hx⟩:=jh hlt
  have hyk:=hy k x hx
  refine zhq ?_;refine zay ?_;refine zu fun T hT=>?_;refine hyk.mono ?_;rintro _ _ ⟨rfl,rfl⟩
  cases hqk:q k with
  |true=>
   have hq':(List.range (k+1)).all q=true:=by grind
   refine ze ?_;clear hT T;refine zy ?_;refine zpV ?_;exact KE.again ⟨k+1⟩ jc ja ⟨hlt,hq'⟩ (by grind)
  |false=>
   have hr:=all_not hlt hqk
   refine ze ?_;clear hT T;rw[hr];refine zaQ ?_;refine zda ?_;exact zH
 ·have:k=l.length:=by omega
  subst this;rw[hq];refine zc5 ?_;refine zV ?_;exact zq
theorem step1_K {w0:World} {F:jb} {s:SpM} {k:MkM} {p:jZ} {b1 i:Nat} {c:Int} (ok:MkOk k p) (hc:(tiC k.c)[i]?=some c) (hm:s.mb=k.b):
  Call Tryz.prog w0 186 [.int .i64 (i:Nat), .pointer (some ⟨b1,0,none⟩)] ((b1,cells [.pointer (some ⟨s.b,0,none⟩)] 126)::(jap s++(jt k p++F)))
   (fun r H'=>r= .bool (decide (c=0))∧H'=(b1,cells [.pointer (some ⟨s.b,0,none⟩)] 126)::(jap s++(jt k p++F))):=by
 refine Call.enter2 (n:=17) (by rfl) Tryz.func186 rfl rfl rfl ?_;simp only[sweepH_app,hm];refine zav ?_;refine za0 ?_;refine zaa ?_;refine zn ?_;refine jn (jek ok hc) ja ?_;refine zY ?_;refine zap ?_;refine zgT ?_;exact zq
section
variable {w0 : World} {F : jb} {s : SpM} {a : ArM} {B : BoM} {k : MkM} {x : List Int} {n : Nat}
def goneC (a:ArM) (i:Nat) (c:Int):Bool:=(a.r.bs[i]?).getD false&&decide (c=0)
theorem spStep_K {y:jq} {c:Int} (ok:SpOk s B.p.g.slots) (oka:jaE a B.p) (okB:jaD B x) (okk:MkOk k B.p) (h1:s.act=true) (hy:B.p.g.L[s.at_]?=some y) (hc:(tiC k.c)[s.at_]?=some c) (e1:s.ab=a.b) (e2:s.bb=B.b) (e3:s.mb=k.b):
  Call Tryz.prog w0 150 [.pointer (some ⟨s.b,0,none⟩)] (jap s++(j7 a B.p++(jT B++(jy B.m++(planH B.p++(jt k B.p++F))))))
   (fun r H'=>r= .bool true∧H'=if goneC a s.at_ c=true then jap {s with d:=JR s.d s.at_ true,at_:=s.at_+1}++(j7 a B.p++(jT B++(jy (jaB B.m B.t (J6 x y))++(planH B.p++(jt k B.p++F))))) else jap {s with at_:=s.at_+1}++(j7 a B.p++(jT B++(jy B.m++(planH B.p++(jt k B.p++F)))))):=by
 have hil:s.at_<B.p.g.slots:=by grind[jdU,jv]
 have hs16:=okB.p.g.slots.2
 have hdl:s.at_<s.d.bs.length:=by rw[ok.dn];omega
 have hd:jcN s=false:=by
  grind[jcN]
 have okd:=ok.d
 have he:((s.at_:Nat):Int)+1=((s.at_+1:Nat):Int):=by omega
 have hgb:getB a.r.bs (s.at_:Nat)=(a.r.bs[s.at_]?).getD false:=jhh
 obtain⟨v,hv⟩: ∃ v,v=(a.r.bs[s.at_]?).getD false:=⟨_,rfl⟩
 have hgone:goneC a s.at_ c=(v&&decide (c=0)):=by grind[goneC]
 rw[←hv] at hgb
 obtain⟨sb,sd,sat,sact,sab,sbb,smb⟩:=s
 dsimp only at e1 e2 e3 h1 hy hc hil hdl hd okd he hgb hv hgone⊢;subst e1 e2 e3 h1;rw[hgone];refine Call.enter1 (n:=47) (by rfl) Tryz.func150 rfl rfl rfl ?_;refine zbY ?_;intro b1;refine zbX ?_;refine zaI ?_;refine jn (jhL (s:=⟨sb,sd,sat,true,a.b,B.b,k.b⟩)) ja ?_;refine zy ?_;refine ziK ?_;refine zu fun T hT=>?_;refine(CallV.part (CallV.fn (jis (s:=⟨sb,sd,sat,true,a.b,B.b,k.b⟩))) ja).mono ?_;rintro _ _ ⟨rfl,rfl⟩;rw[hd];refine ze ?_;clear hT T;simp only[sweepH_app];refine zx ?_;refine zqy ?_;refine K.drawn _ [(0,1),(1,1),(2,1),(3,1),(4,0),(5,0),(6,0),(7,0),(8,0),(9,0),(10,2),(11,2)] (by rfl) (by rfl) (by kernel_rfl) (by rfl) (by rfl) (by rfl) Part.all ?_;refine ziT ?_;refine KD.v1 rfl rfl (Val.fieldAddr0 (k:=4) rfl rfl) ?_;refine zaJ ?_;refine zcG ?_;refine zet ?_;refine zlX ?_;refine zlX ?_;refine zos ?_;intro b20;refine zcp ?_;refine zk fun T hT=>?_
 have hall:(List.range 2).all (fun i=>if i=0 then v else decide (c=0))=(v&&decide (c=0)):=by
  show(v&&(decide (c=0)&&true))=_
  grind
 refine(CallV.part (CallV.fn (hold_K (H:=(b20,cells [.func (.func 185) #[.pointer (some ⟨a.b,0,none⟩)] #[], .func (.func 186) #[] #[.pointer (some ⟨b1,0,none⟩)]] 290)::(b1,cells [.pointer (some ⟨sb,0,none⟩)] 126)::(jap ⟨sb,sd,sat,true,a.b,B.b,k.b⟩++(j7 a B.p++(jT B++(jy B.m++(planH B.p++(jt k B.p++F)))))))
  (l:=[⟨185,[.pointer (some ⟨a.b,0,none⟩)],[]⟩,⟨186,[],[.pointer (some ⟨b1,0,none⟩)]⟩]) (z:=(sat:Nat)) (fun i=>if i=0 then v else decide (c=0)) (Sli.blk ju rfl (by simp) (by decide) rfl) (by simp) ?_)) (by simp only[sweepH_app];exact ja)).mono ?_
 ·intro i f hf
  match i,hf with
  |0,hf=>
   cases hf
   refine CallV.bound (first:=[.pointer (some ⟨a.b,0,none⟩)]) ?_
   have h:=Call.ro (w0:=w0) (A:=j7 a B.p) (H:=(b20,cells [.func (.func 185) #[.pointer (some ⟨a.b,0,none⟩)] #[], .func (.func 186) #[] #[.pointer (some ⟨b1,0,none⟩)]] 290)::(b1,cells [.pointer (some ⟨sb,0,none⟩)] 126)::(jap ⟨sb,sd,sat,true,a.b,B.b,k.b⟩++(j7 a B.p++(jT B++(jy B.m++(planH B.p++(jt k B.p++F))))))) (fun F=>Has_K (F:=F) (i:=(sat:Nat)) oka) ja
   rw[hgb] at h;exact h
  |1,hf=>
   cases hf
   refine CallV.clo (cap:=[.pointer (some ⟨b1,0,none⟩)]) ?_
   exact Call.ro (w0:=w0) (A:=(b1,cells [.pointer (some ⟨sb,0,none⟩)] 126)::(jap ⟨sb,sd,sat,true,a.b,B.b,k.b⟩++jt k B.p)) (fun F=>by
    simp only[List.cons_append,List.append_assoc]
    exact step1_K (s:=⟨sb,sd,sat,true,a.b,B.b,k.b⟩) okk hc rfl) ja
  |i+2,hf=>simp at hf
 ·rintro _ _ ⟨rfl,rfl⟩;rw[show([⟨185,[.pointer (some ⟨a.b,0,none⟩)],[]⟩,⟨186,[],[.pointer (some ⟨b1,0,none⟩)]⟩]:List FnP).length=2 from rfl,hall]
  cases hg:(v&&decide (c=0)) with
  |true=>
   refine zi ?_;clear hT T;simp only[sweepH_app];refine zam ?_;refine KE.next (K.condT rfl (K.seq ?_));refine zow ?_;refine zcG ?_;refine zdA ?_;refine zcG ?_;refine zd7 ?_;refine zk fun T hT=>?_;refine(CallV.part (CallV.fn (bWipe_K okB hy)) ja).mono ?_;rintro _ _ ⟨rfl,rfl⟩;refine zi ?_;clear hT T;refine zam ?_;refine zb9 ?_;refine zow ?_;refine zcG ?_;refine znF ?_;refine zcG ?_;refine zd7 ?_;refine zk fun T hT=>?_;refine(CallV.part (CallV.fn (je5 (v:=true) okd hdl)) ja).mono ?_;rintro _ _ ⟨rfl,rfl⟩;refine zi ?_;clear hT T;refine zdj ?_;refine za0 ?_;refine zdg ?_;refine zfk ?_;refine zds ?_;refine zgn ?_;rw[he,if_pos hg];exact zH
  |false=>
   refine zi ?_;clear hT T;simp only[sweepH_app];refine zam ?_;refine zgP ?_;refine za0 ?_;refine zdg ?_;refine zfk ?_;refine zds ?_;refine zgn ?_;rw[he,if_neg (by rw[hg];decide)];exact zH
end
open Go.RowKit
set_option maxRecDepth 10000
theorem spStop_K {w0:World} {F:jb} {s:SpM} {a:ArM} {p:jZ} (hG:ji w0) (ok:SpOk s p.g.slots) (oka:jaE a p) (h:jcN s=true) (e1:s.ab=a.b):Call Tryz.prog w0 320 [.pointer (some ⟨s.b,0,none⟩)] (jap s++(j7 a p++(planH p++F)))
  (fun r H'=>r= .tuple [.int .i64 (s.d.bs.count true:Nat), .int .i64 0].toArray∧ ∃ (a':ArM) (s':SpM),jaE a' p∧a'.b=a.b∧a'.r.b=a.r.b∧a'.r.bs=(jbp a.r.bs s.d.bs).2∧SpOk s' p.g.slots∧s'.b=s.b∧s'.ab=s.ab∧s'.bb=s.bb∧s'.mb=s.mb∧s'.at_=0∧s'.act=false∧s'.d.bs=List.replicate p.g.slots false∧H'=jap s'++(j7 a' p++(planH p++F))):=by
 have okd:=ok.d
 have hl:s.d.bs.length=a.r.bs.length:=by rw[ok.dn,oka.n]
 have hdn:=ok.dn
 obtain⟨sb,sd,sat,sact,sab,sbb,smb⟩:=s
 dsimp only at e1 okd hl hdn⊢;subst e1;refine Call.enter1 (n:=37) (by rfl) Tryz.func320 rfl rfl rfl ?_;refine zL ?_;refine zd8 ?_;refine jn (jir (s:=⟨sb,sd,sat,sact,a.b,sbb,smb⟩)) ja ?_;refine zcw ?_;refine zz fun T hT=>?_;refine(CallV.part (CallV.fn (jis (s:=⟨sb,sd,sat,sact,a.b,sbb,smb⟩))) ja).mono ?_;rintro _ _ ⟨rfl,rfl⟩;rw[h];refine ze ?_;clear hT T;simp only[sweepH_app];refine zy ?_;refine zbA ?_;refine zF ?_;refine zbU ?_;refine zaI ?_;refine jn (Count_K okd) ja ?_;refine zdK ?_;refine K.drawn [] [(0,0),(1,0),(2,0),(3,0),(4,0),(5,0),(6,0),(7,0),(8,2)] (by rfl) (by rfl) (by kernel_rfl) (by rfl) (by rfl) (by rfl) Part.nil ?_;refine zcT ?_;refine zgD ?_;refine zk fun T hT=>?_;refine(CallV.part (CallV.fn (GiveAll_K hG oka okd hl)) ja).mono ?_;rintro _ _ ⟨rfl,a',ka,ab,arb,abs,rfl⟩;refine zi ?_;clear hT T;refine zdj ?_;refine zF ?_;refine zbU ?_;refine zaI ?_;refine jB (jjp okd) ja ?_;rintro _ _ ⟨rfl,r',kr,rb,rbs,rfl⟩;refine zal ?_;refine zb6 ?_;refine zc2 ?_;refine zaq ?_;refine zS ?_;refine zds ?_;refine zgC ?_;refine zab ?_;rw[hdn] at rbs;rw[←rb];exact KE.fin (H':=jap ⟨sb,r',0,false,a.b,sbb,smb⟩++(j7 a' p++(planH p++F))) je rfl jd (by simp only[sweepH_app];exact ja) ⟨rfl,a',⟨sb,r',0,false,a.b,sbb,smb⟩,ka,ab,arb,abs,⟨kr,by grind,Nat.zero_le _⟩,rfl,rfl,rfl,rfl,rfl,rfl,rbs,by rfl⟩
theorem spNew_K {w0:World} {F:jb} {a:ArM} {B:BoM} {k:MkM} {x:List Int} (hG:ji w0) (oka:jaE a B.p) (okB:jaD B x) (okk:MkOk k B.p):
  Call Tryz.prog w0 115 [.pointer (some ⟨B.p.b,0,none⟩), .pointer (some ⟨a.b,0,none⟩), .pointer (some ⟨B.b,0,none⟩), .pointer (some ⟨k.b,0,none⟩)] (j7 a B.p++(jT B++(jy B.m++(planH B.p++(jt k B.p++F)))))
   (fun r H'=> ∃ s:SpM,SpOk s B.p.g.slots∧s.ab=a.b∧s.bb=B.b∧s.mb=k.b∧s.at_=0∧s.act=false∧s.d.bs=List.replicate B.p.g.slots false∧r= .tuple [.pointer (some ⟨s.b,0,none⟩), .int .i64 0].toArray∧H'=jap s++(j7 a B.p++(jT B++(jy B.m++(planH B.p++(jt k B.p++F)))))):=by
 have okp:=okB.p
 have hs:=okp.g.slots
 obtain⟨y,hy⟩:=j9 (g:=B.p.g) (i:=0) (by omega)
 have hne: ¬((B.p.g.slots:Nat):Int)=0:=by omega
 obtain⟨cc,hcc⟩:=jfo okk (s:=0) (by omega)
 have hhead:=fun A=>jeX (w0:=w0) (F:=A) (s:=0) hG okB hy
 have hhv: ∃ c r w e,headV (headP x y)= .tuple [.agg [.int .i64 c, .int .i64 r, .int .i64 w].toArray, .int .i64 e].toArray∧e≠1:=by
  unfold headV
  cases headP x y with
  |none=>exact⟨0,0,0,5,rfl,by decide⟩
  |some h=>exact⟨h.c,h.r,h.w,0,rfl,by decide⟩
 obtain⟨c,r,w,e,hev,hen⟩:=hhv
 simp only[hev] at hhead
 have hen': ¬e=1:=hen
 refine Call.enter4 (n:=55) (by kernel_rfl) Tryz.func115 rfl rfl rfl ?_;refine zL ?_;refine zch ?_;refine jn (hhead _) ja ?_;refine zey ?_;intro b10;refine jn (jek okk hcc) ja ?_;refine zY ?_;refine ze2 ?_;refine zfG ?_;refine zC ?_;refine zev ?_;refine jB (aCopy_K oka) ja ?_;rintro _ _ ⟨a',_,_,rfl,rfl⟩;refine zl ?_;refine zcq ?_;refine zx ?_;refine zX ?_;refine zC ?_;refine zx ?_;refine zX ?_;refine zC ?_;refine zaX ?_;refine zn ?_;refine zfG ?_;refine zp ?_;refine JY (jgk (n:=B.p.g.slots) (by omega)) ?_;rintro _ _ ⟨rr,kr,hbs,rfl,rfl⟩;refine zY ?_;refine zrz ?_;refine zci ?_;intro b53;refine zj ?_;refine zab ?_;exact KE.fin (H':=jap ⟨b53,rr,0,false,a.b,B.b,k.b⟩++(j7 a B.p++(jT B++(jy B.m++(planH B.p++(jt k B.p++F)))))) je rfl jd (by simp only[sweepH_app];exact ja) ⟨⟨b53,rr,0,false,a.b,B.b,k.b⟩,⟨kr,by simp[hbs],Nat.zero_le _⟩,rfl,rfl,rfl,rfl,rfl,hbs,rfl,rfl⟩
end Go.Proofs.YtebiafomiemgbaaGreatDoor.Sw
