/-The walker and the contracts that the law needs,part 18. -/
import Derived.Test.YtebiafomiemgbaaGreatDoorJ15
import Derived.Test.YtebiafomiemgbaaGreatDoorJ17
set_option linter.unusedVariables false set_option linter.unusedSimpArgs false set_option linter.unusedVariables false
set_option linter.unusedSimpArgs false
namespace Go.Proofs.YtebiafomiemgbaaGreatDoor.Sw
set_option maxHeartbeats 8000000
open Go.Proofs.YtebiafomiemgbaaGreatDoor renaming lo → qL, hi → qH
open Go.RowKit
set_option maxRecDepth 10000
def jb4 (q y:Int):Int:=q/y
def jep (page q y:Int):Int:=(q/y+page/y-1)/(page/y)
def jbM (c:Cfg) (t:Int):Int:=((c.tn[t.toNat]?).map (·.quota)).getD 0
def cfgC (c:Cfg) (k:Int):Int:=((c.cl[k.toNat]?)).getD 0
def jaP (c:Cfg) (t k:Int):Int × Int:=if JB c t k then(jb4 (jbM c t) (cfgC c k),0) else(0,2)
def pagesP (c:Cfg) (t k:Int):Int × Int:=if JB c t k then(jep c.page (jbM c t) (cfgC c k),0) else(0,2)
def prV (p:Int × Int):Value:= .tuple [.int .i64 p.1, .int .i64 p.2].toArray
theorem jit {q y:Int} (hy:2≤y) (hq:y≤q) (hq2:q≤4096):1≤jb4 q y∧jb4 q y≤2048:=by
 unfold jb4
 constructor
 ·exact(Int.le_ediv_iff_mul_le (by omega)).2 (by omega)
 ·exact Int.le_trans (Int.ediv_le_ediv (by omega) hq2) (by
   have:(4096:Int)/y*y≤4096:=Int.ediv_mul_le _ (by omega)
   have h0:0≤(4096:Int)/y:=Int.ediv_nonneg (by omega) (by omega)
   have:(4096:Int)/y*2≤4096/y*y:=Int.mul_le_mul_of_nonneg_left hy h0
   omega)
theorem Slots_K {w0:World} {H:jb} {c:Cfg} {vc vt:Value} {t k:Int} (hR:Jc w0 H c vc vt):
  Call Tryz.prog w0 132 [jr c vc vt, .int .i64 t, .int .i64 k] H (fun r H'=>r=prV (jaP c t k)∧H'=H):=by
 have hc0:=fun A (hp:Part A H)=>jiZ (t:=t) (k:=k) (hR.part hp)
 obtain⟨hS,hT',o1,o2,l1,l2⟩:=hR
 cases ht:JB c t k with
 |false=>
  have he:jaP c t k=(0,2):=by grind[jaP]
  rw[ht] at hc0;rw[he]
  obtain⟨cl,page,tn,workers,grey,gens⟩:=c
  dsimp only at hS hT' l1 l2 he;simp only[jr,jG] at hc0⊢;refine Call.enter3 (n:=25) (by rfl) Tryz.func132 rfl rfl rfl ?_;refine zb7 ?_;intro b3;refine zgz ?_;refine zhQ ?_;refine zaQ ?_;exact zfq
 |true=>
  obtain⟨i,j,x,y,rfl,rfl,hx,hy,ok⟩:=jcQ ht
  have he:jaP c (i:Nat) (j:Nat)=(x.quota/y,0):=by grind[jaP,jb4,jbM,cfgC]
  have hb:=(ok.ten x (List.mem_of_getElem? hx)).1
  have hb2:=ok.el y (List.mem_of_getElem? hy)
  have hil:=jv hx
  have hjl:=jv hy
  rw[ht] at hc0;rw[he]
  obtain⟨q,tr,cp,ax⟩:=x
  obtain⟨cl,page,tn,workers,grey,gens⟩:=c
  dsimp only at hS hT' l1 l2 he hx hy hb hb2 hil hjl;simp only[jr,jG] at hc0⊢;refine Call.enter3 (n:=25) (by rfl) Tryz.func132 rfl rfl rfl ?_;refine zb7 ?_;intro b3;refine zgz ?_;refine zhQ ?_;refine zy ?_;refine zb8 ?_;refine zn9 ?_;refine znC ?_;refine zo ?_;refine zfB ?_;refine zqh ?_;refine zi3 ?_;refine zet ?_;refine zo ?_;refine zj1 ?_;refine ziX ?_;refine zgF ?_;exact zH
theorem Pages_K {w0:World} {H:jb} {c:Cfg} {vc vt:Value} {t k:Int} (hR:Jc w0 H c vc vt):
  Call Tryz.prog w0 131 [jr c vc vt, .int .i64 t, .int .i64 k] H (fun r H'=>r=prV (pagesP c t k)∧H'=H):=by
 have hc0:=fun A (hp:Part A H)=>Slots_K (t:=t) (k:=k) (hR.part hp)
 obtain⟨hS,hT',o1,o2,l1,l2⟩:=hR
 cases ht:JB c t k with
 |false=>
  have he:pagesP c t k=(0,2):=by grind[pagesP]
  have he2:jaP c t k=(0,2):=by grind[jaP]
  rw[he2] at hc0;rw[he]
  obtain⟨cl,page,tn,workers,grey,gens⟩:=c
  dsimp only at hS hT' l1 l2 he;simp only[jr,jG] at hc0⊢;refine Call.enter3 (n:=35) (by rfl) Tryz.func131 rfl rfl rfl ?_;refine zdN ?_;intro b3;refine zau ?_;refine za9 fun T hT=>?_;refine zkC ?_;rintro _ _ ⟨rfl,rfl⟩;simp only[prV];refine ze ?_;clear hT T;refine zbi ?_;refine zM ?_;refine zbP ?_;exact zfq
 |true=>
  obtain⟨i,j,x,y,rfl,rfl,hx,hy,ok⟩:=jcQ ht
  have he:pagesP c (i:Nat) (j:Nat)=(jep c.page x.quota y,0):=by grind[pagesP,jbM,cfgC]
  have hb:=(ok.ten x (List.mem_of_getElem? hx)).1
  have hb2:=ok.el y (List.mem_of_getElem? hy)
  have hpg:=ok.page
  have hn:jaP c (i:Nat) (j:Nat)=(jb4 x.quota y,0):=by grind[jaP,jbM,cfgC]
  have hsl:=jit (q:=x.quota) (y:=y) (by omega) (by omega) hb.2
  have hper:1≤c.page/y∧c.page/y≤64:=⟨(Int.le_ediv_iff_mul_le (by omega)).2 (by omega),Int.le_trans (Int.ediv_le_self _ (by omega)) hpg.2⟩
  have hil:=jv hx
  have hjl:=jv hy
  rw[hn] at hc0;rw[he]
  have hpn:jep c.page x.quota y=(jb4 x.quota y+c.page/y-1)/(c.page/y):=rfl
  rw[hpn]
  obtain⟨n,hn'⟩: ∃ n,n=jb4 x.quota y:=⟨_,rfl⟩
  rw[←hn'] at hc0 hsl⊢
  obtain⟨q,tr,cp,ax⟩:=x
  obtain⟨cl,page,tn,workers,grey,gens⟩:=c
  dsimp only at hS hT' l1 l2 he hx hy hb hb2 hil hjl hpg hper;simp only[jr,jG] at hc0⊢
  obtain⟨pr,hpr⟩: ∃ p,p=page/y:=⟨_,rfl⟩
  rw[←hpr] at hper;refine Call.enter3 (n:=35) (by rfl) Tryz.func131 rfl rfl rfl ?_;refine zdN ?_;intro b3;refine zau ?_;refine za9 fun T hT=>?_;refine zkC ?_;rintro _ _ ⟨rfl,rfl⟩;simp only[prV];refine ze ?_;clear hT T;refine zbM ?_;refine zb8 ?_;refine zkE ?_;refine zdA ?_;refine zet ?_;refine zo ?_;refine zj1 ?_;refine ziX ?_;refine zcv ?_;refine zV ?_;refine zB ?_;refine zaB ?_;refine zc0 ?_;refine zj ?_;refine KL.v rfl (Val.quoN rfl rfl (by grind[qL,qH])) ?_;exact zb5
set_option maxRecDepth 10000
def Jq (f:Nat→Int):Nat→Int
 |0=>0
 |k+1=>Jq f k+f k
theorem jd8 {f:Nat→Int} {B:Int}: ∀ {n:Nat},(∀ i,i<n→0≤f i∧f i≤B)→0≤Jq f n∧Jq f n≤(n:Int)*B
 |0,_=>by simp[Jq]
 |n+1,h=>by
  obtain⟨h1,h2⟩:=jd8 (n:=n) (fun i hi=>h i (by omega))
  grind[Jq]
structure SmS where
 k:Nat
theorem sumI_K {w0:World} {H:jb} {v fv:Value} {l:List Int} {f:Nat→Int} (hS:Sli w0 H iE v l) (hl:l.length≤8) (hB: ∀ i,i<l.length→0≤f i∧f i≤1048576)
  (hf: ∀ i,i<l.length→CallV Tryz.prog w0 fv [.int .i64 (i:Nat)] H (fun r H'=>r= .int .i64 (f i)∧H'=H)):
  Call Tryz.prog w0 129 [v,fv] H (fun r H'=>r= .int .i64 (Jq f l.length)∧H'=H):=by
 refine Call.enter2 (n:=19) (by rfl) Tryz.func129 rfl rfl rfl ?_;refine zav ?_;refine zad ?_;refine zcm ?_;refine zr7 ?_;rintro⟨k⟩ hk;dsimp only at hk⊢
 by_cases hlt:k<l.length
 ·have b1:=jd8 (f:=f) (n:=k) (fun i hi=>hB i (by omega))
  have b2:=hB k hlt
  obtain⟨a,ha⟩: ∃ a,a=Jq f k:=⟨_,rfl⟩
  obtain⟨b,hb⟩: ∃ b,b=f k:=⟨_,rfl⟩
  have hs:Jq f (k+1)=a+b:=by rw[ha,hb];rfl
  rw[←ha] at b1⊢;rw[←hb] at b2
  have hfk:=hf k hlt
  rw[←hb] at hfk;refine zid ?_;refine zfi ?_;refine zB ?_;refine zz fun T hT=>?_;refine hfk.mono ?_;rintro _ _ ⟨rfl,rfl⟩;refine ze ?_;clear hT T;refine zaB ?_;refine zhs ?_;rw[←hs];exact zoa
 ·have hke:k=l.length:=by omega
  subst hke;refine zc5 ?_;refine zbw ?_;exact zq
theorem sumT_K {w0:World} {H:jb} {v fv:Value} {l:List Tn} {f:Nat→Int} (hS:Sli w0 H tnE v l) (hl:l.length≤8) (hB: ∀ i,i<l.length→0≤f i∧f i≤1048576)
  (hf: ∀ i,i<l.length→CallV Tryz.prog w0 fv [.int .i64 (i:Nat)] H (fun r H'=>r= .int .i64 (f i)∧H'=H)):
  Call Tryz.prog w0 102 [v,fv] H (fun r H'=>r= .int .i64 (Jq f l.length)∧H'=H):=by
 refine Call.enter2 (n:=19) (by rfl) Tryz.func102 rfl rfl rfl ?_;refine zav ?_;refine zad ?_;refine zcm ?_;refine zr7 ?_;rintro⟨k⟩ hk;dsimp only at hk⊢
 by_cases hlt:k<l.length
 ·have b1:=jd8 (f:=f) (n:=k) (fun i hi=>hB i (by omega))
  have b2:=hB k hlt
  obtain⟨a,ha⟩: ∃ a,a=Jq f k:=⟨_,rfl⟩
  obtain⟨b,hb⟩: ∃ b,b=f k:=⟨_,rfl⟩
  have hs:Jq f (k+1)=a+b:=by rw[ha,hb];rfl
  rw[←ha] at b1⊢;rw[←hb] at b2
  have hfk:=hf k hlt
  rw[←hb] at hfk;refine zid ?_;refine zfi ?_;refine zB ?_;refine zz fun T hT=>?_;refine hfk.mono ?_;rintro _ _ ⟨rfl,rfl⟩;refine ze ?_;clear hT T;refine zaB ?_;refine zhs ?_;rw[←hs];exact zoa
 ·have hke:k=l.length:=by omega
  subst hke;refine zc5 ?_;refine zbw ?_;exact zq
open Go.RowKit
set_option maxRecDepth 10000
theorem sub_perm {α:Type} {A S:List α} (h:A.Sublist S): ∃ F,S.Perm (A++F):=by
 induction h with
 |slnil=>simp_all
 |cons a h ih=>obtain⟨F,hF⟩:=ih;exact⟨a::F,(hF.cons a).trans List.perm_middle.symm⟩
 |cons_cons a h ih=>simp_all
theorem Call.ro {P:Program} {w0:World} {f:FuncId} {args:List Value} {A H:jb} {R:Value→Prop} (h: ∀ F,Call P w0 f args (A++F) (fun r H'=>R r∧H'=A++F)) (hp:Part H A):Call P w0 f args H (fun r H'=>R r∧H'=H):=by
 obtain⟨S,h1,h2⟩:=hp.sub
 obtain⟨F,h3⟩:=sub_perm h2
 have hF:=h1.trans h3
 refine⟨(h F).ent,fun w hw=>((h F).out w (hw.perm hF)).mono ?_⟩;rintro e w' ⟨v,H',rfl,hw',hr,rfl⟩;exact⟨v,H,rfl,hw'.perm hF.symm,hr,rfl⟩
def jeo (x:PartP):List Value:=[.int .i64 (x.size:Nat), .int .i64 (x.first:Nat), .int .i64 (x.many:Nat), .int .i64 (x.page:Nat), .int .i64 (x.per:Nat)]
def je0:Enc PartP:=⟨jeo,5,fun _=>rfl,by intro x v hv;simp[jeo] at hv;rcases hv with rfl|rfl|rfl|rfl|rfl<;>rfl⟩
theorem partE_enc (x:PartP):je0.enc x=[.int .i64 (x.size:Nat), .int .i64 (x.first:Nat), .int .i64 (x.many:Nat), .int .i64 (x.page:Nat), .int .i64 (x.per:Nat)]:=rfl
structure jZ where
 b:Nat
 g:PlG
 o:Own
def planH (p:jZ):jb:=(p.b,cells [oV p.o p.g.parts.length, .int .i64 (p.g.slots:Nat), .int .i64 (p.g.pages:Nat), .int .i64 (p.g.pg:Nat)] 215)::oH je0 217 p.g.parts p.o
theorem Jm {p:jZ} {F:jb}:planH p++F=(p.b,cells [oV p.o p.g.parts.length, .int .i64 (p.g.slots:Nat), .int .i64 (p.g.pages:Nat), .int .i64 (p.g.pg:Nat)] 215)::(oH je0 217 p.g.parts p.o++F):=rfl
structure jaS (p:jZ):Prop where
 g:jg p.g
 o:oOk je0 p.g.parts p.o
theorem jle {w0:World} {F:jb} {p:jZ} (ok:jaS p):
  Call Tryz.prog w0 136 [.pointer (some ⟨p.b,0,none⟩)] (planH p++F) (fun r H'=>r= .bool false∧H'=planH p++F):=by
 have h1:=ok.g.pg1
 have hne: ¬((p.g.pg:Nat):Int)=0:=by omega
 refine Call.enter1 (n:=12) (by rfl) Tryz.func136 rfl rfl rfl ?_;simp only[Jm];refine zeA ?_;refine zbU ?_;refine zaD ?_;refine zC ?_;refine zcA ?_;exact zeX
theorem jeI {w0:World} {F:jb} {p:jZ} (ok:jaS p):
  Call Tryz.prog w0 113 [.pointer (some ⟨p.b,0,none⟩)] (planH p++F) (fun r H'=>r= .int .i64 (p.g.slots:Nat)∧H'=planH p++F):=by
 refine Call.enter1 (n:=9) (by rfl) Tryz.func113 rfl rfl rfl ?_;refine zaf ?_;refine zi5 ?_;simp only[Jm];refine zas ?_;refine zae ?_;refine zm ?_;exact zeX
theorem Words0_K {w0:World} {F:jb} {p:jZ} (ok:jaS p):
  Call Tryz.prog w0 133 [.pointer (some ⟨p.b,0,none⟩)] (planH p++F) (fun r H'=>r= .int .i64 (p.g.words:Nat)∧H'=planH p++F):=by
 have hw:=ok.g.words
 have e:((p.g.pages:Nat):Int)*((p.g.pg:Nat):Int)=((p.g.words:Nat):Int):=rfl
 refine Call.enter1 (n:=14) (by rfl) Tryz.func133 rfl rfl rfl ?_;refine zaf ?_;refine zi5 ?_;simp only[Jm];refine zb8 ?_;refine K.drawn [] [(0,0),(1,0),(2,0),(3,0),(4,0),(5,0),(6,0),(7,0),(8,0),(9,0)] (by rfl) (by rfl) (by kernel_rfl) (by rfl) (by rfl) (by rfl) Part.nil ?_;refine zgA ?_;refine zgD ?_;refine zlQ ?_;refine zbp ?_;exact zeX
theorem last_K {w0:World} {F:jb} {p:jZ} {g:FuncId} {cap:List Value} {q:Nat→Bool} (ok:jaS p) (hmono: ∀ i j,i≤j→j<p.g.m→q j=true→q i=true)
  (hso: ∀ H' i,Part H' (planH p++F)→i<p.g.m→CallV Tryz.prog w0 (.func (.func g) #[] cap.toArray) [.agg (jeo (p.g.pt i)).toArray] H' (fun r H''=>r= .bool (q i)∧H''=H')):
  Call Tryz.prog w0 218 [.pointer (some ⟨p.b,0,none⟩), .func (.func g) #[] cap.toArray] (planH p++F) (fun r H'=> ∃ i:Nat,i≤p.g.m∧(∀ j,j<i→q j=true)∧(∀ j,i≤j→j<p.g.m→q j=false)∧r= .int .i64 ((i:Int)-1)∧H'=planH p++F):=by
 have hm:=ok.g.m
 have hpl:p.g.parts.length=p.g.m:=jdW
 have ho:=ok.o
 refine Call.enter2 (n:=13) (by rfl) Tryz.func218 rfl rfl rfl ?_;simp only[Jm];refine zew ?_;intro b2 b3;refine zah ?_;refine za0 ?_;refine zN ?_;refine zhL ?_;refine zbk fun T hT=>?_;refine(CallV.part (CallV.fn (jlS (H:=(b2,cells [.pointer (some ⟨p.b,0,none⟩)] 121)::(b3,cells [.func (.func g) #[] cap.toArray] 311)::(planH p++F)) (n:=p.g.parts.length) (fun i=>!q i) (by omega) ?_ ?_)) (by simp only[Jm];exact ja)).mono ?_
 ·grind
 ·intro i hi0
  have hi:i<p.g.m:=by omega
  have hx:p.g.parts[i]?=some (p.g.pt i):=jey hi
  refine CallV.clo (cap:=[.pointer (some ⟨b3,0,none⟩), .pointer (some ⟨b2,0,none⟩)]) ?_;refine Call.enter3 (n:=15) (by rfl) Tryz.func281 rfl rfl rfl ?_;simp only[Jm];refine zfd ?_;refine K.drawn [] [(0,0),(1,0),(2,0),(3,0),(4,0),(5,0),(6,0),(7,0),(8,2),(9,0),(10,0)] (by rfl) (by rfl) (by kernel_rfl) (by rfl) (by rfl) (by rfl) Part.nil ?_;refine zan ?_;refine zcG ?_;refine zet ?_;refine zo ?_;refine zcI ?_;refine zhR ?_;refine zk fun T hT=>?_;refine(hso _ i (by simp only[Jm];exact ja) hi).mono ?_;rintro _ _ ⟨rfl,rfl⟩;refine zi ?_;clear hT T;refine KD.v0 rfl rfl (Val.notB rfl) ?_;refine zbp ?_;exact zeX
 ·rintro _ _ ⟨i,hi,h1,h2,rfl,rfl⟩;refine ze ?_;clear hT T;refine zc0 ?_;refine zm ?_;exact KE.fin je rfl jd (by first|exact ja|(simp only[Jw,jaf,Jm];exact ja)) ⟨i,by omega,fun j hj=>by grind,fun j h3 h4=>by grind,rfl,rfl⟩
theorem find_K {w0:World} {F:jb} {p:jZ} {s k d:Nat} (ok:jaS p) (hk:k<p.g.m) (hd:d<p.g.n k) (hs:s=p.g.first k+d):
  Call Tryz.prog w0 163 [.pointer (some ⟨p.b,0,none⟩), .int .i64 (s:Nat)] (planH p++F) (fun r H'=>r= .tuple [.int .i64 (k:Nat), .int .i64 (d:Nat), .int .i64 0].toArray∧H'=planH p++F):=by
 have hm:=ok.g.m
 have hpl:p.g.parts.length=p.g.m:=jdW
 have ho:=ok.o
 have hst:s<p.g.slots:=by
  have:=jdu (n:=p.g.n) hk
  grind[PlG.slots,PlG.first]
 have hge: ¬((s:Nat):Int)≥(p.g.slots:Nat):=by omega
 have hslb:=ok.g.slots.2
 have hq: ∀ j,decide (p.g.first j≤s)=decide (((p.g.first j:Nat):Int)≤(s:Nat)):=fun j=>decide_eq_decide.2 (by omega)
 refine Call.enter2 (n:=35) (by rfl) Tryz.func163 rfl rfl rfl ?_;refine zes ?_;intro b3;refine zt ?_;refine zd8 ?_;refine jn (jle ok) ja ?_;simp only[Jm];refine zt ?_;refine zob ?_;refine zhS ?_;refine zan ?_;refine ztD ?_;refine zpT ?_;refine zqj ?_;refine zbV ?_;refine KD.y0 rfl rfl rfl rfl (Val.isF (Val.geq rfl rfl) jO) ?_;refine zcr ?_;refine zcv ?_;refine zfC ?_;refine zaw ?_;refine zbw ?_;refine zbk fun T hT=>?_;refine(CallV.part (CallV.fn (last_K (F:=(b3,cells [.int .i64 (s:Nat)] 3)::F) (g:=219) (cap:=[.pointer (some ⟨b3,0,none⟩)]) (q:=fun j=>decide (p.g.first j≤s)) ok ?_ ?_)) (by first|exact ja|(simp only[Jw,jaf,Jm];exact ja))).mono ?_
 ·intro i j h1 h2 h3
  have h4:p.g.first i≤p.g.first j:=jii h1
  grind
 ·intro H' i hp hi;refine CallV.clo (cap:=[.pointer (some ⟨b3,0,none⟩)]) ?_
  have hsee:jJ w0 H' ⟨b3,0,none⟩ (.int .i64 (s:Nat)):=(jJ.cell (H:=planH p++((b3,cells [.int .i64 (s:Nat)] 3)::F)) ju rfl).more hp
  rw[hq];unfold jeo PlG.pt;dsimp only;refine Call.enter2 (n:=8) (by rfl) Tryz.func219 rfl rfl rfl ?_;refine zbN ?_;intro b2;refine zae ?_;refine KL.v rfl (Val.loadP rfl rfl (jJ.more (by assumption) ja)) ?_;refine KL.v rfl (Val.leq rfl rfl) ?_;exact zq
 ·rintro _ _ ⟨i,hi,h1,h2,rfl,rfl⟩
  have hf0:p.g.first 0=0:=rfl
  have hi1:1≤i:=by
   grind
  have hik:i=k+1:=by
   have e1:k<i:=by
    grind
   rcases Nat.lt_or_ge (k+1) i with h|h
   ·have h3:=of_decide_eq_true (h1 (k+1) h)
    have h4:p.g.first (k+1)=p.g.first k+p.g.n k:=rfl
    omega
   omega
  have he:(i:Int)-1=((k:Nat):Int):=by omega
  have hx:p.g.parts[k]?=some (p.g.pt k):=jey hk
  have hsd:((s:Nat):Int)-((p.g.first k:Nat):Int)=(d:Nat):=by omega
  have hpt:(p.g.pt k).first=p.g.first k:=rfl
  have hf:=ok.g.first (Nat.le_of_lt hk)
  rw[he];refine ze ?_;clear hT T;simp only[Jm];refine zdK ?_;refine zn9 ?_;refine zo ?_;refine zan ?_;refine zhC ?_;refine zcI ?_;refine KD.v0 rfl rfl (Val.fieldSl (k:=1) rfl rfl) ?_;refine zlR ?_;refine zkF ?_;refine ziW ?_;refine zgF ?_;rw[hpt,hsd];exact zeX
open Go.RowKit
set_option maxRecDepth 10000
structure jl where
 st:Int
 slot:Int
 gen:Int
def enE:Enc jl:=⟨fun e=> [.int .i64 e.st, .int .i64 e.slot, .int .u32 e.gen],3,fun _=>rfl,by intro x v hv;simp at hv;rcases hv with rfl|rfl|rfl<;>rfl⟩
def j6 (s:Int) (l:List jl):Nat:=l.countP fun e=>decide (e.st=s)
structure TbM where
 b:Nat
 l:List jl
 gens:Int
 o:Own
def jK (t:TbM):jb:=(t.b,cells [oV t.o t.l.length, .int .i64 t.gens, .int .i64 (j6 0 t.l:Nat), .int .i64 (j6 1 t.l:Nat), .int .i64 (j6 2 t.l:Nat), .int .i64 (j6 3 t.l:Nat)] 229)::oH enE 226 t.l t.o
theorem Jr {t:TbM} {F:jb}:jK t++F=(t.b,cells [oV t.o t.l.length, .int .i64 t.gens, .int .i64 (j6 0 t.l:Nat), .int .i64 (j6 1 t.l:Nat), .int .i64 (j6 2 t.l:Nat), .int .i64 (j6 3 t.l:Nat)] 229)::(oH enE 226 t.l t.o++F):=rfl
structure TbOk (t:TbM):Prop where
 o:oOk enE t.l t.o
 n:1≤t.l.length∧t.l.length≤1024
 g:1≤t.gens∧t.gens≤2147483648
 e: ∀ e∈t.l,0≤e.st∧e.st<4∧1≤e.gen∧e.gen≤2147483648∧0≤e.slot∧e.slot≤1000000
theorem Mul_K {w0:World} {H:jb} (x y:Nat) (hx:x<18446744073709551616) (hy:y<18446744073709551616):
  Call Tryz.prog w0 165 [.int .u64 x, .int .u64 y] H (fun r H'=>r= .tuple #[.int .u64 ((x*y/18446744073709551616:Nat):Int), .int .u64 ((x*y%18446744073709551616:Nat):Int)]∧H'=H):=by
 refine⟨by rfl,fun w hw=>?_⟩;refine(Tryz.bits_Mul x y hx hy w).mono ?_;rintro e w' ⟨he,rfl⟩;exact⟨_,_,he,hw,rfl,rfl⟩
structure RqS where
 k:Nat
 zs:List jl
theorem jjT {α:Type} {n k j:Nat} {z:α} {zs:List α} (h:zs.length=n) (hk:k≤n) (ht:zs.take k=List.replicate k z) {ys:List α} (hy:ys=List.replicate j z):
  (jcx zs ys k).length=n∧(jcx zs ys k).take (k+min j (n-k))=List.replicate (k+min j (n-k)) z:=by
 subst hy;unfold jcx
 have e0:min (min j (n-k)) j=min j (n-k):=by omega
 simp only[List.length_replicate,h,List.take_replicate,ht,e0]
 constructor
 ·simp;omega
 ·rw[List.take_append_of_le_length (by simp),List.take_of_length_le (by simp),List.replicate_append_replicate]
set_option maxHeartbeats 1000000 in
theorem Repeat_K {w0:World} {H:jb} {v:Value} {z:jl} {n:Nat} (hS:Sli w0 H enE v [z]) (hn:n≤100000):
  Call Tryz.prog w0 135 [v, .int .i64 (n:Nat)] H (fun r H'=> ∃ o,oOk enE (List.replicate n z) o∧r=oV o (List.replicate n z).length∧H'=oH enE 226 (List.replicate n z) o++H):=by
 refine Call.enter2 (n:=48) (by kernel_rfl) Tryz.func135 rfl rfl rfl ?_;refine zai ?_;refine zW ?_;refine zba ?_;refine zco ?_;refine KL.v rfl (Val.convW rfl rfl rfl) ?_;refine zj ?_;refine zdr ?_;refine zu fun T hT=>?_;refine(CallV.fn (Mul_K 1 n (by omega) (by omega))).mono ?_;rintro _ H ⟨rfl,rfl⟩
 have e1:1*n/18446744073709551616=0:=by omega
 have e2:1*n%18446744073709551616=n:=by omega
 rw[e1,e2];refine ze ?_;clear hT T;refine zbi ?_;refine zaA ?_;refine zfw ?_;refine zax ?_;refine zZ ?_;refine zcs ?_;refine KL.e rfl (Eff.makeR (E:=enE) (x0:=⟨0,0,0⟩) rfl rfl rfl rfl rfl rfl (by omega)) ?_;rintro _ _ ⟨o30,ok30,rfl,rfl⟩;refine zay ?_;refine KL.e rfl (Eff.copyS0 rfl rfl rfl rfl jj (by assumption) (by first|exact Sli.blk ju rfl (by first|decide|simp) (by first|decide|(unfold maxLen;omega)) rfl|exact Sli.old (by assumption)|exact Sli.own jj (by assumption) jF|assumption|exact Sli.part (by assumption) ja)) ?_;rintro _ _ ⟨rfl,ok33,rfl⟩;refine zt ?_;refine KL.nil (KE.next (K.seq (K.block ?_)))
 have hc0:=jjT (k:=0) (j:=1) (z:=z) (zs:=List.replicate n (⟨0,0,0⟩:jl)) (n:=n) (by simp) (by omega) (by simp) (ys:=[z]) rfl
 refine K.loopT (σ:=RqS) [] (fun s kp_=>(8, .int .i64 (s.k:Nat))::(7,oV o30 s.zs.length)::kp_) (fun s=>oH enE 226 s.zs o30++H) (fun s=>s.zs.length=n∧s.k≤n∧s.zs.take s.k=List.replicate s.k z∧oOk enE s.zs o30∧(s.k=0→n=0)) (fun s=>n-s.k) (⟨min 1 n,jcx (List.replicate n ⟨0,0,0⟩) [z] 0⟩) jc ja (⟨hc0.1,by dsimp only;omega,by have:=hc0.2;simpa using this,ok33,by dsimp only;omega⟩) ?_;rintro⟨k,zs⟩ ⟨hl,hk,ht,ok,h0⟩;dsimp only at hl hk ht ok h0⊢
 by_cases hlt:k<n
 ·have hkl:k≤zs.length:=by omega
  have hkl':k<zs.length:=by omega
  have hsli:Sli w0 (oH enE 226 zs o30++H) enE (oV o30 zs.length) zs:=Sli.own JA.head ok rfl
  refine zlC ?_;refine KL.nil (KE.next (K.condT rfl (K.skip (KE.next (K.block ?_)))));refine zJ ?_
  (first|refine K.seq (K.drawn (H) [(0,1),(1,0),(2,0),(3,0),(4,0),(5,0),(6,0),(7,2),(8,0),(9,0)] (by kernel_rfl) (by kernel_rfl) (by kernel_rfl) (by kernel_rfl) (by kernel_rfl) (by kernel_rfl) ja ?_)|refine K.seq (K.seq (K.drawn (H) [(0,1),(1,0),(2,0),(3,0),(4,0),(5,0),(6,0),(7,2),(8,0),(9,0)] (by kernel_rfl) (by kernel_rfl) (by kernel_rfl) (by kernel_rfl) (by kernel_rfl) (by kernel_rfl) ja ?_))|refine K.drawn (H) [(0,1),(1,0),(2,0),(3,0),(4,0),(5,0),(6,0),(7,2),(8,0),(9,0)] (by kernel_rfl) (by kernel_rfl) (by kernel_rfl) (by kernel_rfl) (by kernel_rfl) (by kernel_rfl) ja ?_)
  refine zP ?_;refine zbo ?_
  (first|refine KD.v0 rfl rfl (Val.sliceL rfl rfl rfl jab rfl jO) ?_|refine KD.v0 rfl rfl (Val.sliceLZ rfl rfl rfl jab rfl (by omega)) ?_)
  refine zbo ?_;refine KD.v0 rfl rfl (Val.sliceH rfl rfl rfl jab rfl jO) ?_
  --STOP before op 7
  refine KD.e rfl rfl (Eff.copyS (E:=enE) (xs:=zs) (ys:=(zs.take k).drop 0) (o:=o30) (i:=k) rfl rfl rfl rfl rfl hkl JA.head ok (hsli.sub (Nat.zero_le _) hkl)) ?_;rintro _ _ ⟨rfl,ok',rfl⟩;refine⟨ja,?_⟩
  have hys:(zs.take k).drop 0=List.replicate k z:=by simpa using ht
  have hc:=jjT (j:=k) hl hk ht hys
  rw[hys] at ok' hc⊢;simp only[List.length_replicate]
  have hmin:min k (zs.length-k)+k≤n:=by omega
  (first|refine KD.v0 rfl rfl (Val.add rfl rfl (by simp only[qL,qH];omega)) ?_|refine KD.v0 rfl rfl (Val.addW rfl rfl) ?_)
  refine zcv ?_;refine zaw ?_;exact KE.again ⟨k+min k (zs.length-k),jcx zs (List.replicate k z) k⟩ jc ja ⟨hc.1,by dsimp only;omega,by have:=hc.2;rw [hl];exact this,ok',by dsimp only;omega⟩ (by dsimp only;omega)
 ·have hkn:k=n:=by omega
  subst hkn
  have hzs:zs=List.replicate k z:=by rw[←ht,List.take_of_length_le (by omega)]
  subst hzs;refine znG ?_;refine zin ?_;refine zib ?_;exact KE.fin je rfl jd ja ⟨o30,ok,rfl,rfl⟩
theorem cnt_rep (s:Int) (z:jl) (n:Nat):j6 s (List.replicate n z)=if z.st=s then n else 0:=by
 unfold j6;rw[List.countP_replicate]
 simp
theorem tbNew_K {w0:World} {H:jb} {n:Nat} {gens:Int} (hn:1≤n∧n≤1024) (hg:1≤gens∧gens≤2147483648):
  Call Tryz.prog w0 111 [.int .i64 (n:Nat), .int .i64 gens] H (fun r H'=> ∃ t,TbOk t∧t.l=List.replicate n ⟨0,0,1⟩∧t.gens=gens∧r= .tuple [.pointer (some ⟨t.b,0,none⟩), .int .i64 0].toArray∧H'=jK t++H):=by
 have h1: ¬((n:Nat):Int)<1:=by omega
 have h2: ¬((n:Nat):Int)>1024:=by omega
 refine Call.enter2 (n:=34) (by rfl) Tryz.func111 rfl rfl rfl ?_;refine zL ?_;refine zad ?_;refine zW ?_;refine zfw ?_;refine zh9 ?_;refine zX ?_;refine zaA ?_;refine zaX ?_;refine zbb ?_;refine zar ?_;intro b22;refine zn ?_;refine JY (Repeat_K (z:=⟨0,0,1⟩) (n:=n) (Sli.blk ju rfl (by simp) (by simp[maxLen]) rfl) (by omega)) ?_;rintro _ _ ⟨o,ko,rfl,rfl⟩;refine zj ?_;refine zci ?_;intro b27;refine zay ?_;refine zS ?_;refine zaz ?_;refine zi0 ?_;refine zgC ?_;refine zab ?_;refine KE.fin (H':=jK ⟨b27,List.replicate n ⟨0,0,1⟩,gens,o⟩++H) je rfl jd (by simp only[Jr,cnt_rep];exact ja) ⟨⟨b27,List.replicate n ⟨0,0,1⟩,gens,o⟩,⟨ko,by grind,hg,fun e he=>?_⟩,rfl,rfl,rfl,rfl⟩
 grind
section
variable {w0 : World} {F : jb} {t : TbM}
theorem jkV (ok:TbOk t):Call Tryz.prog w0 170 [.pointer (some ⟨t.b,0,none⟩)] (jK t++F) (fun r H'=>r= .bool false∧H'=jK t++F):=by
 have ho:=ok.o
 have hn:=ok.n
 have hne: ¬((t.l.length:Nat):Int)=0:=by omega
 refine Call.enter1 (n:=13) (by rfl) Tryz.func170 rfl rfl rfl ?_;simp only[Jr];refine zfx ?_;refine ze9 ?_;refine zC ?_;refine zcA ?_;exact zcu
theorem ji0 (ok:TbOk t):Call Tryz.prog w0 138 [.pointer (some ⟨t.b,0,none⟩)] (jK t++F) (fun r H'=>r= .int .i64 (t.l.length:Nat)∧H'=jK t++F):=by
 have ho:=ok.o
 refine Call.enter1 (n:=10) (by rfl) Tryz.func138 rfl rfl rfl ?_;refine zaf ?_;refine jp (jkV ok) ?_;simp only[Jr];refine zas ?_;refine zN ?_;refine zdL ?_;exact zcu
end
open Go.RowKit
set_option maxRecDepth 100000
set_option maxHeartbeats 4000000
theorem frombits_V {w0:World} {H:jb} (n:Int):CallV Tryz.prog w0 (.func (.func 312) #[] #[]) [.int .u64 n] H (fun r H'=>r= .float .f64 n.toNat∧H'=H):=
 CallV.extern (e:=Extern.MathFloatBits.float64frombits) Tryz.func312 (by rfl) (by rfl) (by rfl) (by rfl) (fun w=>rfl)
theorem bits_V {w0:World} {H:jb} (b:Nat):CallV Tryz.prog w0 (.func (.func 275) #[] #[]) [.float .f64 b] H (fun r H'=>r= .int .u64 b∧H'=H):=
 CallV.extern (e:=Extern.MathFloatBits.float64bits) Tryz.func275 (by rfl) (by rfl) (by rfl) (by rfl) (fun w=>rfl)
set_option maxRecDepth 10000 in
theorem jiA {w0:World} {H:jb} (n:Int):Call Tryz.prog w0 273 [.int .u64 n] H (fun r H'=>r= .float .f64 n.toNat∧H'=H):=by
 refine Call.enter1 (n:=5) (by kernel_rfl) Tryz.func273 rfl rfl rfl ?_;refine zfT ?_;refine zu fun T hT=>?_;refine(frombits_V n).mono ?_;rintro _ _ ⟨rfl,rfl⟩;refine ze ?_;clear hT T;exact zq
set_option maxRecDepth 10000 in
theorem Canon_K {w0:World} {H:jb} (n:Nat):Call Tryz.prog w0 274 [.int .u64 n] H (fun r H'=>r= .int .u64 (canonN (fl n))∧H'=H):=by
 refine Call.enter1 (n:=10) (by kernel_rfl) Tryz.func274 rfl rfl rfl ?_;refine zai ?_;refine zu fun T hT=>?_;refine(CallV.fn (jiA n)).mono ?_;rintro _ _ ⟨rfl,rfl⟩;rw[show((n:Int)).toNat=n by omega]
 cases hf:fl n with
 |none=>
  have hi:(fl n).isNone=true:=by rw[hf];rfl
  refine ze ?_;clear hT T;refine zht ?_;refine KL.v rfl (Val.neqFS rfl rfl) ?_;refine zR ?_;rw[hi];refine zhP ?_;refine zaE ?_;exact zdq
 |some c=>
  have hi:(fl n).isNone=false:=by rw[hf];rfl
  have hc:=jjh hf
  subst hc;refine ze ?_;clear hT T;refine zht ?_;refine KL.v rfl (Val.neqFS rfl rfl) ?_;refine zR ?_;rw[hi];refine zgP ?_;refine zj ?_;refine zm ?_;exact zdq
structure SuS where
 k:Nat
 r:Nat
set_option maxRecDepth 10000 in
theorem Sum_K {w0:World} {H:jb} {v:Value} {l:List Int} (hS:Sli w0 H uE v l) (hl:l.length≤1000000):
  Call Tryz.prog w0 213 [v] H (fun r H'=>r= .int .u64 (Go.Proofs.YtebiafomiemgbaaGreatDoor.sumP l)∧H'=H):=by
 refine Call.enter1 (n:=28) (by kernel_rfl) Tryz.func213 rfl rfl rfl ?_
 cases l with
 |nil=>
  have h0:((List.length ([]:List Int):Nat):Int)=0:=rfl
  refine zrN ?_;refine zeF ?_;exact zaL
 |cons x l=>
  have hx:(x::l)[0]?=some x:=rfl
  have hx0:(x::l)[Int.toNat 0]?=some x:=rfl
  have hne: ¬(((x::l).length:Nat):Int)=0:=by simp only[List.length_cons];omega
  have hS1:Sli w0 H uE (subV v (Int.toNat 1) (x::l).length uE.sz) l:=by
   have:=hS.sub (l:=1) (h:=(x::l).length) (by simp) (Nat.le_refl _)
   simpa using this
  have hl':l.length≤1000000:=by simp only[List.length_cons] at hl;omega
  refine zrN ?_;refine zC ?_;refine zba ?_;refine zn4 ?_;refine zdm ?_;refine zu fun T hT=>?_;refine(CallV.fn (jiA x)).mono ?_;rintro _ H ⟨rfl,rfl⟩;refine ze ?_;clear hT T;refine zad ?_;refine KL.v rfl (Val.sliceLZ rfl rfl rfl jab rfl (by omega)) ?_;refine zcm ?_;refine K.loopT (σ:=SuS) [(14,_),(15,_)] (fun s kp_=>(16, .int .i64 (s.k:Nat))::(3, .float .f64 s.r)::kp_) (fun s=>H) (fun s=>s.k≤l.length∧fl s.r=(l.take s.k).foldl (fun a w=>addF a (fl w.toNat)) (fl x.toNat)) (fun s=>l.length-s.k) (⟨0,x.toNat⟩) jc ja (⟨by simp,by simp⟩) ?_;rintro⟨k,r⟩ ⟨hk,hr⟩;dsimp only at hk hr⊢
  by_cases hlt:k<l.length
  ·obtain⟨y,hy⟩:=jh hlt
   refine zhq ?_;refine zfi ?_;refine za9 fun T hT=>?_;refine(CallV.fn (jiA y)).mono ?_;rintro _ H ⟨rfl,rfl⟩;refine ze ?_;clear hT T;refine KL.e rfl (Eff.fadd rfl rfl) ?_;rintro _ _ ⟨f23,fb23,fe23,rfl,rfl⟩;refine zaK ?_;refine zb0 ?_;exact KE.again ⟨k+1,f23⟩ jc ja ⟨by show k+1≤_;omega,by show fl f23=_;rw [fe23,hr,J2 hy,List.foldl_append];rfl⟩ (by show l.length-(k+1)<l.length-k;omega)
  ·have hkl:l.take k=l:=List.take_of_length_le (by omega)
   rw[hkl] at hr;refine zc5 ?_;refine zV ?_;refine zz fun T hT=>?_;refine(bits_V r).mono ?_;rintro _ H ⟨rfl,rfl⟩;refine ze ?_;clear hT T;refine zu fun T hT=>?_;refine(CallV.fn (Canon_K r)).mono ?_;rintro _ H ⟨rfl,rfl⟩;refine ze ?_;clear hT T;refine zm ?_;exact KE.fin je rfl jd ja ⟨by rw[hr];rfl,rfl⟩
end Go.Proofs.YtebiafomiemgbaaGreatDoor.Sw
