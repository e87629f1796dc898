/-The walker and the contracts that the law needs,part 31. -/
import Derived.Test.YtldomapkmopomaaGreatDoorD1
import Derived.ArgAppend
import Derived.ChangeMaps5
import Derived.Deep.Fields
import Derived.Deep.LoopGhost
import Derived.Deep.OwnRows
import Derived.Deep.Quiet
import Derived.Deep.Slices
import Derived.IntWalk
import Derived.Laws.Cells
import Derived.Laws.CopyOwn
import Derived.Laws.Externs
import Derived.Laws.FloatArith
import Derived.Laws.IdiomStrings
import Derived.Laws.NewFold
import Derived.Laws.StructEq
import Derived.Lib.BitFns
import Derived.Lib.Hide
import Derived.Lib.SmallJoins
import Derived.Lib.TrailingZeros
import Derived.Maps.RangeRun
import Derived.OrdersIn
import Derived.ProofKit
import Derived.RangeFuncBound
import Derived.RangeFuncCalls
import Derived.RangeFuncLeaves
import Derived.RangeFuncNested
import Derived.RecoverIn
import Derived.Shelf.Bits.Mul64
import Derived.Shelf.Slices.Turned
import Derived.Shelf.Spec.TrailingZeros
import Derived.Shelf.Strconv.Itoa0
import Derived.SizedLaws
import Derived.Sort.BigQuietIn
import Derived.StillTailTactics
import Derived.Test.YtldomapkmopomaaGreatDoorProg
import Derived.WalkKit
import Derived.Test.YtldomapkmopomaaGreatDoorJ30
set_option linter.unusedVariables false set_option linter.unusedSimpArgs false namespace Go.Proofs.YtldomapkmopomaaGreatDoor.Sw
set_option maxHeartbeats 8000000
open Go.Proofs.YtldomapkmopomaaGreatDoor renaming lo → qL, hi → qH
open Go.RowKit
set_option linter.unusedVariables false
set_option linter.unusedSimpArgs false
set_option maxRecDepth 10000
theorem rTotal_K {w0:World} {H:jb} {c:Cfg} {vc vt:Value} (hR:j1 w0 H c vc vt):
  Call Tryz.prog w0 47 [jt c vc vt] H (fun r H'=>r=prV (totalP c)∧H'=H):=by
 have hb0:=fun A (hp:Part A H)=>rBase_K (t:=(c.tn.length:Nat)-1) (hR.part hp)
 have hr0:=fun A (hp:Part A H)=>jcE (t:=(c.tn.length:Nat)-1) (hR.part hp)
 cases hc:jT c with
 |false=>
  obtain⟨hS,hT',o1,o2,l1,l2⟩:=hR
  have he:totalP c=(0,2):=by simp[totalP,hc]
  have hb:jaU c ((c.tn.length:Nat)-1)=(0,2):=by simp[jaU,thereP,hc]
  rw[hb] at hb0;rw[he];clear hr0 hb
  obtain⟨cl,page,tn,workers,grey,gens⟩:=c
  dsimp only at hS hT' l1 l2 he hb0;simp only[jt,jJ,prV] at hb0⊢;refine Call.enter1 (n:=32) (by kernel_rfl) Tryz.func47 rfl rfl rfl ?_;refine yr2 ?_;refine ze ?_;intro b1;refine yq11 fun T hT=>?_;refine(CallV.fn (hb0 _ ja)).mono ?_;rintro _ _ ⟨rfl,rfl⟩;refine za ?_;clear hT T;refine yr24 ?_;exact zd
 |true=>
  have hok:=(jar hc).tn
  obtain⟨m,hm⟩: ∃ m,c.tn.length=m+1:=⟨c.tn.length-1,by omega⟩
  have hml:m<c.tn.length:=by omega
  have hmi:((c.tn.length:Nat):Int)-1=(m:Nat):=by omega
  have hb:jaU c ((c.tn.length:Nat)-1)=(sumN (fun i=>wordsP c (i:Nat)) m,0):=by rw[hmi];exact jgd hc hml
  have hr:regionP c ((c.tn.length:Nat)-1)=(wordsP c (m:Nat),0):=by rw[hmi];exact jd3 hc hml
  have hB:=fun k (hk:k<c.tn.length)=>jcJ hc hk
  have he:totalP c=(sumN (fun i=>wordsP c (i:Nat)) m+wordsP c (m:Nat),0):=by simp only[totalP,hc,if_true,hm];rfl
  have hb1:=jbW (f:=fun i=>wordsP c (i:Nat)) (n:=m) (fun k hk=>hB k (by omega))
  have hb2:=hB m hml
  rw[hb] at hb0;rw[hr] at hr0;rw[he]
  obtain⟨a,ha⟩: ∃ a,a=sumN (fun i=>wordsP c (i:Nat)) m:=⟨_,rfl⟩
  obtain⟨b,hb'⟩: ∃ b,b=wordsP c (m:Nat):=⟨_,rfl⟩
  rw[←ha] at hb0 hb1⊢;rw[←hb'] at hr0 hb2⊢;clear ha hb' hb hr he hB
  obtain⟨hS,hT',o1,o2,l1,l2⟩:=hR
  obtain⟨cl,page,tn,workers,grey,gens⟩:=c
  dsimp only at hS hT' l1 l2 hok hb0 hr0 hm hml hmi⊢;simp only[jt,jJ,prV] at hb0 hr0⊢;refine Call.enter1 (n:=32) (by kernel_rfl) Tryz.func47 rfl rfl rfl ?_;refine yr2 ?_;refine ze ?_;intro b1;refine yq11 fun T hT=>?_;refine(CallV.fn (hb0 _ ja)).mono ?_;rintro _ _ ⟨rfl,rfl⟩;refine za ?_;clear hT T;refine yq24 fun T hT=>?_;refine(CallV.fn (hr0 _ ja)).mono ?_;rintro _ _ ⟨rfl,rfl⟩;refine za ?_;clear hT T;refine yr17 ?_;exact zd
set_option maxRecDepth 10000
def DmJ (l D:Nat) (rc:Rec) (b2:Nat) (bs:List Bool) (k:Nat) (A:jb):Prop:=
 ∃ o,oOk iE (idxTo bs k) o∧A=(l, .loop (rc .ready none))::(D, .deferred (some []))::(b2,cells [oV o (idxTo bs k).length] 22)::oH iE 3 (idxTo bs k) o
theorem AppendSeq_K {w0:World} {F:jb} {s:SpM} {bl n:Nat} (hG:jw w0) (ok:SpOk s n):
  Call Tryz.prog w0 220 [.slice none 0 0, .func (.func 221) #[] [.pointer (some ⟨bl,0,none⟩)].toArray] ((bl,cells [.pointer (some ⟨s.b,0,none⟩)] 78)::(j8 s++F))
   (fun r H'=> ∃ o,oOk iE (idxP s.d.bs) o∧r=oV o (idxP s.d.bs).length∧H'=oH iE 3 (idxP s.d.bs) o++(j8 s++F)):=by
 have hn:=ok.d.n
 refine Call.enter2 (n:=13) (by kernel_rfl) Tryz.func220 rfl rfl rfl ?_;refine yr2 ?_;refine ze ?_;intro b2;refine yr10 ?_;refine K.rangeFunc (lb:=[.pointer (some ⟨bl,0,none⟩)]) rfl
  (fun D G=> ∃ o,oOk iE (idxP s.d.bs) o∧G=(D, .deferred (some []))::(b2,cells [oV o (idxP s.d.bs).length] 22)::(oH iE 3 (idxP s.d.bs) o++(j8 s++F)))
  (fun D c G=>False) ?_ ?_ ?_
 ·intro l D rc hyl;refine(Call.part (all1_K (F:=F) (s_:=s) (bl:=bl) hG ok (DmJ l D rc b2 s.d.bs) (A0:=(l, .loop (rc .ready none))::(D, .deferred (some []))::(b2,cells [.slice none 0 0] 22)::[]) ?_ ⟨none,rfl,rfl⟩) (by simp only[List.cons_append,List.nil_append];exact ja)).mono ?_
  ·rintro k i A ⟨o,ko,rfl⟩ hnx
   obtain⟨n1,n2,n3,n4⟩:=jaZ hnx
   have hnext:=idxTo_next hnx
   have hlen:=jdh s.d.bs k
   have hlen2:=jdh s.d.bs (i+1)
   have hbd:(idxTo s.d.bs (i+1)).length≤4294967296:=by omega
   simp only[List.cons_append];refine zcS ?_;refine zk ?_;refine yr4 ?_
   skip
   refine zk ?_;refine yr2 ?_;refine zt ?_;intro b10;refine KL.e rfl (Eff.appZ (E:=iE) (xs:=idxTo s.d.bs k) (o:=o) (ys:=[((i:Nat):Int)]) (zs:=idxTo s.d.bs (i+1)) rfl rfl rfl rfl rfl rfl jh (by assumption) (by first|exact Sli.blk jq rfl (by first|decide|simp) (by first|decide|(unfold maxLen;omega)) rfl|exact Sli.old (by assumption)|exact Sli.own jh (by assumption) jG|assumption|exact Sli.part (by assumption) ja) (hnext) (by first|assumption|omega|(simp<;>fail)|(simp;omega)) rfl) ?_;rintro _ _ ⟨o',ok',rfl,rfl⟩;refine yr3 ?_;refine KE.part ((l, .loop (rc .busy none))::((D, .deferred (some []))::(b2,cells [oV o' (idxTo s.d.bs (i+1)).length] 22)::oH iE 3 (idxTo s.d.bs (i+1)) o')++((bl,cells [.pointer (some ⟨s.b,0,none⟩)] 78)::(j8 s++F))) (by simp only[List.cons_append];exact ja) ?_;exact KE.roundN jH.head ⟨rfl,_,⟨o',ok',rfl⟩,rfl⟩
  ·rintro u H' ⟨A',rfl,k,hk,o,ko,rfl⟩
   have he:=idxTo_end hk
   rw[he] at ko⊢;refine .inl ⟨_,?_,o,ko,rfl⟩;simp only[List.cons_append];exact ja
 ·rintro D G ⟨o,ko,rfl⟩;refine yr9 ?_;exact zb1
 ·rintro D c G hf;exact hf.elim
theorem Collect_K {w0:World} {F:jb} {s:SpM} {bl n:Nat} (hG:jw w0) (ok:SpOk s n):
  Call Tryz.prog w0 151 [.func (.func 221) #[] [.pointer (some ⟨bl,0,none⟩)].toArray] ((bl,cells [.pointer (some ⟨s.b,0,none⟩)] 78)::(j8 s++F))
   (fun r H'=> ∃ o,oOk iE (idxP s.d.bs) o∧r=oV o (idxP s.d.bs).length∧H'=oH iE 3 (idxP s.d.bs) o++(j8 s++F)):=by
 refine Call.enter1 (n:=5) (by kernel_rfl) Tryz.func151 rfl rfl rfl ?_;refine yq8 fun T hT=>?_;refine(CallV.fn (AppendSeq_K hG ok)).mono ?_;rintro _ _ ⟨o,ko,rfl,rfl⟩;refine za ?_;clear hT T;refine yr4 ?_;exact zb1
theorem spDoomed_K {w0:World} {F:jb} {s:SpM} {n:Nat} (hG:jw w0) (ok:SpOk s n):
  Call Tryz.prog w0 75 [.pointer (some ⟨s.b,0,none⟩)] (j8 s++F)
   (fun r H'=> ∃ o,oOk iE (idxP s.d.bs) o∧r=oV o (idxP s.d.bs).length∧H'=oH iE 3 (idxP s.d.bs) o++(j8 s++F)):=by
 refine Call.enter1 (n:=6) (by kernel_rfl) Tryz.func75 rfl rfl rfl ?_;refine yq8 fun T hT=>?_;refine(CallV.fn (spall_K (b:=s.b))).mono ?_;rintro _ _ ⟨bl,rfl,rfl⟩;refine za ?_;clear hT T;refine zz fun T hT=>?_;refine(CallV.fn (Collect_K hG ok)).mono ?_;rintro _ _ ⟨o,ko,rfl,rfl⟩;refine za ?_;clear hT T;refine yr4 ?_;exact zb1
set_option maxRecDepth 10000
structure FnP where
 f:FuncId
 first:List Value
 cap:List Value
def fnE:Enc FnP:=⟨fun x=> [.func (.func x.f) x.first.toArray x.cap.toArray],1,fun _=>rfl,by intro x v hv;simp at hv;subst hv;rfl⟩
theorem all_next (q:Nat→Bool) (k:Nat):(List.range (k+1)).all q=((List.range k).all q&&q k):=by simp[List.range_succ,List.all_append]
theorem all_not {q:Nat→Bool} {k n:Nat} (hk:k<n) (h:q k=false):(List.range n).all q=false:=by
 cases hc:(List.range n).all q with
 |false=>rfl
 |true=>rw [List.all_eq_true] at hc;rw [hc k (List.mem_range.2 hk)] at h;cases h
structure HoS where
 k:Nat
theorem hold_K {w0:World} {H:jb} {v:Value} {l:List FnP} {z:Int} (q:Nat→Bool) (hS:Sli w0 H fnE v l) (hl:l.length≤1000)
  (hy: ∀ i x,l[i]?=some x→CallV Tryz.prog w0 (.func (.func x.f) x.first.toArray x.cap.toArray) [.int .i64 z] H (fun r H'=>r= .bool (q i)∧H'=H)):
  Call Tryz.prog w0 210 [.int .i64 z,v] H (fun r H'=>r= .bool ((List.range l.length).all q)∧H'=H):=by
 refine Call.enter2 (n:=18) (by kernel_rfl) Tryz.func210 rfl rfl rfl ?_;refine yr14 ?_;refine K.loopT (σ:=HoS) [(0,_),(7,_),(8,_)] (fun s kp_=>(9, .int .i64 (s.k:Nat))::kp_) (fun s=>H) (fun s=>s.k≤l.length∧(List.range s.k).all q=true) (fun s=>l.length-s.k) (⟨0⟩) jg ja (⟨Nat.zero_le _,rfl⟩) ?_;rintro⟨k⟩ ⟨hk,hq⟩;dsimp only at hk hq⊢
 by_cases hlt:k<l.length
 ·obtain⟨x,hx⟩:=jn hlt
  have hyk:=hy k x hx
  refine yq22 fun T hT=>?_;refine hyk.mono ?_;refine zq ?_
  cases hqk:q k with
  |true=>
   have hq':(List.range (k+1)).all q=true:=by rw[all_next,hq,hqk];rfl
   refine za ?_;clear hT T;refine yr11 ?_;exact KE.again ⟨k+1⟩ jg ja ⟨hlt,hq'⟩ (by show l.length-(k+1)<l.length-k;omega)
  |false=>
   have hr:=all_not hlt hqk
   refine za ?_;clear hT T;rw[hr];refine yr15 ?_;exact zd
 ·have:k=l.length:=by omega
  subst this;rw[hq];refine yr18 ?_;exact zd
theorem step1_K {w0:World} {F:jb} {s:SpM} {k:MkM} {p:jO} {b1 i:Nat} {c:Int} (ok:MkOk k p) (hc:(tiC k.c)[i]?=some c) (hm:s.mb=k.b):
  Call Tryz.prog w0 211 [.int .i64 (i:Nat), .pointer (some ⟨b1,0,none⟩)] ((b1,cells [.pointer (some ⟨s.b,0,none⟩)] 78)::(j8 s++(jk k p++F)))
   (fun r H'=>r= .bool (decide (c=0))∧H'=(b1,cells [.pointer (some ⟨s.b,0,none⟩)] 78)::(j8 s++(jk k p++F))):=by
 refine Call.enter2 (n:=17) (by kernel_rfl) Tryz.func211 rfl rfl rfl ?_;simp only[sweepH_app,hm];refine yq12 fun T hT=>?_;refine(CallV.part (CallV.fn (jbF ok hc)) ja).mono ?_;refine zc ?_;clear hT T;refine yr15 ?_;exact zd
section
variable {w0 : World} {F : jb} {s : SpM} {a : ArM} {B : BoM} {k : MkM} {x : List Int} {n : Nat}
def goneC (a:ArM) (i:Nat) (c:Int):Bool:=(a.r.bs[i]?).getD false&&decide (c=0)
theorem spStep_K {y:ju} {c:Int} (ok:SpOk s B.p.g.slots) (oka:JW a B.p) (okB:jaq B x) (okk:MkOk k B.p) (h1:s.act=true) (hy:B.p.g.L[s.at_]?=some y) (hc:(tiC k.c)[s.at_]?=some c) (e1:s.ab=a.b) (e2:s.bb=B.b) (e3:s.mb=k.b):
  Call Tryz.prog w0 136 [.pointer (some ⟨s.b,0,none⟩)] (j8 s++(jR a B.p++(jX B++(jx B.m++(planH B.p++(jk k B.p++F))))))
   (fun r H'=>r= .bool true∧H'=if goneC a s.at_ c=true then j8 {s with d:=Jr s.d s.at_ true,at_:=s.at_+1}++(jR a B.p++(jX B++(jx (J4 B.m B.t (Jo x y))++(planH B.p++(jk k B.p++F))))) else j8 {s with at_:=s.at_+1}++(jR a B.p++(jX B++(jx B.m++(planH B.p++(jk k B.p++F)))))):=by
 have hil:s.at_<B.p.g.slots:=by rw[←jah];exact jl hy
 have hs16:=okB.p.g.slots.2
 have hdl:s.at_<s.d.bs.length:=by rw[ok.dn];exact hil
 have hd:ja6 s=false:=by
  unfold ja6;rw [h1,decide_eq_false (by omega)];rfl
 have okd:=ok.d
 have he:((s.at_:Nat):Int)+1=((s.at_+1:Nat):Int):=by omega
 have hgb:getB a.r.bs (s.at_:Nat)=(a.r.bs[s.at_]?).getD false:=jcX
 obtain⟨v,hv⟩: ∃ v,v=(a.r.bs[s.at_]?).getD false:=⟨_,rfl⟩
 have hgone:goneC a s.at_ c=(v&&decide (c=0)):=by unfold goneC;rw [hv]
 rw[←hv] at hgb
 obtain⟨sb,sd,sat,sact,sab,sbb,smb⟩:=s
 dsimp only at e1 e2 e3 h1 hy hc hil hdl hd okd he hgb hv hgone⊢;subst e1 e2 e3 h1;rw[hgone];refine Call.enter1 (n:=47) (by kernel_rfl) Tryz.func136 rfl rfl rfl ?_;refine yr2 ?_;refine ze ?_;intro b1;refine yq7 fun T hT=>?_;refine(CallV.part (CallV.fn (jeP (s:=⟨sb,sd,sat,true,a.b,B.b,k.b⟩))) ja).mono ?_;refine zc ?_;clear hT T;refine yq5 fun T hT=>?_;refine(CallV.part (CallV.fn (jfr (s:=⟨sb,sd,sat,true,a.b,B.b,k.b⟩))) ja).mono ?_;refine zq ?_;rw[hd];refine za ?_;clear hT T;simp only[sweepH_app];refine yr8 ?_;refine K.drawn _ [(0,1),(1,1),(2,1),(3,1),(4,0),(5,0),(6,0),(7,0),(8,0),(9,0),(10,2),(11,2)] (by kernel_rfl) (by kernel_rfl) (by kernel_rfl) (by kernel_rfl) (by kernel_rfl) (by kernel_rfl) Part.all ?_;refine zx ?_;refine ze6 ?_;refine KD.v1 rfl rfl (Val.fieldAddr0 (k:=4) rfl rfl) ?_;refine zx ?_;refine zaa ?_;refine zQ ?_;refine zcG ?_;refine zcG ?_;refine zdh ?_;intro b20;refine zW ?_;refine zi fun T hT=>?_
 have hall:(List.range 2).all (fun i=>if i=0 then v else decide (c=0))=(v&&decide (c=0)):=by
  show(v&&(decide (c=0)&&true))=_
  rw[Bool.and_true]
 refine(CallV.part (CallV.fn (hold_K (H:=(b20,cells [.func (.func 35) #[.pointer (some ⟨a.b,0,none⟩)] #[], .func (.func 211) #[] #[.pointer (some ⟨b1,0,none⟩)]] 103)::(b1,cells [.pointer (some ⟨sb,0,none⟩)] 78)::(j8 ⟨sb,sd,sat,true,a.b,B.b,k.b⟩++(jR a B.p++(jX B++(jx B.m++(planH B.p++(jk k B.p++F)))))))
  (l:=[⟨35,[.pointer (some ⟨a.b,0,none⟩)],[]⟩,⟨211,[],[.pointer (some ⟨b1,0,none⟩)]⟩]) (z:=(sat:Nat)) (fun i=>if i=0 then v else decide (c=0)) (Sli.blk jq rfl (by simp) (by decide) rfl) (by simp) ?_)) (by simp only[sweepH_app];exact ja)).mono ?_
 ·intro i f hf
  match i,hf with
  |0,hf=>
   cases hf
   refine CallV.bound (first:=[.pointer (some ⟨a.b,0,none⟩)]) ?_
   have h:=Call.ro (w0:=w0) (A:=jR a B.p) (H:=(b20,cells [.func (.func 35) #[.pointer (some ⟨a.b,0,none⟩)] #[], .func (.func 211) #[] #[.pointer (some ⟨b1,0,none⟩)]] 103)::(b1,cells [.pointer (some ⟨sb,0,none⟩)] 78)::(j8 ⟨sb,sd,sat,true,a.b,B.b,k.b⟩++(jR a B.p++(jX B++(jx B.m++(planH B.p++(jk k B.p++F))))))) (fun F=>Has_K (F:=F) (i:=(sat:Nat)) oka) ja
   rw[hgb] at h;exact h
  |1,hf=>
   cases hf
   refine CallV.clo (cap:=[.pointer (some ⟨b1,0,none⟩)]) ?_
   exact Call.ro (w0:=w0) (A:=(b1,cells [.pointer (some ⟨sb,0,none⟩)] 78)::(j8 ⟨sb,sd,sat,true,a.b,B.b,k.b⟩++jk k B.p)) (fun F=>by
    simp only[List.cons_append,List.append_assoc]
    exact step1_K (s:=⟨sb,sd,sat,true,a.b,B.b,k.b⟩) okk hc rfl) ja
  |i+2,hf=>simp at hf
 ·refine zq ?_;rw[show([⟨35,[.pointer (some ⟨a.b,0,none⟩)],[]⟩,⟨211,[],[.pointer (some ⟨b1,0,none⟩)]⟩]:List FnP).length=2 from rfl,hall]
  cases hg:(v&&decide (c=0)) with
  |true=>
   refine zh ?_;clear hT T;simp only[sweepH_app];refine zp ?_;refine yr3 ?_;refine zcK ?_;refine zaa ?_;refine zB ?_;refine zaa ?_;refine zan ?_;refine zi fun T hT=>?_;refine(CallV.part (CallV.fn (bWipe_K okB hy)) ja).mono ?_;refine zl ?_;clear hT T;refine zp ?_;refine yr1 ?_;refine zcK ?_;refine zaa ?_;refine zc6 ?_;refine zaa ?_;refine zan ?_;refine zi fun T hT=>?_;refine(CallV.part (CallV.fn (Set_K (v:=true) okd hdl)) ja).mono ?_;refine zl ?_;clear hT T;refine zp ?_;refine yr19 ?_;rw[he,if_pos hg];exact zd
  |false=>
   refine zh ?_;clear hT T;simp only[sweepH_app];refine zp ?_;refine yr22 ?_;rw[he,if_neg (by rw[hg];decide)];exact zd
end
open Go.RowKit
set_option maxRecDepth 10000
theorem spStop_K {w0:World} {F:jb} {s:SpM} {a:ArM} {p:jO} (hG:jw w0) (ok:SpOk s p.g.slots) (oka:JW a p) (h:ja6 s=true) (e1:s.ab=a.b):Call Tryz.prog w0 72 [.pointer (some ⟨s.b,0,none⟩)] (j8 s++(jR a p++(planH p++F)))
  (fun r H'=>r= .tuple [.int .i64 (s.d.bs.count true:Nat), .int .i64 0].toArray∧ ∃ (a':ArM) (s':SpM),JW a' p∧a'.b=a.b∧a'.r.b=a.r.b∧a'.r.bs=(J0 a.r.bs s.d.bs).2∧SpOk s' p.g.slots∧s'.b=s.b∧s'.ab=s.ab∧s'.bb=s.bb∧s'.mb=s.mb∧s'.at_=0∧s'.act=false∧s'.d.bs=List.replicate p.g.slots false∧H'=j8 s'++(jR a' p++(planH p++F))):=by
 have okd:=ok.d
 have hl:s.d.bs.length=a.r.bs.length:=by rw[ok.dn,oka.n]
 have hdn:=ok.dn
 obtain⟨sb,sd,sat,sact,sab,sbb,smb⟩:=s
 dsimp only at e1 okd hl hdn⊢;subst e1;refine Call.enter1 (n:=37) (by kernel_rfl) Tryz.func72 rfl rfl rfl ?_;refine yq11 fun T hT=>?_;refine(CallV.part (CallV.fn (jeg (s:=⟨sb,sd,sat,sact,a.b,sbb,smb⟩))) ja).mono ?_;refine zc ?_;clear hT T;refine yq7 fun T hT=>?_;refine(CallV.part (CallV.fn (jfr (s:=⟨sb,sd,sat,sact,a.b,sbb,smb⟩))) ja).mono ?_;refine zq ?_;rw[h];refine za ?_;clear hT T;simp only[sweepH_app];refine yq14 fun T hT=>?_;refine(CallV.part (CallV.fn (Count_K okd)) ja).mono ?_;refine zc ?_;clear hT T;refine yr4 ?_;refine zcK ?_;refine zau ?_;refine zaW ?_;refine zi fun T hT=>?_;refine(CallV.part (CallV.fn (GiveAll_K hG oka okd hl)) ja).mono ?_;rintro _ _ ⟨rfl,a',ka,ab,arb,abs,rfl⟩;refine zh ?_;clear hT T;refine zp ?_;refine yq7 fun T hT=>?_;refine(CallV.part (CallV.fn (Clear_K okd)) ja).mono ?_;rintro _ _ ⟨rfl,r',kr,rb,rbs,rfl⟩;refine za ?_;clear hT T;refine yr22 ?_;rw[hdn] at rbs;rw[←rb];exact KE.fin (H':=j8 ⟨sb,r',0,false,a.b,sbb,smb⟩++(jR a' p++(planH p++F))) jd rfl jc (by simp only[sweepH_app];exact ja) ⟨rfl,a',⟨sb,r',0,false,a.b,sbb,smb⟩,ka,ab,arb,abs,⟨kr,by simp[rbs],Nat.zero_le _⟩,rfl,rfl,rfl,rfl,rfl,rfl,rbs,by simp only[sweepH_app]⟩
theorem spNew_K {w0:World} {F:jb} {a:ArM} {B:BoM} {k:MkM} {x:List Int} (hG:jw w0) (oka:JW a B.p) (okB:jaq B x) (okk:MkOk k B.p):
  Call Tryz.prog w0 63 [.pointer (some ⟨B.p.b,0,none⟩), .pointer (some ⟨a.b,0,none⟩), .pointer (some ⟨B.b,0,none⟩), .pointer (some ⟨k.b,0,none⟩)] (jR a B.p++(jX B++(jx B.m++(planH B.p++(jk k B.p++F)))))
   (fun r H'=> ∃ s:SpM,SpOk s B.p.g.slots∧s.ab=a.b∧s.bb=B.b∧s.mb=k.b∧s.at_=0∧s.act=false∧s.d.bs=List.replicate B.p.g.slots false∧r= .tuple [.pointer (some ⟨s.b,0,none⟩), .int .i64 0].toArray∧H'=j8 s++(jR a B.p++(jX B++(jx B.m++(planH B.p++(jk k B.p++F)))))):=by
 have okp:=okB.p
 have hs:=okp.g.slots
 obtain⟨y,hy⟩:=Jg (g:=B.p.g) (i:=0) (by omega)
 have hne: ¬((B.p.g.slots:Nat):Int)=0:=by omega
 obtain⟨cc,hcc⟩:=jcQ okk (s:=0) (by omega)
 have hhead:=fun A=>jdN (w0:=w0) (F:=A) (s:=0) hG okB hy
 have hhv: ∃ c r w e,headV (headP x y)= .tuple [.agg [.int .i64 c, .int .i64 r, .int .i64 w].toArray, .int .i64 e].toArray∧e≠1:=by
  unfold headV
  cases headP x y with
  |none=>exact⟨0,0,0,5,rfl,by decide⟩
  |some h=>exact⟨h.c,h.r,h.w,0,rfl,by decide⟩
 obtain⟨c,r,w,e,hev,hen⟩:=hhv
 simp only[hev] at hhead
 have hen': ¬e=1:=hen
 refine Call.enter4 (n:=55) (by kernel_rfl) Tryz.func63 rfl rfl rfl ?_;refine yq9 fun T hT=>?_;refine zaH ?_;clear hT T;refine yr3 ?_;refine zf ?_;intro b10;refine yq7 fun T hT=>?_;refine(CallV.part (CallV.fn (jbF okk hcc)) ja).mono ?_;refine zc ?_;clear hT T;refine yq11 fun T hT=>?_;refine zaV ?_;clear hT T;refine yq5 fun T hT=>?_;refine(CallV.part (CallV.fn (aCopy_K oka)) ja).mono ?_;rintro _ _ ⟨a',_,_,rfl,rfl⟩;refine za ?_;clear hT T;refine yq23 fun T hT=>?_;refine zaV ?_;clear hT T;refine zz fun T hT=>?_;refine(CallV.fn (jdH (n:=B.p.g.slots) (by omega))).mono ?_;rintro _ _ ⟨rr,kr,hbs,rfl,rfl⟩;refine za ?_;clear hT T;refine yr14 ?_;refine ze ?_;intro b53;refine yr6 ?_;exact KE.fin (H':=j8 ⟨b53,rr,0,false,a.b,B.b,k.b⟩++(jR a B.p++(jX B++(jx B.m++(planH B.p++(jk k B.p++F)))))) jd rfl jc (by simp only[sweepH_app];exact ja) ⟨⟨b53,rr,0,false,a.b,B.b,k.b⟩,⟨kr,by simp[hbs],Nat.zero_le _⟩,rfl,rfl,rfl,rfl,rfl,hbs,rfl,rfl⟩
set_option maxRecDepth 10000
def j0 (g:PlG) (x x':List Int) (t:Nat):Prop:= ∀ y,g.L[t]?=some y→ ∀ j,j<y.size→wAt x' (y.addr+j)=wAt x (y.addr+j)
def jaE (g:PlG) (x:List Int) (t:Nat):Prop:= ∀ y,g.L[t]?=some y→ ∀ j,j<y.size→wAt x (y.addr+j)=0
section
variable {g : PlG} {x x' x'' : List Int} {s t : Nat} {y : ju}
theorem j0.refl:j0 g x x t:=fun _ _ _ _=>rfl
theorem j0.trans (h:j0 g x x' t) (h':j0 g x' x'' t):j0 g x x'' t:=fun y hy j hj=>(h' y hy j hj).trans (h y hy j hj)
theorem j0.zero (h:j0 g x x' t) (hz:jaE g x t):jaE g x' t:=fun y hy j hj=>(h y hy j hj).trans (hz y hy j hj)
theorem jdX (ok:je g) (hx:x.length=g.words) (hy:g.L[s]?=some y) (h:s≠t):j0 g x (Jo x y) t:=fun z hz j hj=>by
 have:=ok.apart hy hz h
 have f:=ok.fits hy
 rw[jaY (by omega),if_neg (by omega)]
theorem jgQ (ok:je g) (hx:x.length=g.words) (hy:g.L[s]?=some y):jaE g (Jo x y) s:=fun z hz j hj=>by
 rw[hy] at hz;cases hz
 have f:=ok.fits hy
 rw[jaY (by omega),if_pos (by omega)]
theorem jdg (ok:je g) (hx:x.length=g.words) (hy:g.L[s]?=some y) (hd:HdP) (h:s≠t):j0 g x (jW x y hd).2 t:=fun z hz j hj=>by
 have f1:=ok.fits hy
 have:=ok.apart hy hz h
 unfold jW
 split
 ·split
  ·rfl
  ·dsimp only;rw[jax (by omega),jaY (by omega),if_neg (by omega)]
 ·rfl
theorem jdQ (ok:je g) (hy:g.L[s]?=some y) {i v:Int} (h:s≠t):j0 g x (j7 x g.slots y i v).2 t:=fun z hz j hj=>by
 have f1:=ok.fits hy
 have:=ok.apart hy hz h
 unfold j7
 split
 ·rfl
 ·split
  ·rename_i hf
   have:=jae hf
   dsimp only;rw[jax (by omega)]
  ·rfl
theorem refO_out (h: ¬t<g.slots) {i:Int}:refO g x (t:Nat) i=none:=by
 cases hr:refO g x (t:Nat) i with
 |none=>rfl
 |some v=>exact absurd (jd5 hr).1 h
theorem jde (ok:je g) (h:j0 g x x' t) {i:Int}:refO g x' (t:Nat) i=refO g x (t:Nat) i:=by
 by_cases ht:t<g.slots
 ·obtain⟨z,hz⟩:=Jg ht
  have hf:=ok.fits hz
  have e:=JF hz
  have h0:wAt x' z.addr=wAt x z.addr:=h z hz 0 (by omega)
  by_cases hfl:fldP x z true i=0
  ·have hin:=jae hfl
   obtain⟨j,hj⟩: ∃ j,fAt z i=z.addr+j:=⟨fAt z i-z.addr,by omega⟩
   refine jeQ (by rw[e];exact h0) ?_;rw[e,hj];exact h z hz j (by omega)
  ·have hfl': ¬fldP x' z true i=0:=by rw[jcF h0];exact hfl
   unfold refO refP;rw[e,if_neg hfl,if_neg hfl',jcF h0]
 ·rw[refO_out ht,refO_out ht]
theorem je8 (ok:je g) (h: ∀ y,g.L[t]?=some y→ ∀ j,1≤j→j<y.size→wAt x (y.addr+j)=0) {i:Int}:refO g x (t:Nat) i=none:=by
 cases hr:refO g x (t:Nat) i with
 |none=>rfl
 |some v=>
  obtain⟨ht,hf⟩:=jd5 hr
  obtain⟨z,hz⟩:=Jg ht
  have e:=JF hz
  rw[e] at hf
  have hin:=jae hf
  obtain⟨j,hj⟩: ∃ j,fAt z i=z.addr+j:=⟨fAt z i-z.addr,by omega⟩
  have h0:=h z hz j (by omega) (by omega)
  unfold refO refP at hr
  have hn: ¬((0:Int)>((g.slots:Nat):Int)):=by omega
  rw[e,if_pos hf,hj,h0] at hr;simp only[if_neg hn] at hr;rw[if_neg (by omega)] at hr
  cases hr
theorem jaE.refO (ok:je g) (h:jaE g x t) {i:Int}:refO g x (t:Nat) i=none:=je8 ok fun y hy j _ hj=>h y hy j hj
theorem jhc (ok:je g) (hx:x.length=g.words) (hy:g.L[s]?=some y) {hd:HdP} {i u:Int} (h:refO g (jW x y hd).2 (t:Nat) i=some u):refO g x (t:Nat) i=some u:=by
 by_cases e:s=t
 ·subst e;unfold jW at h
  split at h
  ·split at h
   ·exact h
   ·have f1:=ok.fits hy
    rw[je8 ok (fun z hz j h1 hj=>by
     rw[hy] at hz;cases hz;dsimp only
     rw[jax (by omega),jaY (by omega),if_pos (by omega)])] at h
    cases h
  ·exact h
 ·rw[jde ok (jdg ok hx hy hd e)] at h;exact h
theorem wipe_refO (ok:je g) (hx:x.length=g.words) (hy:g.L[s]?=some y) {i u:Int} (h:refO g (Jo x y) (t:Nat) i=some u):refO g x (t:Nat) i=some u:=by
 by_cases e:s=t
 ·subst e;rw [(jgQ ok hx hy).refO ok] at h;cases h
 ·rw[jde ok (jdX ok hx hy e)] at h;exact h
theorem set_refN (ok:je g) (hx:x.length=g.words) (hy:g.L[s]?=some y) {i0 v i u:Int} (h:refO g (j7 x g.slots y i0 v).2 (t:Nat) i=some u):refO g x (t:Nat) i=some u∨(t=s∧u=v):=by
 by_cases e:s=t
 ·subst e
  have f1:=ok.fits hy
  have ey:=JF hy
  unfold j7 at h
  split at h
  ·exact .inl h
  ·split at h
   ·rename_i hv hf
    have hin:=jae hf
    dsimp only at h
    obtain⟨_,hf2⟩:=jd5 h
    rw[ey] at hf2
    have hhd:wAt (x.set (fAt y i0) (v+1)) y.addr=wAt x y.addr:=jax (by omega)
    rw[jcF hhd] at hf2
    have hin2:=jae hf2
    by_cases hi:fAt y i0=fAt y i
    ·right
     refine⟨rfl,?_⟩
     have hn: ¬(v+1>((g.slots:Nat):Int)):=by omega
     have e:refP (x.set (fAt y i0) (v+1)) g.slots y i=(v+1-1,0):=by
      unfold refP;rw[jcF hhd,if_pos hf2,←hi,jfl (by omega),if_neg hn]
     unfold refO at h;rw[ey,e] at h;dsimp only at h
     split at h
     ·have:=Option.some.inj h;omega
     ·cases h
    ·left
     rw[←h];exact(jeQ (by rw[ey];exact hhd) (by rw[ey];exact jax hi)).symm
   ·exact .inl h
 ·rw[jde ok (jdQ ok hy e)] at h;exact .inl h
end
section
variable {g : PlG} {W : MwP} {P Q : Nat → Prop} {x' : List Int}
theorem slotT_root {n sl:Int} (h:slotT W.T n=some sl): ∃ r,r<W.T.length∧jF g W r=some sl:=by
 unfold slotT at h
 split at h
 ·cases hT:W.T[n.toNat]? with
  |none=>rw [hT] at h;cases h
  |some e=>
   rw[hT] at h;dsimp only at h
   split at h
   ·rename_i h1
    cases h
    exact⟨n.toNat,jl hT,by unfold jF;rw [hT];dsimp only;rw [if_pos h1]⟩
   ·cases h
 ·cases h
theorem Cls.slot (h:Cls g W P) {n:Int} {s:Nat} (hs:slotT W.T n=some (s:Nat)):P s:=by
 obtain⟨r,h1,h2⟩:=slotT_root (g:=g) hs
 exact h.root (by omega) h2
theorem Cls.iff (h:Cls g W P) (hq: ∀ t,P t↔Q t):Cls g W Q:=⟨fun a b=>(hq _).1 (h.root a b),fun a b=>(hq _).1 (h.edge ((hq _).2 a) b)⟩
theorem jhL {W':MwP} (hl:W'.T.length=W.T.length) (hN:W'.N=W.N) (hT: ∀ (r:Nat) (e:jj),W'.T[r]?=some e→e.st=1→ ∃ e',W.T[r]?=some e'∧e'.st=1∧e'.slot=e.slot) {r:Nat} {s:Int} (h:jF g W' r=some s):jF g W r=some s:=by
 unfold jF at h⊢
 cases he:W'.T[r]? with
 |some e=>
  rw[he] at h;dsimp only at h
  split at h
  ·rename_i h1
   obtain⟨e',a,b,c⟩:=hT r e he h1
   rw[a];dsimp only;rw[if_pos b,c];exact h
  ·cases h
 |none=>
  rw[he] at h
  have:=List.getElem?_eq_none_iff.1 he
  rw[List.getElem?_eq_none (by omega),←hN,←hl];exact h
theorem root_mint {sl:Int} {r:Nat} {s:Int} (h:jF g {W with T:=jZ W.T sl} r=some s):jF g W r=some s∨s=sl:=by
 unfold jF at h⊢;dsimp only at h
 cases he:(jZ W.T sl)[r]? with
 |some e=>
  rw[he] at h;dsimp only at h
  split at h
  ·rename_i h1
   rcases mint_at he with h2|⟨_,h2⟩
   ·left;rw [h2];dsimp only;rw [if_pos h1];exact h
   ·right;rw [←h2];exact(Option.some.inj h).symm
  ·cases h
 |none=>
  rw[he] at h
  have:=List.getElem?_eq_none_iff.1 he
  rw[jaX] at this h
  left;rw [List.getElem?_eq_none this];exact h
theorem root_drop {i:Int} {r:Nat} {s:Int} (h:jF g {W with T:=Jt W.T i} r=some s):jF g W r=some s:=by
 refine jhL (W':={W with T:=Jt W.T i}) jbR rfl (fun r e he h1=>?_) h
 rcases drop_at he with h2|h2
 ·exact⟨e,h2,h1,rfl⟩
 ·omega
theorem root_pin {sl r:Nat} {s:Int} (h:jF g {W with N:=JJ W.N sl} r=some s):jF g W r=some s∨s=(sl:Nat):=by
 unfold jF at h⊢;dsimp only at h
 cases he:W.T[r]? with
 |some e=>rw [he] at h;exact .inl h
 |none=>
  rw[he] at h;dsimp only at h⊢
  split at h
  ·rename_i h1
   by_cases e:r-W.T.length=sl
   ·right;rw [←e];exact(Option.some.inj h).symm
   ·left
    have:(JJ W.N sl)[r-W.T.length]?=W.N[r-W.T.length]? :=by
     unfold JJ;split
     ·rw[List.getElem?_set_ne (by omega)]
     ·rfl
    rw[this] at h1;rw[if_pos h1];exact h
  ·cases h
theorem root_unpin {sl r:Nat} {s:Int} (h:jF g {W with N:=JO W.N sl} r=some s):jF g W r=some s:=by
 unfold jF at h⊢;dsimp only at h
 cases he:W.T[r]? with
 |some e=>rw [he] at h;exact h
 |none=>
  rw[he] at h;dsimp only at h⊢
  split at h
  ·rename_i h1
   rw[if_pos]
   ·exact h
   ·by_cases e:r-W.T.length=sl
    ·unfold JO at h1
     split at h1
     ·rename_i hp;rw [e];exact hp
     ·exact h1
    ·rw[jgS e] at h1;exact h1
  ·cases h
theorem jg0 {gens:Int} {r:Nat}:jF g {W with T:=j9 gens W.T} r=jF g W r:=by
 unfold jF j9;dsimp only;rw[List.getElem?_map,List.length_map]
 cases he:W.T[r]? with
 |none=>rfl
 |some e=>
  simp only[Option.map_some]
  by_cases h1:e.st=1
  ·have:JV gens e=e:=by unfold JV;rw [if_neg (by omega)]
   rw[this]
  ·rw[if_neg h1,if_neg];intro h2
   have:=jg3 h2
   rw[this] at h2;exact h1 h2
theorem Cls.words (h:Cls g W P) (hr: ∀ {s t:Nat} {i:Int},P s→refO g x' (s:Nat) i=some (t:Nat)→P t):Cls g {W with x:=x'} P:=⟨h.root,hr⟩
theorem Cls.recy (h:Cls g W P) (gens:Int):Cls g {W with T:=j9 gens W.T} P:=
 ⟨fun a b=>by
  rw[jg0] at b
  exact h.root (by unfold j9 at a;dsimp only at a;rw [List.length_map] at a;exact a) b,h.edge⟩
theorem Cls.drop (h:Cls g W P) (i:Int):Cls g {W with T:=Jt W.T i} P:=⟨fun a b=>h.root (by dsimp only at a;rw [jbR] at a;exact a) (root_drop b),h.edge⟩
theorem Cls.unpin (h:Cls g W P) (sl:Nat):Cls g {W with N:=JO W.N sl} P:=⟨fun a b=>h.root a (root_unpin b),h.edge⟩
theorem Cls.pin (h:Cls g W P) {sl:Nat} (hs:P sl):Cls g {W with N:=JJ W.N sl} P:=⟨fun a b=>by
  rcases root_pin b with c|c
  ·exact h.root a c
  ·rw[show _=sl from Int.ofNat_inj.1 c];exact hs,h.edge⟩
theorem Cls.mint (h:Cls g W P) {sl:Nat} (hs:P sl):Cls g {W with T:=jZ W.T (sl:Nat)} P:=⟨fun a b=>by
  rcases root_mint b with c|c
  ·exact h.root (by dsimp only at a;rw [jaX] at a;exact a) c
  ·rw[show _=sl from Int.ofNat_inj.1 c];exact hs,h.edge⟩
theorem Cls.wipe (ok:je g) (hx:W.x.length=g.words) (h:Cls g W P) {s:Nat} {y:ju} (hy:g.L[s]?=some y):Cls g {W with x:=Jo W.x y} P:=h.words fun a b=>h.edge a (wipe_refO ok hx hy b)
theorem Cls.set (ok:je g) (hx:W.x.length=g.words) (h:Cls g W P) {s:Nat} {y:ju} (hy:g.L[s]?=some y) {i v:Int} (hv: ∀ u:Nat,v=(u:Nat)→P u):Cls g {W with x:=(j7 W.x g.slots y i v).2} P:=h.words fun{a t} {k} ha b=>by
 rcases set_refN ok hx hy b with c|⟨_,c⟩
 ·exact h.edge ha c
 ·exact hv t c.symm
theorem Cls.make (ok:je g) (hx:W.x.length=g.words) (h:Cls g W P) {s:Nat} {y:ju} (hy:g.L[s]?=some y) {hd:HdP}:Cls g {W with x:=(jW W.x y hd).2} P:=h.words fun a b=>h.edge a (jhc ok hx hy b)
theorem Cls.new (ok:je g) (h:Cls g W P) {j:Nat} (hz:jaE g W.x j):Cls g W (fun t=>P t∨t=j):=
 ⟨fun a b=> .inl (h.root a b),fun a b=>by
  rcases a with a|rfl
  ·exact .inl (h.edge a b)
  ·rw[hz.refO ok] at b;cases b⟩
end
open Go.RowKit
set_option maxRecDepth 10000
structure CyT (g:PlG) (s:CyP):Prop where
 tk:Cls g s.W (fun t=>s.A[t]?=some true)
 zr: ∀ t:Nat,s.A[t]?=some false→jaE g s.W.x t
def NwP (S0:Nat→Prop) (A0 A:List Bool) (t:Nat):Prop:=S0 t∨(A[t]?=some true∧A0[t]?=some false)
structure CyI (g:PlG) (S0:Nat→Prop) (A0:List Bool) (s:CyP):Prop where
 len:A0.length=s.A.length
 sA: ∀ t:Nat,S0 t→A0[t]?=some true
 up: ∀ t:Nat,A0[t]?=some true→s.A[t]?=some true
 cl:Cls g s.W (NwP S0 A0 s.A)
 nP:jaN (NwP S0 A0 s.A) s.m
 nw: ∀ t:Nat,s.A[t]?=some true→A0[t]?=some false→NW s.m t
 p1:s.ph=1→ ∀ t,S0 t→Prot g s.W s.m t
 p2:2≤s.ph→ ∀ t,S0 t→NW s.m t
 D: ∀ t:Nat,s.D[t]?=some true↔(2≤s.ph∧t<s.at_∧A0[t]?=some true∧ ¬S0 t)
 zr: ∀ t:Nat,s.A[t]?=some false→jaE g s.W.x t
 dz: ∀ t:Nat,s.D[t]?=some true→jaE g s.W.x t
theorem bit_some {l:List Bool} {t:Nat} (h:t<l.length):l[t]?=some true∨l[t]?=some false:=by
 obtain⟨b,hb⟩:=jn h
 cases b
 ·exact .inr hb
 ·exact .inl hb
section
variable {g : PlG} {long nw : Nat} {s s' : CyP} {S0 : Nat → Prop} {A0 : List Bool} {P : Nat → Prop}
theorem CyI.pA (h:CyI g S0 A0 s) {t:Nat} (hp:NwP S0 A0 s.A t):s.A[t]?=some true:=by
 rcases hp with a|a
 ·exact h.up t (h.sA t a)
 ·exact a.1
theorem CyI.mark (ok:je g) (h:jp g long s) (hI:CyI g S0 A0 s) (h1:s.ph=1) {m':MaP} {k u:Int} (hm:stepM g long s.W s.m k u=some m'):CyI g S0 A0 {s with m:=m'}:=by
 have z5:=jef ok h.m h.w h.i hm
 exact⟨hI.len,hI.sA,hI.up,hI.cl,z5.o _ hI.cl hI.nP,fun t a b=>z5.k.nw t (hI.nw t a b),fun _ t ht=>(hI.p1 h1 t ht).keep z5.k,fun e=>absurd (show 2≤s.ph from e) (by omega),hI.D,hI.zr,hI.dz⟩
theorem CyI.goes (h:CyPre g long s) (hI:CyI g S0 A0 s):CyI g S0 A0 (goesC g s):=by
 unfold goesC
 split
 ·rename_i h1
  obtain⟨a,b,c,d⟩:=h.p1 h1.1
  refine⟨hI.len,hI.sA,hI.up,hI.cl,hI.nP,hI.nw,fun e=>?_,fun _ t ht=>done_prot h1.2 (hI.p1 h1.1 t ht),fun t=>?_,hI.zr,hI.dz⟩
  ·have e':(if s.at_=g.slots then 3 else 2)=1:=e
   split at e'<;>cases e'
  ·show s.D[t]?=some true↔(_∧t<s.at_∧_)
   rw[hI.D t]
   constructor
   ·rintro⟨e,_⟩;omega
   ·rintro⟨_,e,_⟩;omega
 ·split
  ·rename_i h2
   refine⟨hI.len,hI.sA,hI.up,hI.cl,hI.nP,hI.nw,fun e=>(by cases e),fun _=>hI.p2 (by omega),fun t=>?_,hI.zr,hI.dz⟩
   show s.D[t]?=some true↔(2≤3∧t<s.at_∧_)
   rw[hI.D t,h2.1]
   constructor
   ·rintro⟨_,e⟩;exact⟨by decide,e⟩
   ·rintro⟨_,e⟩;exact⟨by decide,e⟩
  ·exact hI
theorem CyI.made (h:CyPre g long s) (hI:CyI g S0 A0 s):CyI g S0 A0 (madeC g s):=
 CyI.goes (s:={s with st:=s.st+1}) ⟨h.w,h.rf,h.m,h.i,h.A,h.D,h.p0,h.p1,h.p2,h.p3,h.ph,h.dn⟩ ⟨hI.len,hI.sA,hI.up,hI.cl,hI.nP,hI.nw,hI.p1,hI.p2,hI.D,hI.zr,hI.dz⟩
theorem CyI.doom (h:jp g long s) (hI:CyI g S0 A0 s) (h2:s.ph=2) {t:Nat} (ht:t<g.slots):(s.A[t]?=some true∧s.m.C[t]?=some 0)↔(A0[t]?=some true∧ ¬S0 t):=by
 constructor
 ·rintro⟨a,c⟩
  have hn: ¬NW s.m t:=fun hn=>hn.not c
  have hS: ¬S0 t:=fun hS=>hn (hI.p2 (by omega) t hS)
  refine⟨?_,hS⟩
  rcases bit_some (l:=A0) (t:=t) (by rw[hI.len,h.A];exact ht) with e|e
  ·exact e
  ·exact absurd (hI.nw t a e) hn
 ·rintro⟨a,hS⟩;refine⟨hI.up t a,?_⟩
  rcases nw_or h.m.C ht with e|e
  ·exact e
  ·rcases hI.nP t e with c|⟨_,c⟩
   ·exact absurd c hS
   ·rw[a] at c;cases c
theorem CyI.sweep (ok:je g) (h:jp g long s) (hI:CyI g S0 A0 s) (h2:s.ph=2) (hs:sweepC g s=some s'):CyI g S0 A0 s':=by
 have hlt:=h.lt h2
 obtain⟨a,b,_⟩:=h.p2 h2
 have hd:=hI.doom h h2 hlt
 obtain⟨y,hy⟩:=Jg hlt
 have hyA:=JF hy
 unfold sweepC at hs;rw[if_pos ⟨b,hlt⟩] at hs
 split at hs
 ·rename_i hg
  cases hs
  rw[hyA]
  obtain⟨d1,d2⟩:=hd.1 hg
  refine⟨hI.len,hI.sA,hI.up,hI.cl.wipe ok h.w.x hy,hI.nP,hI.nw,fun e=>(by rw[show s.ph=1 from e] at h2;cases h2),fun e=>hI.p2 e,fun t=>?_,fun t ht=>?_,fun t ht=>?_⟩
  ·show(s.D.set s.at_ true)[t]?=some true↔(_∧t<s.at_+1∧_)
   by_cases e:t=s.at_
   ·subst e;rw[List.getElem?_set_self (by rw[h.D];exact hlt)];exact⟨fun _=>⟨by show 2≤s.ph;omega,by omega,d1,d2⟩,fun _=>rfl⟩
   ·rw[List.getElem?_set_ne (by omega),hI.D t]
    constructor
    ·rintro⟨q1,q2,q3⟩;exact⟨q1,by omega,q3⟩
    ·rintro⟨q1,q2,q3⟩;exact⟨q1,by omega,q3⟩
  ·have hne:s.at_≠t:=fun e=>by subst e;rw [show s.A[s.at_]?=some false from ht] at hg;cases hg.1
   exact(jdX ok h.w.x hy hne).zero (hI.zr t ht)
  ·by_cases e:s.at_=t
   ·subst e;exact jgQ ok h.w.x hy
   ·have ht':(s.D.set s.at_ true)[t]?=some true:=ht
    rw[List.getElem?_set_ne e] at ht';exact(jdX ok h.w.x hy e).zero (hI.dz t ht')
 ·rename_i hg
  cases hs
  refine⟨hI.len,hI.sA,hI.up,hI.cl,hI.nP,hI.nw,fun e=>(by rw[show s.ph=1 from e] at h2;cases h2),fun e=>hI.p2 e,fun t=>?_,hI.zr,hI.dz⟩
  show s.D[t]?=some true↔(2≤s.ph∧t<s.at_+1∧_)
  rw[hI.D t]
  constructor
  ·rintro⟨q1,q2,q3⟩;exact⟨q1,by omega,q3⟩
  ·rintro⟨q1,q2,q3⟩;refine⟨q1,?_,q3⟩
   rcases Nat.lt_or_ge t s.at_ with e|e
   ·exact e
   ·have:t=s.at_:=by omega
    subst this;exact absurd (hd.2 q3) hg
theorem CyI.step (ok:je g) (h:jp g long s) (hI:CyI g S0 A0 s) {k u:Int} (hs:stepC g long nw s k u=some s'):CyI g S0 A0 s':=by
 unfold stepC at hs
 split at hs
 ·rename_i h1
  cases hm:stepM g long s.W s.m k u with
  |none=>rw [hm] at hs;cases hs
  |some m'=>rw [hm] at hs;cases hs;exact CyI.made (jbC ok h h1 hm) (hI.mark ok h h1 hm)
 ·split at hs
  ·rename_i h2
   cases hm:sweepC g s with
   |none=>rw [hm] at hs;cases hs
   |some q=>rw [hm] at hs;cases hs;exact CyI.made (jba ok h h2.1 hm).1 (hI.sweep ok h h2.1 hm)
  ·cases hs
theorem CyI.help (ok:je g) (h:jp g long s) (hI:CyI g S0 A0 s) (hs:helpC g long s=some s'):CyI g S0 A0 s':=by
 unfold helpC at hs
 split at hs
 ·rename_i h1
  cases hm:Jq g long s.W s.m with
  |none=>rw [hm] at hs;cases hs
  |some m'=>
   rw[hm] at hs;cases hs
   obtain⟨k,u,hk⟩:=jbv hm
   exact CyI.made (jbC ok h h1 hk) (hI.mark ok h h1 hk)
 ·split at hs
  ·rename_i h2
   cases hm:sweepC g s with
   |none=>rw [hm] at hs;cases hs
   |some q=>rw [hm] at hs;cases hs;exact CyI.made (jba ok h h2 hm).1 (hI.sweep ok h h2 hm)
  ·cases hs
theorem CyI.begin (h:jp g long s) (h0:s.ph=0) (hT:CyT g s):CyI g (RchM g s.W) s.A (beginC g s):=by
 obtain⟨a,b,c,d⟩:=h.p0 h0
 have hP: ∀ t,NwP (RchM g s.W) s.A s.A t↔RchM g s.W t:=fun t=>by
  constructor
  ·rintro(e|⟨e1,e2⟩)
   ·exact e
   ·rw[e1] at e2;cases e2
  ·exact .inl
 refine⟨rfl,fun t ht=>hT.tk.rch ht,fun t ht=>ht,rch_cls.iff fun t=>(hP t).symm,new_only,fun t e1 e2=>?_,fun _ t ht=>new_prot h.w ht,fun e=>absurd (show 2≤1 from e) (by decide),fun t=>?_,hT.zr,fun t ht=>?_⟩
 ·rw[show s.A[t]?=some true from e1] at e2;cases e2
 ·show s.D[t]?=some true↔(2≤1∧_)
  rw[d,List.getElem?_replicate]
  constructor
  ·intro e;split at e<;>cases e
  ·rintro⟨e,_⟩;omega
 ·have ht':s.D[t]?=some true:=ht
  rw[d,List.getElem?_replicate] at ht'
  split at ht'<;>cases ht'
theorem CyI.publish (h:jp g long s) (hI:CyI g S0 A0 s) (h3:s.ph=3) (gens:Int):(∀ t:Nat,(publishC g gens s).A[t]?=some true↔NwP S0 A0 s.A t)∧CyT g (publishC g gens s):=by
  obtain⟨a,b,c⟩:=h.p3 h3
  have hD: ∀ t:Nat,s.D[t]?=some true↔(A0[t]?=some true∧ ¬S0 t):=fun t=>by
    rw[hI.D t,h3,c]
    constructor
    ·rintro⟨_,_,q⟩;exact q
    · intro q
      refine⟨by decide,?_,q⟩
      have:=jl q.1
      rwa[hI.len,h.A] at this
  have hga:(J0 s.A s.D).2=jaC s.A s.D:=by
    unfold J0;rw[if_pos (h.D.trans h.A.symm),if_pos (ok_all fun i hi=>hI.up i ((hD i).1 hi).1)]
  have hget: ∀ t:Nat,(jaC s.A s.D)[t]?=(s.A[t]?).map fun a=>a&&!((s.D[t]?).getD false):=fun t=>jen t (h.A.trans h.D.symm)
  have hA: ∀ t:Nat,(publishC g gens s).A[t]?=some true↔NwP S0 A0 s.A t:=fun t=>by
    show(J0 s.A s.D).2[t]?=some true↔_
    rw[hga,hget]
    constructor
    · intro e
      cases hAt:s.A[t]? with
      |none=>rw [hAt] at e;cases e
      |some v=>
        rw[hAt] at e;simp only[Option.map_some,Option.some.injEq,Bool.and_eq_true,Bool.not_eq_true'] at e
        obtain⟨rfl,e2⟩:=e
        have hnd: ¬s.D[t]?=some true:=fun hd=>by rw[hd] at e2;cases e2
        rw[hD] at hnd
        rcases bit_some (l:=A0) (t:=t) (by rw[hI.len];exact jl hAt) with q|q
        · left
          exact Classical.byContradiction fun hS=>hnd ⟨q,hS⟩
        ·exact .inr ⟨hAt,q⟩
    · intro hp
      have hAt:=hI.pA hp
      have hnd: ¬s.D[t]?=some true:=fun hd=>by
        obtain⟨q1,q2⟩:=(hD t).1 hd
        rcases hp with q|q
        ·exact q2 q
        ·rw[q1] at q;cases q.2
      rw[hAt];simp only[Option.map_some,Option.some.injEq,Bool.true_and,Bool.not_eq_true']
      cases hd:s.D[t]? with
      |none=>rfl
      | some v => cases v
                  ·rfl
                  ·exact absurd hd hnd
  refine⟨hA,⟨(hI.cl.recy gens).iff fun t=>(hA t).symm,fun t ht=>?_⟩⟩
  have ht':(J0 s.A s.D).2[t]?=some false:=ht
  rw[hga,hget] at ht'
  cases hAt:s.A[t]? with
  |none=>rw [hAt] at ht';cases ht'
  |some v=>
    rw[hAt] at ht'
    cases v with
    |false=>exact hI.zr t hAt
    |true=>
      refine hI.dz t ?_
      cases hd:s.D[t]? with
      |none=>rw [hd] at ht';cases ht'
      | some v => cases v
                  ·rw[hd] at ht';cases ht'
                  ·rfl
end
open Go.RowKit
set_option maxRecDepth 10000
section
variable {g : PlG} {long nw : Nat} {s s' : CyP} {S0 : Nat → Prop} {A0 : List Bool} {P : Nat → Prop} {W : MwP} {m : MaP}
theorem jfZ (t:Int):shdC g long s t={s with m:=if s.ph=1 then jU g long s.m t else s.m}:=by
 unfold shdC;split<;>rfl
theorem shdS_neg {t:Int} (h: ¬t≥0):jU g long m t=m:=by unfold jU;rw [if_neg];rintro⟨a,_⟩;omega
theorem shdO_eq (t:Int):shdO g long s t={s with m:=if s.ph=1 then jU g long s.m t else s.m}:=by
 unfold shdO
 split
 ·exact jfZ t
 ·rename_i h;rw [shdS_neg h,ite_self]
structure ActN (g:PlG) (P:Nat→Prop) (s s':CyP):Prop where
 A:s'.A=s.A
 D:s'.D=s.D
 ph:s'.ph=s.ph
 at_:s'.at_=s.at_
 cl:Cls g s'.W P
 nP:jaN P s.m→jaN P s'.m
 nw: ∀ t,NW s.m t→NW s'.m t
 kp:s.ph=1→Jy g s.W s'.W s.m s'.m
 w: ∀ t,¬P t→j0 g s.W.x s'.W.x t
theorem ActN.refl (h:Cls g s.W P):ActN g P s s:=⟨rfl,rfl,rfl,rfl,h,fun h=>h,fun _ h=>h,fun _=>Jy.refl,fun _ _=>j0.refl⟩
theorem jdY (ok:je g) (hm:jv g long W m) (hi:jac m) {t:Int} (ht: ∀ n:Nat,t=n→P n) (h:jaN P m):jaN P (jU g long m t):=fun n hn=>by
 cases ha:m.act with
 |false=>rw [je3 ha] at hn;exact h n hn
 |true=>
  rw[shdS_act hm ha] at hn
  rcases(shade_keep (W':=W) ok hm hi t).2.2.2 n hn with e|e
  ·exact h n e
  ·exact ht n e
theorem actN_of (ok:je g) (h:jp g long s) {a:jbL} (h2: ¬a.w%10<2) (hm':s'={s with W:=JD g s.W a,m:=if s.ph=1 then jab g long s.W s.m a else s.m}) (hcl:Cls g (JD g s.W a) P)
  (hn:jaN P s.m→jaN P (jab g long s.W s.m a)) (hw: ∀ t,¬P t→j0 g s.W.x (JD g s.W a).x t):ActN g P s s':=by
 subst hm';refine⟨rfl,rfl,rfl,rfl,hcl,fun e=>?_,fun t ht=>?_,fun e=>?_,hw⟩
 ·show jaN P (if s.ph=1 then _ else _)
  split
  ·exact hn e
  ·exact e
 ·show NW (if s.ph=1 then _ else _) t
  split
  ·rename_i h1
   exact(act_keep ok h.m h.w h.i (h.p1 h1).1 h2).2.nw t ht
  ·exact ht
 ·show Jy g _ _ _ (if s.ph=1 then _ else _)
  rw[if_pos (show s.ph=1 from e)];exact(act_keep ok h.m h.w h.i (h.p1 e).1 h2).2
theorem nat_of {sl:Int} (h:inS g sl): ∃ n:Nat,sl=n∧n<g.slots:=⟨sl.toNat,by have:=h.1;omega,by have:=h.1;have:=h.2;omega⟩
theorem refO_of {x:List Int} {n:Nat} {i:Int} (h0:(refP x g.slots (jC g (n:Nat)) i).2=0) {u:Nat} (hu:(refP x g.slots (jC g (n:Nat)) i).1=(u:Nat)):refO g x (n:Nat) i=some (u:Nat):=by
 unfold refO;rw [if_pos ⟨h0,by omega⟩,hu];rfl
theorem sets_N (ok:je g) (h:jp g long s) (hcl:Cls g s.W P) {a:Jw}:ActN g P s (setsC g long s a):=by
 unfold setsC
 cases hs:slotT s.W.T a.n with
 |none=>exact ActN.refl hcl
 |some sl=>
  dsimp only
  have hin:=jck h.w hs
  split
  ·exact ActN.refl hcl
  ·rename_i hto
   split
   ·exact ActN.refl hcl
   ·rename_i h0
    have h0:(refP s.W.x g.slots (jC g sl) a.i).2=0:=Classical.byContradiction h0
    obtain⟨n,rfl,hn⟩:=nat_of hin
    obtain⟨y,hy⟩:=Jg hn
    have hPn:P n:=hcl.slot hs
    have hPo: ∀ u:Nat,(refP s.W.x g.slots (jC g (n:Nat)) a.i).1=(u:Nat)→P u:=fun u hu=>hcl.edge hPn (refO_of h0 hu)
    have hPt: ∀ u:Nat,toC s.W.T a.t=(u:Nat)→P u:=fun u hu=>by
     unfold toC at hu
     split at hu
     ·omega
     ·rename_i hge
      cases ht:slotT s.W.T a.t with
      |none=>exact absurd ⟨by omega,by rw[ht];rfl⟩ hto
      |some v=>rw [ht] at hu;simp only[Option.getD_some] at hu;subst hu;exact hcl.slot ht
    have hA:JD g s.W ⟨2,(n:Nat),a.i,toC s.W.T a.t,0,0⟩={s.W with x:=(j7 s.W.x g.slots (jC g (n:Nat)) a.i (toC s.W.T a.t)).2}:=actW_set hin h0
    have hK:jab g long s.W s.m ⟨2,(n:Nat),a.i,toC s.W.T a.t,0,0⟩=jU g long (jU g long s.m (refP s.W.x g.slots (jC g (n:Nat)) a.i).1) (toC s.W.T a.t):=by
     unfold jab oldS;dsimp only;rw [if_neg (by decide),if_pos (by decide),if_pos ⟨hin,h0⟩]
    refine actN_of (a:=⟨2,(n:Nat),a.i,toC s.W.T a.t,0,0⟩) ok h (by show ¬2%10<2;decide) ?_ ?_ ?_ ?_
    ·rw[hA,hK,shdO_eq,shdO_eq];unfold putC;dsimp only
     split<;>rfl
    ·rw[hA,JF hy];exact hcl.set ok h.w.x hy hPt
    ·rw[hK];intro e
     have m1:=jev ok h.m (refP s.W.x g.slots (jC g (n:Nat)) a.i).1
     have e1:=jdY ok h.m h.i hPo e
     cases ha:s.m.act with
     |false=>rw [je3 ha,je3 ha];exact e
     |true=>exact jdY ok m1 (jbO (W':=s.W) ok h.m h.i ha _).1 hPt e1
    ·intro t ht;rw[hA,JF hy]
     exact jdQ ok hy fun e=>ht (e▸hPn)
theorem acts_N (ok:je g) (h:jp g long s) (hcl:Cls g s.W P) {a:Jw} (ha: ¬a.w%6<2):ActN g P s (doesC g long s a):=by
 unfold doesC;rw[if_neg ha]
 split
 ·exact sets_N ok h hcl
 ·cases hs:slotT s.W.T a.n with
  |none=>exact ActN.refl hcl
  |some sl=>
   dsimp only
   have hin:=jck h.w hs
   obtain⟨n,rfl,hn⟩:=nat_of hin
   have hPn:P n:=hcl.slot hs
   have hPu: ∀ u:Nat,((n:Nat):Int)=(u:Nat)→P u:=fun u hu=>by rw[←Int.ofNat_inj.1 hu];exact hPn
   split
   ·refine actN_of (a:=⟨5,0,a.n,0,0,0⟩) ok h (by show ¬5%10<2;decide) ?_ ?_ ?_ ?_
    ·have hK:jab g long s.W s.m ⟨5,0,a.n,0,0,0⟩=jU g long s.m (n:Nat):=by
      unfold jab;dsimp only;rw[if_neg (by decide),if_neg (by decide),if_pos (by decide),hs]
     rw[jdr,jfZ,hK]
    ·rw[jdr];exact hcl.drop _
    ·unfold jab;dsimp only;rw[if_neg (by decide),if_neg (by decide),if_pos (by decide),hs];exact jdY ok h.m h.i hPu
    ·rw[jdr]
     exact fun t _=>j0.refl
   ·split
    ·refine⟨rfl,rfl,rfl,rfl,hcl.pin hPn,fun e=>e,fun _ e=>e,fun _=>?_,fun _ _=>j0.refl⟩
     refine jcf (W':={s.W with N:=JJ s.W.N n}) rfl (fun r t hr=> .inr ?_) fun t u i hr=> .inr hr
     unfold jF at hr⊢;dsimp only
     cases he:s.W.T[r]? with
     |some e=>rw [he] at hr;exact hr
     |none=>
      rw[he] at hr;dsimp only at hr⊢
      split at hr
      ·rename_i hp;rw [if_pos (pinP_pos hp)];exact hr
      ·cases hr
    ·refine actN_of (a:=⟨7,(n:Nat),0,0,0,0⟩) ok h (by show ¬7%10<2;decide) ?_ ?_ ?_ ?_
     ·have hK:jab g long s.W s.m ⟨7,(n:Nat),0,0,0,0⟩=jU g long s.m (n:Nat):=by
       unfold jab;dsimp only;rw[if_neg (by decide),if_neg (by decide),if_neg (by decide),if_pos (by decide)]
      rw[jdb hin,jfZ,hK]
     ·rw[jdb hin];exact hcl.unpin _
     ·unfold jab;dsimp only;rw[if_neg (by decide),if_neg (by decide),if_neg (by decide),if_pos (by decide)];exact jdY ok h.m h.i hPu
     ·rw[jdb hin]
      exact fun t _=>j0.refl
theorem CyT.act (hT:CyT g s) (h:ActN g (fun t=>s.A[t]?=some true) s s'):CyT g s':=by
 refine⟨h.cl.iff fun t=>by rw[h.A],fun t ht=>?_⟩;rw[h.A] at ht;exact(h.w t (fun e=>by rw[ht] at e;cases e)).zero (hT.zr t ht)
theorem CyI.act (hI:CyI g S0 A0 s) (h:ActN g (NwP S0 A0 s.A) s s'):CyI g S0 A0 s':=by
 refine⟨by rw[h.A];exact hI.len,hI.sA,by rw[h.A];exact hI.up,by rw[h.A];exact h.cl,by rw[h.A];exact h.nP hI.nP,fun t a b=>h.nw t (hI.nw t (by rw[←h.A];exact a) b),fun e t ht=>?_,fun e t ht=>h.nw t (hI.p2 (by rw[←h.ph];exact e) t ht),fun t=>by rw[h.D,h.ph,h.at_];exact hI.D t,fun t ht=>?_,fun t ht=>?_⟩
 ·rw[h.ph] at e;exact(hI.p1 e t ht).keep (h.kp e)
 ·rw[h.A] at ht;exact(h.w t (fun e=>by rw[hI.pA e] at ht;cases ht)).zero (hI.zr t ht)
 ·rw[h.D] at ht;refine(h.w t fun e=>?_).zero (hI.dz t ht)
  obtain⟨_,_,q1,q2⟩:=(hI.D t).1 ht
  rcases e with e|e
  ·exact q2 e
  ·rw[q1] at e;cases e.2
theorem black_keep {j:Nat} (hz: ∀ i,refO g W.x (j:Nat) i=none):Jy g W W m (j2 m j):=by
 unfold j2
 split
 ·refine⟨fun t ⟨c,h1,h2⟩=>?_,fun r t a b c=> .inr ⟨a,b,c⟩,fun t u i a b=> .inr ⟨.inl ?_,b⟩,fun t u i a b=> .inr ⟨a,b⟩⟩
  ·by_cases e:t=j
   ·subst e;exact⟨2,List.getElem?_set_self (jl h1),by decide⟩
   ·exact⟨c,by show(m.C.set j 2)[t]?=_;rw [List.getElem?_set_ne (by omega)];exact h1,h2⟩
  ·have e:t≠j:=fun e=>by rw[e,hz] at b;cases b
   show(m.C.set j 2)[t]?=_
   rw[List.getElem?_set_ne (by omega)];exact a
 ·exact Jy.refl
theorem black_only {j:Nat} (h:jaN P m):jaN (fun t=>P t∨t=j) (j2 m j):=fun t ht=>by
 unfold j2 at ht
 split at ht
 ·by_cases e:t=j
  ·exact .inr e
  ·obtain⟨c,h1,h2⟩:=ht
   have h1':(m.C.set j 2)[t]?=some c:=h1
   rw[List.getElem?_set_ne (by omega)] at h1';exact .inl (h t ⟨c,h1',h2⟩)
 ·exact .inl (h t ht)
theorem black_self {j:Nat} (ha:m.act=true) (hj:j<m.C.length):NW (j2 m j) j:=by
 unfold j2;rw [if_pos ha];exact⟨2,List.getElem?_set_self hj,by decide⟩
theorem mint_old {sl:Int} {r:Nat} {u:Nat} (h:jF g W r=some (u:Nat)):jF g {W with T:=jZ W.T sl} r=some (u:Nat):=by
 refine root_T (W:=W) (W':={W with T:=jZ W.T sl}) jaX rfl h fun hr=>?_
 dsimp only;unfold jZ
 split
 ·rename_i j hj
  obtain⟨⟨e,g1,g2⟩,_⟩:=jc9 hj
  by_cases hjr:j=r
  ·subst hjr
   exfalso
   unfold jF at h;rw[g1] at h;dsimp only at h;rw[if_neg (by omega)] at h;cases h
  ·rw[List.getElem?_set_ne hjr]
 ·rfl
structure MakeN (g:PlG) (s s':CyP) (j:Nat):Prop where
 jf:s.A[j]?=some false
 A:s'.A=s.A.set j true
 m:s'.m=j2 s.m j
 D:s'.D=s.D
 ph:s'.ph=s.ph
 at_:s'.at_=s.at_
 cl: ∀ P,Cls g s.W P→jaE g s.W.x j→Cls g s'.W (fun t=>P t∨t=j)
 w: ∀ t:Nat,t≠j→j0 g s.W.x s'.W.x t
 kp:jaE g s.W.x j→Jy g s.W s'.W s.m (j2 s.m j)
theorem makes_N (ok:je g) (h:jp g long s) {a:Jw}:makesC g s a=s∨ ∃ j,MakeN g s (makesC g s a) j:=by
 unfold makesC
 split
 ·rename_i hc
  right
  obtain⟨k,j,_,_,hf,ht,_⟩:=jdc hc.1
  obtain⟨_,_,h3,_⟩:=jci hf
  have hl:=jl h3
  rw[h.A] at hl
  obtain⟨y,hy⟩:=Jg hl
  rw[ht];dsimp only;rw[JF hy,Int.toNat_natCast];refine⟨j,h3,rfl,rfl,rfl,rfl,rfl,fun P hP hz=>?_,fun t ht=>jdg ok h.w.x hy _ (fun e=>ht e.symm),fun hz=>?_⟩
  ·exact((hP.new ok hz).mint (.inr rfl)).make (W:={s.W with T:=jZ s.W.T (j:Nat)}) ok h.w.x hy
  ·refine(jcf (W':={s.W with T:=jZ s.W.T (j:Nat),x:=(jW s.W.x y (hdM y a.i)).2}) jaX (fun r u hr=> .inr (mint_old hr)) fun t u i hr=> .inr ?_).trans (black_keep fun i=>?_)
   ·have e:j≠t:=fun e=>by rw[←e,hz.refO ok] at hr;cases hr
    show refO g (jW s.W.x y _).2 _ _=_
    rw[jde ok (jdg ok h.w.x hy _ e)];exact hr
   ·cases hr:refO g (jW s.W.x y (hdM y a.i)).2 (j:Nat) i with
    |none=>rfl
    |some u=>have:=jhc ok h.w.x hy hr;rw [hz.refO ok] at this;cases this
 ·exact .inl rfl
theorem jeh {A:List Bool} {j t:Nat} (hj:j<A.length):(A.set j true)[t]?=some true↔A[t]?=some true∨t=j:=by
 by_cases e:t=j
 ·subst e;rw [List.getElem?_set_self hj];exact⟨fun _=> .inr rfl,fun _=>rfl⟩
 ·rw[List.getElem?_set_ne (by omega)];exact⟨.inl,fun q=>q.resolve_right e⟩
theorem jgW {A:List Bool} {j t:Nat} (hj:j<A.length):(A.set j true)[t]?=some false↔A[t]?=some false∧t≠j:=by
 by_cases e:t=j
 ·subst e;rw [List.getElem?_set_self hj];exact⟨fun q=>(by cases q),fun q=>absurd rfl q.2⟩
 ·rw[List.getElem?_set_ne (by omega)];exact⟨fun q=>⟨q,e⟩,fun q=>q.1⟩
theorem CyT.make {j:Nat} (hT:CyT g s) (h:MakeN g s s' j):CyT g s':=by
 have hj:=jl h.jf
 refine⟨(h.cl _ hT.tk (hT.zr j h.jf)).iff fun t=>by rw[h.A,jeh hj],fun t ht=>?_⟩;rw[h.A,jgW hj] at ht;exact(h.w t ht.2).zero (hT.zr t ht.1)
theorem CyI.make {j:Nat} (ok:je g) (hk:jp g long s) (h1:1≤s.ph) (hI:CyI g S0 A0 s) (h:MakeN g s s' j):CyI g S0 A0 s':=by
 have hj:=jl h.jf
 have hz:=hI.zr j h.jf
 have hk':=h.kp hz
 have ha:s.m.act=true:=by
  have:=hk.ph
  rcases(show s.ph=1∨s.ph=2∨s.ph=3 by omega) with e|e|e
  ·exact(hk.p1 e).1
  ·exact(hk.p2 e).1
  ·exact(hk.p3 e).1
 have hj0:A0[j]?=some false:=by
  rcases bit_some (l:=A0) (t:=j) (by rw[hI.len];exact hj) with e|e
  ·have:=hI.up j e;rw [h.jf] at this;cases this
  ·exact e
 have hP: ∀ t,(NwP S0 A0 s.A t∨t=j)↔NwP S0 A0 s'.A t:=fun t=>by
  unfold NwP;rw[h.A,jeh hj]
  constructor
  ·rintro((e|⟨e1,e2⟩)|e)
   ·exact .inl e
   ·exact .inr ⟨.inl e1,e2⟩
   ·exact .inr ⟨.inr e,by rw[e];exact hj0⟩
  ·rintro(e|⟨e1|e1,e2⟩)
   ·exact .inl (.inl e)
   ·exact .inl (.inr ⟨e1,e2⟩)
   ·exact .inr e1
 refine⟨by rw[h.A,List.length_set];exact hI.len,hI.sA,fun t ht=>?_,(h.cl _ hI.cl hz).iff hP,fun t ht=>?_,fun t a b=>?_,fun e t ht=>?_,fun e t ht=>?_,fun t=>by rw[h.D,h.ph,h.at_];exact hI.D t,fun t ht=>?_,fun t ht=>?_⟩
 ·rw[h.A,jeh hj];exact .inl (hI.up t ht)
 ·rw[h.m] at ht;exact(hP t).1 (black_only hI.nP t ht)
 ·rw[h.A,jeh hj] at a;rw[h.m]
  rcases a with a|a
  ·exact hk'.nw t (hI.nw t a b)
  ·rw[a];exact black_self ha (by rw[hk.m.C,←hk.A];exact hj)
 ·rw[h.ph] at e;rw[h.m];exact(hI.p1 e t ht).keep hk'
 ·rw[h.ph] at e;rw[h.m];exact hk'.nw t (hI.p2 e t ht)
 ·rw[h.A,jgW hj] at ht;exact(h.w t ht.2).zero (hI.zr t ht.1)
 ·rw[h.D] at ht;refine(h.w t fun e=>?_).zero (hI.dz t ht)
  obtain⟨_,_,q1,_⟩:=(hI.D t).1 ht
  rw[e,hj0] at q1;cases q1
theorem CyT.does (ok:je g) (h:jp g long s) (hT:CyT g s) {a:Jw}:CyT g (doesC g long s a):=by
 by_cases ha:a.w%6<2
 ·have e:doesC g long s a=makesC g s a:=by unfold doesC;rw [if_pos ha]
  rw[e]
  rcases makes_N ok h (a:=a) with e|⟨j,e⟩
  ·rw[e];exact hT
  ·exact hT.make e
 ·exact hT.act (acts_N ok h hT.tk ha)
theorem CyI.does (ok:je g) (h:jp g long s) (h1:1≤s.ph) (hI:CyI g S0 A0 s) {a:Jw}:CyI g S0 A0 (doesC g long s a):=by
 by_cases ha:a.w%6<2
 ·have e:doesC g long s a=makesC g s a:=by unfold doesC;rw [if_pos ha]
  rw[e]
  rcases makes_N ok h (a:=a) with e|⟨j,e⟩
  ·rw[e];exact hI
  ·exact hI.make ok h h1 e
 ·exact hI.act (acts_N ok h hI.cl ha)
end
end Go.Proofs.YtldomapkmopomaaGreatDoor.Sw
