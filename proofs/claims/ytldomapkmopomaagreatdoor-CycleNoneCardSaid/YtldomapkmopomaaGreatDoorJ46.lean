/-The walker and the contracts that the law needs,part 46. -/
import Derived.Test.YtldomapkmopomaaGreatDoorD1
import Derived.ArgAppend
import Derived.ChangeMaps5
import Derived.Deep.Fields
import Derived.Deep.LoopGhost
import Derived.Deep.OwnRows
import Derived.Deep.Quiet
import Derived.Deep.Slices
import Derived.IntWalk
import Derived.Laws.Cells
import Derived.Laws.CopyOwn
import Derived.Laws.Externs
import Derived.Laws.FloatArith
import Derived.Laws.IdiomStrings
import Derived.Laws.NewFold
import Derived.Laws.StructEq
import Derived.Lib.BitFns
import Derived.Lib.Hide
import Derived.Lib.SmallJoins
import Derived.Lib.TrailingZeros
import Derived.Maps.RangeRun
import Derived.OrdersIn
import Derived.ProofKit
import Derived.RangeFuncBound
import Derived.RangeFuncCalls
import Derived.RangeFuncLeaves
import Derived.RangeFuncNested
import Derived.RecoverIn
import Derived.Shelf.Bits.Mul64
import Derived.Shelf.Slices.Turned
import Derived.Shelf.Spec.TrailingZeros
import Derived.Shelf.Strconv.Itoa0
import Derived.SizedLaws
import Derived.Sort.BigQuietIn
import Derived.StillTailTactics
import Derived.Test.YtldomapkmopomaaGreatDoorProg
import Derived.WalkKit
import Derived.Test.YtldomapkmopomaaGreatDoorJ38
set_option linter.unusedVariables false set_option linter.unusedSimpArgs false namespace Go.Proofs.YtldomapkmopomaaGreatDoor.Sw
set_option maxHeartbeats 8000000
open Go.Proofs.YtldomapkmopomaaGreatDoor renaming lo → qL, hi → qH
open Go.RowKit
set_option linter.unusedVariables false
set_option linter.unusedSimpArgs false
set_option maxRecDepth 10000
section
variable {w0 : World} {F : jb} {k : MkM} {p : jO} {g : PlG} {long : Nat} {y : CyM} {s : CyP}
theorem cktouch_E {j:Int} {fn:FuncId} {fi cap:List Value} (ok:MkOk k p) (hs: ¬(0≤j∧j<(p.g.slots:Nat))):Call Tryz.prog w0 141 [.pointer (some ⟨k.b,0,none⟩), .int .i64 j, .func (.func fn) fi.toArray cap.toArray] (jk k p++F) (fun r H'=>r= .int .i64 2∧H'=jk k p++F):=by
 refine zcF ?_;refine yq9 fun T hT=>?_;refine(CallV.fn (mkOf_E ok hs)).mono ?_;rintro _ _ ⟨rfl,rfl⟩;refine za ?_;clear hT T;refine yr30 ?_;exact zd
theorem ckBlack_E {j:Int} (ok:MkOk k p) (hs: ¬(0≤j∧j<(p.g.slots:Nat))):Call Tryz.prog w0 71 [.pointer (some ⟨k.b,0,none⟩), .int .i64 j] (jk k p++F) (fun r H'=>r= .int .i64 2∧H'=jk k p++F):=by
 refine Call.enter2 (n:=9) (by kernel_rfl) Tryz.func71 rfl rfl rfl ?_;refine yr2 ?_;refine ze ?_;intro b2;refine yq8 fun T hT=>?_;refine(CallV.part (CallV.fn (cktouch_E (fn:=143) (fi:=[]) (cap:=[.pointer (some ⟨b2,0,none⟩)]) ok hs)) ja).mono ?_;refine zc ?_;clear hT T;refine yr4 ?_;exact zd
theorem cyBlack_E {j:Int} (h:CpR g long y s) (hs: ¬(0≤j∧j<(g.slots:Nat))):Call Tryz.prog w0 19 [.pointer (some ⟨y.b,0,none⟩), .int .i64 j] (cycH y++F) (fun r H'=>r= .int .i64 2∧H'=cycH y++F):=by
 have hbl:=fun A=>ckBlack_E (w0:=w0) (F:=A) h.ok (j:=j) (by rw[h.eg];exact hs)
 refine zeM ?_;refine yq9 fun T hT=>?_;refine zbe ?_;clear hT T;simp only[cycH_app,seenH_app];refine yq12 fun T hT=>?_;refine zdN ?_;refine zc ?_;clear hT T;refine yr4 ?_;exact zG
theorem cyShade_E {j:Int} (h:CpR g long y s) (hs: ¬(0≤j∧j<(g.slots:Nat))):Call Tryz.prog w0 18 [.pointer (some ⟨y.b,0,none⟩), .int .i64 j] (cycH y++F) (fun r H'=>r= .int .i64 2∧H'=cycH y++F):=by
 have hof:=fun A=>mkOf_E (w0:=w0) (F:=A) h.ok (s:=j) (by rw[h.eg];exact hs)
 refine zdM ?_;refine yq9 fun T hT=>?_;refine zbe ?_;clear hT T;simp only[cycH_app,seenH_app];refine yq13 fun T hT=>?_;refine(CallV.part (CallV.fn (hof _)) ja).mono ?_;refine zc ?_;clear hT T;refine yr29 ?_;exact zG
end
section
variable {w0 : World} {F : jb} {c : Cfg} {vc vt : Value} {m : Jk}
theorem mnone0_K:Call Tryz.prog w0 83 [.pointer none] F (fun r H'=>r= .bool true∧H'=F):=by
 refine Call.enter1 (n:=13) (by kernel_rfl) Tryz.func83 rfl rfl rfl ?_;refine yr21 ?_;exact zd
theorem mall0_K:Call Tryz.prog w0 39 [.pointer none] F (fun r H'=>r= .slice none 0 0∧H'=F):=by
 refine Call.enter1 (n:=10) (by kernel_rfl) Tryz.func39 rfl rfl rfl ?_;refine yq9 fun T hT=>?_;refine(CallV.fn (mnone0_K)).mono ?_;rintro _ _ ⟨rfl,rfl⟩;refine za ?_;clear hT T;refine yr10 ?_;exact zd
theorem cyNew_nil:Call Tryz.prog w0 12 [jt c vc vt, .int .i64 0, .pointer none] F (fun r H'=>r= .tuple [.pointer none, .int .i64 1].toArray∧H'=F):=by
 obtain⟨cl,page,tns,workers,grey,gens⟩:=c
 simp only[jt,jJ];refine zdO ?_;refine yr2 ?_;refine ze ?_;intro b3;refine yq8 fun T hT=>?_;refine(CallV.fn (mall0_K)).mono ?_;rintro _ _ ⟨rfl,rfl⟩;refine za ?_;clear hT T;refine yr12 ?_;exact zd
theorem cyNew_no {t:Int} (hR:j1 w0 F c vc vt) (hn:thereP c t 0=false) (okm:JZ m) (hne:m.R.flatten.length≠0):
  Call Tryz.prog w0 12 [jt c vc vt, .int .i64 t, .pointer (some ⟨m.b,0,none⟩)] (jx m++F) (fun r H'=>r= .tuple [.pointer none, .int .i64 2].toArray∧H'=jx m++F):=by
 have hreg:regionP c t=(0,2):=by unfold regionP;rw [hn];rfl
 have hrg:=fun A (hp:Part A F)=>jes (t:=t) (hR.part hp)
 simp only[hreg] at hrg
 have hall:=fun A=>All_K (w0:=w0) (F:=A) okm
 clear hR hn hreg
 obtain⟨cl,page,tns,workers,grey,gens⟩:=c
 simp only[jt,jJ,prV] at hrg⊢;refine zdO ?_;refine yr2 ?_;refine ze ?_;intro b3;refine yq8 fun T hT=>?_;refine(CallV.part (CallV.fn (hall _)) ja).mono ?_;rintro _ _ ⟨oa,oka,rfl,rfl⟩
 obtain⟨ob,rfl⟩: ∃ ob,oa=some ob:=by
  cases oa with
  |none=>exact absurd (congrArg List.length oka) hne
  |some ob=>exact⟨ob,rfl⟩
 refine za ?_;clear hT T;refine yq11 fun T hT=>?_;refine(CallV.fn (hrg _ ja)).mono ?_;rintro _ _ ⟨rfl,rfl⟩;refine za ?_;clear hT T;refine yr23 ?_;exact zd
theorem bNew_E {t:Nat} {p:jO} {x:List Int} (okm:JZ m) (hr:m.R[t]?=some x) (ok:J2 p) (hn:x.length≠p.g.words):
  Call Tryz.prog w0 57 [.pointer (some ⟨m.b,0,none⟩), .int .i64 (t:Nat), .pointer (some ⟨p.b,0,none⟩)] (jx m++(planH p++F)) (fun r H'=>r= .tuple [.pointer none, .int .i64 2].toArray∧H'=jx m++(planH p++F)):=by
 have hs:=ok.g.slots
 have hne: ¬((p.g.slots:Nat):Int)=0:=by omega
 have hne2:((x.length:Nat):Int)≠(p.g.words:Nat):=by omega
 refine Call.enter3 (n:=39) (by kernel_rfl) Tryz.func57 rfl rfl rfl ?_;refine yq10 fun T hT=>?_;refine(CallV.part (CallV.fn (Words_K okm hr)) ja).mono ?_;rintro _ _ ⟨o,ko,rfl,rfl⟩;refine za ?_;clear hT T;refine yq17 fun T hT=>?_;refine(CallV.part (CallV.fn (jco ok)) ja).mono ?_;refine zc ?_;clear hT T;refine yq19 fun T hT=>?_;refine(CallV.part (CallV.fn (Words0_K ok)) ja).mono ?_;refine zc ?_;clear hT T;refine yr16 ?_;exact zd
theorem cyNew_E {x:List Int} (hR:j1 w0 F c vc vt) (hc:jT c=true) (okm:JZ m) (hm:m.R[0]?=some x) (hx:x.length≠(gOf c 0).words) (hne:m.R.flatten.length≠0):
  Call Tryz.prog w0 12 [jt c vc vt, .int .i64 0, .pointer (some ⟨m.b,0,none⟩)] (jx m++F) (fun r H'=>r= .tuple [.pointer none, .int .i64 2].toArray∧H'=jx m++F):=by
 have hcfg:=jar hc
 have ht:thereP c 0 0=true:=jaS (i:=0) (j:=0) hc (by have:=hcfg.tn;omega) (by have:=hcfg.cl;omega)
 have ga:=g_at ht
 have okg:=ga.ok
 have hreg:regionP c 0=((((gOf c 0).words:Nat):Int),0):=ga.region
 have hrg:=fun A (hp:Part A F)=>jes (t:=0) (hR.part hp)
 have hpn:=fun A (hp:Part A F)=>pNew_K (t:=0) (hR.part hp) ht
 simp only[hreg] at hrg
 obtain⟨g,hg⟩: ∃ g,g=gOf c 0:=⟨_,rfl⟩
 simp only[←hg] at hpn okg hx hrg
 have hall:=fun A=>All_K (w0:=w0) (F:=A) okm
 clear hg ga hreg ht hR hc hcfg
 obtain⟨cl,page,tns,workers,grey,gens⟩:=c
 simp only[jt,jJ,prV] at hrg hpn⊢;refine zdO ?_;refine yr2 ?_;refine ze ?_;intro b3;refine yq8 fun T hT=>?_;refine(CallV.part (CallV.fn (hall _)) ja).mono ?_;rintro _ _ ⟨oa,oka,rfl,rfl⟩
 obtain⟨ob,rfl⟩: ∃ ob,oa=some ob:=by
  cases oa with
  |none=>exact absurd (congrArg List.length oka) hne
  |some ob=>exact⟨ob,rfl⟩
 refine za ?_;clear hT T;refine yq11 fun T hT=>?_;refine(CallV.fn (hrg _ ja)).mono ?_;rintro _ _ ⟨rfl,rfl⟩;refine za ?_;clear hT T;refine yr21 ?_;refine ze ?_;intro b27;refine yq8 fun T hT=>?_;refine(CallV.fn (hpn _ ja)).mono ?_;rintro _ _ ⟨p,okp,hpg,rfl,rfl⟩;refine za ?_;clear hT T;refine yq23 fun T hT=>?_;refine(CallV.part (CallV.fn (bNew_E (t:=0) okm hm okp (by rw[hpg];exact hx))) ja).mono ?_;refine zc ?_;clear hT T;refine yr25 ?_;exact zd
end
section
variable {w0 : World} {F : jb} {c : Cfg} {vc vt : Value} {g : PlG} {long : Nat} {y : CyM} {s : CyP}
theorem flat_ne {R0 R:List (List Int)} {x:List Int} (hR:R=R0.set 0 x) (h0:0<R.length) (hx:0<x.length):R.flatten.length≠0∧R[0]?=some x:=by
 subst hR
 cases R0 with
 |nil=>simp at h0
 |cons r rs=>
  refine⟨?_,rfl⟩
  show(x++rs.flatten).length≠0
  rw[List.length_append];omega
def cycR (y:CyM):jb:=(y.b,cells [.pointer (some ⟨y.B.p.b,0,none⟩), .pointer (some ⟨y.a.b,0,none⟩), .pointer (some ⟨y.B.b,0,none⟩), .pointer (some ⟨y.T.b,0,none⟩), .pointer (some ⟨y.N.b,0,none⟩), .pointer (some ⟨y.k.b,0,none⟩), .pointer (some ⟨y.s.b,0,none⟩), .int .i64 (y.nw:Nat), .int .u8 (y.ph:Nat), .int .i64 (y.st:Nat)] 80)::(j8 y.s++(jR y.a y.B.p++(jk y.k y.B.p++(planH y.B.p++(jX y.B++(jL y.T++Jp y.N))))))
theorem jcN {y:CyM} {F:jb}:cycR y++F=(y.b,cells [.pointer (some ⟨y.B.p.b,0,none⟩), .pointer (some ⟨y.a.b,0,none⟩), .pointer (some ⟨y.B.b,0,none⟩), .pointer (some ⟨y.T.b,0,none⟩), .pointer (some ⟨y.N.b,0,none⟩), .pointer (some ⟨y.k.b,0,none⟩), .pointer (some ⟨y.s.b,0,none⟩), .int .i64 (y.nw:Nat), .int .u8 (y.ph:Nat), .int .i64 (y.st:Nat)] 80)::(j8 y.s++(jR y.a y.B.p++(jk y.k y.B.p++(planH y.B.p++(jX y.B++(jL y.T++(Jp y.N++F))))))):=by
 unfold cycR;simp only[List.cons_append,List.append_assoc]
theorem cyNew_no2 {R0:List (List Int)} {t:Int} (h:CpR g long y s) (hm:y.B.m.R=R0.set 0 s.W.x) (hR:j1 w0 F c vc vt) (hn:thereP c t 0=false):
  Call Tryz.prog w0 12 [jt c vc vt, .int .i64 t, .pointer (some ⟨y.B.m.b,0,none⟩)] (cycH y++F) (fun r H'=>r= .tuple [.pointer none, .int .i64 2].toArray∧H'=cycH y++F):=by
 have hx:=h.i.w.x
 have hs:=h.okg.slots
 have hw:=jdP h.okg
 obtain⟨n1,n2⟩:=flat_ne hm h.p.bo.m.t.1 (by omega)
 refine Call.at_ (cyNew_no (F:=cycR y++F) (hR.part ja) hn h.p.bo.m n1) (by simp only[cycH_app,jcN];exact ja) ?_;refine zq ?_;exact⟨_,⟨rfl,rfl⟩,by simp only[cycH_app,jcN];exact ja⟩
theorem cyNew_any {R0:List (List Int)} (hG:jw w0) (h:CpR g long y s) (hm:y.B.m.R=R0.set 0 s.W.x) (h0:s.W.x=List.replicate g.words 0) (hR:j1 w0 F c vc vt) (ht:thereP c 0 0=true):
  Call Tryz.prog w0 12 [jt c vc vt, .int .i64 0, .pointer (some ⟨y.B.m.b,0,none⟩)] (cycH y++F) (fun r H'=> ∃ v:Value,r= .tuple [v, .int .i64 (if (gOf c 0).words=g.words then 0 else 2)].toArray∧H'=cycH y++F):=by
 have hx:=h.i.w.x
 have hs:=h.okg.slots
 have hw:=jdP h.okg
 obtain⟨n1,n2⟩:=flat_ne hm h.p.bo.m.t.1 (by omega)
 have hc:jT c=true:=by unfold thereP at ht;simp only[Bool.and_eq_true] at ht;exact ht.1
 by_cases e:(gOf c 0).words=g.words
 ·rw[if_pos e]
  have hcfg:=jar hc
  obtain⟨tn,htn⟩:=jn (l:=c.tn) (k:=0) (by have:=hcfg.tn;omega)
  refine Call.at_ (cyNew_K (t:=0) (F:=cycR y++F) hG (hR.part ja) hc htn h.p.bo.m (by rw[n2,h0,←e];rfl)) (by simp only[cycH_app,jcN];exact ja) ?_;rintro _ _ ⟨y',hn,rfl,rfl⟩;exact⟨_,⟨_,rfl,rfl⟩,by simp only[cycH_app,jcN,hn.m];exact ja⟩
 ·rw[if_neg e];refine Call.at_ (cyNew_E (F:=cycR y++F) (hR.part ja) hc h.p.bo.m n2 (by omega) n1) (by simp only[cycH_app,jcN];exact ja) ?_;refine zq ?_;exact⟨_,⟨_,rfl,rfl⟩,by simp only[cycH_app,jcN];exact ja⟩
end
section
variable {w0 : World} {R0 : List (List Int)} {g : PlG} {long nw : Nat} {gn : Int} {nf pb pm pB pT pa : Nat} {y : CyM} {s s' : CyP} {F H' : jb}
theorem awShadeE_K {j:Int} (h:CwR R0 g long nw gn nf pb pm pB pT pa y s) (hs: ¬(0≤j∧j<(g.slots:Nat))):Call Tryz.prog w0 18 [.pointer (some ⟨pb,0,none⟩), .int .i64 j] (cycH y++F) (fun r H'=>r= .int .i64 2∧H'=cycH y++F):=by
 have:=cyShade_E (w0:=w0) (F:=F) h.p hs;rw [h.b] at this;exact this
theorem awBlackE_K {j:Int} (h:CwR R0 g long nw gn nf pb pm pB pT pa y s) (hs: ¬(0≤j∧j<(g.slots:Nat))):Call Tryz.prog w0 19 [.pointer (some ⟨pb,0,none⟩), .int .i64 j] (cycH y++F) (fun r H'=>r= .int .i64 2∧H'=cycH y++F):=by
 have:=cyBlack_E (w0:=w0) (F:=F) h.p hs;rw [h.b] at this;exact this
theorem awShade_K {t:Nat} (h:CwR R0 g long nw gn nf pb pm pB pT pa y s) (ht:t<g.slots) (hs:shdC g long s (t:Nat)=s'):Call Tryz.prog w0 18 [.pointer (some ⟨pb,0,none⟩), .int .i64 (t:Nat)] (cycH y++F) (fun r H'=>r= .int .i64 0∧CwQ R0 g long nw gn nf pb pm pB pT pa s' F H'):=by
 subst hs;have:=jhi (w0:=w0) (F:=F) h.p ht;rw [h.b] at this;exact zbr
end
end Go.Proofs.YtldomapkmopomaaGreatDoor.Sw
