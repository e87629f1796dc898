/-What the law needs of its own,part 1. -/
import Derived.Test.YtpcgafhgfjlkmaaGreatDoorD1
import Derived.WalkKit
import Derived.ProofKit
import Derived.RangeFuncNested
import Derived.RangeFuncBound
import Derived.RangeFuncCalls
import Derived.RangeFuncLeaves
import Derived.Lib.Hide
import Derived.Sort.BigQuietIn
import Derived.Deep.Quiet
import Derived.StillTailTactics
import Derived.Deep.LoopGhost
import Derived.Laws.Cells
import Derived.OrdersIn
import Derived.Deep.OwnRows
import Derived.Laws.CopyOwn
import Derived.IntWalk
import Derived.ArgAppend
import Derived.Deep.Slices
import Derived.Deep.Fields
import Derived.Laws.IdiomStrings
import Derived.Laws.StructEq
import Derived.Maps.RangeRun
import Derived.Laws.Externs
import Derived.Laws.FloatArith
import Derived.Laws.NewFold
import Derived.RecoverIn
import Derived.Shelf.Strconv.Itoa0
import Derived.Shelf.Bits.Mul64
import Derived.Shelf.Slices.Turned
import Derived.Test.YtpcgafhgfjlkmaaGreatDoorProg
import Derived.SizedLaws
import Derived.Lib.SmallJoins
import Derived.ChangeMaps5
import Derived.Lib.TrailingZeros
import Derived.Lib.BitFns
import Derived.Shelf.Spec.TrailingZeros
import Derived.Test.YtpcgafhgfjlkmaaGreatDoorRows
import Derived.OpenShut
import Derived.LaidMore
import Derived.Lay
import Derived.LaidHandle
import Derived.Test.YtpcgafhgfjlkmaaGreatDoorJ39
set_option linter.unusedVariables false set_option linter.unusedSimpArgs false namespace Go.Proofs.YtpcgafhgfjlkmaaGreatDoor
set_option maxHeartbeats 8000000
open Go.RowKit Go.ChangeShapes Go.WideShapes
set_option linter.unusedVariables false
set_option autoImplicit false
theorem byBlk {G G':Prop} (k:G') (h:G'→G:=by intro k;((repeat (refine KE.next ?_));(first|refine K.block ?_|refine K.seq (K.block ?_)));exact k):G:=h k
open Go.RowKit Go.ChangeShapes Go.WideShapes Go.ChangeAt Go.Deep
variable {P : Program}
theorem slice_sl {α:Type} {E:Enc α} {H:Type} {enc:TypeId × Value→H} {W:World} {base:Nat} {t e:TypeId} (ht:P.underlying t=some (.slice e)) (hk:P.cellsOf e=E.sz) (hk0:0<E.sz) {v:Value} {d:DataW H} {p:List MemPlace}
  (ho:Value.okWide P W .any base t v) (h:DataW.Trod enc P W 0 (fun _=>true) true t v d p) (Ok:α→Prop)
  (hR: ∀ fuel cs x,DataW.trod enc P W 0 (fun _=>true) true fuel e cs=some x→cs.length=E.sz→ ∃ y,cs=E.enc y∧Ok y):
  ∃ ys:List α,SlW W E v ys∧ ∀ y∈ys,Ok y:=by
 obtain⟨a,len,cap,rfl⟩:=okWide_slice ht ho
 obtain⟨fuel,hf⟩:=h
 rcases open_slice ht hf with⟨hcs,_⟩|⟨a',len',cap',m,n,D,Pl,hcs,_,hl,hm,hmm,_,hx⟩
 ·simp[Value.cells] at hcs
  obtain⟨rfl,rfl,rfl⟩:=hcs
  exact⟨[],SlW.nil W E,fun y hy=>by cases hy⟩
 ·simp[Value.cells] at hcs
  obtain⟨rfl,rfl,rfl⟩:=hcs
  simp only[if_true] at hmm;subst hmm
  have key: ∀ i,i<len→ ∃ y,Ok y∧ ∀ j,j<E.sz→W.cell? (a'.add (i*E.sz+j))=(E.enc y)[j]? :=by
   intro i hi
   obtain⟨cs',h1,h2⟩:=hx i (by omega)
   rw[hk] at h1
   obtain⟨_,hlen,hat⟩:=World.cells?_some h1
   obtain⟨y,rfl,hy⟩:=hR _ _ _ h2 hlen
   exact zkP
  obtain⟨ys,hys,hall⟩:=jgC len (fun i y=>Ok y∧ ∀ j,j<E.sz→W.cell? (a'.add (i*E.sz+j))=(E.enc y)[j]?) key
  subst hys
  have hspot:0<ys.length→ ∃ b off,a'=⟨b,off,none⟩:=by
   intro hpos
   obtain⟨b,off,spot⟩:=a'
   obtain⟨y0,_,hc0⟩:=key 0 hpos
   have h1:=hc0 0 hk0
   rw[List.getElem?_eq_getElem (by rw[E.len];exact hk0)] at h1
   have hsp:spot=none:=by simpa [Addr.add] using World.cell?_spot h1
   subst hsp;exact⟨b,off,rfl⟩
  refine⟨ys,⟨⟨some a',m,rfl,hl,hm,fun hne=>?_⟩,?_⟩,?_⟩
  ·obtain⟨b,off,rfl⟩:=hspot (List.length_pos_iff.2 hne)
   exact⟨b,off,rfl⟩
  ·intro i y hy j u hu
   have hi:=(List.getElem?_eq_some_iff.1 hy).1
   obtain⟨b,off,rfl⟩:=hspot (by omega)
   have hj:j<E.sz:=by have:=(List.getElem?_eq_some_iff.1 hu).1;rwa[E.len] at this
   have:=(hall i y hy).2 j hj
   rw[jbb,hu] at this
   simpa [adr] using this
  ·intro y hy
   obtain⟨i,hi⟩:=List.getElem?_of_mem hy
   exact(hall i y hi).1
open Go.RowKit Go.ChangeShapes Go.WideShapes Go.ChangeAt Go.Deep Go.Joins
set_option maxRecDepth 100000
def jaJ (z:Int):Prop:=0≤z∧z≤18446744073709551615
def u8ok (z:Int):Prop:=0≤z∧z≤255
theorem jbF {z:Int} (h:(Lit.int .u64 z).wf=true):jaJ z:=by simpa [Lit.wf,IntKind.min,IntKind.max,IntKind.signed,IntKind.bits,jaJ] using h
theorem wf_u8 {z:Int} (h:(Lit.int .u8 z).wf=true):u8ok z:=by simpa [Lit.wf,IntKind.min,IntKind.max,IntKind.signed,IntKind.bits,u8ok] using h
end Go.Proofs.YtpcgafhgfjlkmaaGreatDoor
set_option linter.unusedSimpArgs false
namespace Go.Proofs.YtpcgafhgfjlkmaaGreatDoor.Sw
open Go.Proofs.YtpcgafhgfjlkmaaGreatDoor renaming lo → qL, hi → qH
open Go.RowKit
set_option maxRecDepth 10000
namespace PlG
end PlG
def plL (v:PlV) (g:PlG):List Value:=[v.L,v.F,v.M, .int .i64 (g.words:Nat),v.C]
set_option maxRecDepth 10000
section
variable {C : HpC} {wr : Bool} {h h' : HpP} {s s' : CyP} {n : Nat}
theorem jaQ {op:OpP}:(hpDo C h op).1.e=(jt C {h with wk:=0} op).1.e:=by
 unfold hpDo ja1
 split<;>rfl
end
set_option maxRecDepth 10000
section
variable {C : HpC} {wr : Bool} {h h' : HpP} {s s' : CyP} {n : Nat}
theorem fin_le (ok:jc C.g) (hI:HeI C h):(finC C.g C.long h.s).1≤Jj C.g h.s:=by
 have:=(jds.ok ok hI.ok).mes
 omega
theorem room1_wk (hC:jk C) (hI:HeI C h) (hw:WkI C h) (h0:h.wk=0) {is:CyP→Bool}:(JC C is h).wk≤jco C∧WkB C (JC C is h):=by
 unfold JC
 split
 ·rename_i h1
  have h2:=fin_le hC.g hI
  have h3:=hw.c h1.2
  have h4:(jas C h).wk=0+(finC C.g C.long h.s).1:=by rw[←h0];rfl
  exact⟨by omega, .inr ⟨rfl,by omega⟩⟩
 grind[WkB.zero]
theorem room_wk (hC:jk C) (hI:HeI C h) (hw:WkI C h) (h0:h.wk=0) {is:CyP→Bool}:WkB C (Jz C is h):=by
 obtain⟨a,b⟩:=room1_wk hC hI hw h0 (is:=is)
 unfold Jz
 split
 ·omega
 ·rename_i h1
  have hp:=jd5 h1
  have m1:=jeC (wr:=true) hC hI (is:=is)
  have m2:=m1.tail (.begin hp)
  have h2:=fin_le hC.g (hI.mvs hC m2)
  have h3:=(hw.mvs hC hI m2).c (show(1:Nat)≠0 by decide)
  have h4:(jas C (jaE C (JC C is h))).wk=(JC C is h).wk+(finC C.g C.long (jaE C (JC C is h)).s).1:=rfl
  exact .inr ⟨rfl,by omega⟩
theorem pays_wk (hC:jk C): ∀ (d:Nat) (h:HpP),HeI C h→WkB C h→d≤h.p.debt→WkB C (jaa C d h)
 |0,h,_,hb,_=>hb
 |d+1,h,hI,hb,hd=>by
  unfold jaa
  cases hh:jZ C.g C.long h.s with
  |none=>omega
  |some s'=>
   have m1:j8 C true h ⟨s',{h.p with debt:=d},h.wk+1⟩:=(HpMv.one (.help hh)).tail (.free (h:={h with s:=s'}) rfl fun hb=>⟨hb.s,hb.t,by have:=hb.d;grind,hb.c⟩)
   refine pays_wk hC d _ (hI.mvs hC m1) ?_ (Nat.le_refl _)
   have hm:=jdr hC.g hI.ok hh
   rcases hb with hb|hb
   ·left;grind
   grind[jdA]
theorem due_wk (hC:jk C) (hI:HeI C h) (hw:WkI C h) (hb:WkB C h) {due:Nat} (h2:due=2→h.p.act=true):(jcE C due h).wk≤2*jco C:=by
 unfold jcE
 split
 ·exact hb.le
 ·split
  ·rename_i e
   have hp:=hI.pa
   rw[h2 e] at hp
   have h0:=of_decide_eq_true hp.symm
   have h3:=fin_le hC.g hI
   have h4:(jas C h).wk=h.wk+(finC C.g C.long h.s).1:=rfl
   rcases hb with hb|hb
   ·omega
   omega
  ·exact hb.le
theorem paced_wk (hC:jk C) (hI:HeI C h) (hw:WkI C h) (hb:WkB C h):(jaS C n h).wk≤2*jco C:=by
 have m1:j8 C true h {h with p:=(Ja C.tr C.ast n h.p).2}:=HpMv.one (.free rfl fun hb=>hb.ask _ _ _)
 have m2:=m1.trans (jeL (Ja C.tr C.ast n h.p).2.debt {h with p:=(Ja C.tr C.ast n h.p).2} (Nat.le_refl _))
 have ha:(jaa C (Ja C.tr C.ast n h.p).2.debt {h with p:=(Ja C.tr C.ast n h.p).2}).p.act=h.p.act:=(jd7 _ _).trans rfl
 exact due_wk hC (hI.mvs hC m2) (hw.mvs hC hI m2) (pays_wk hC _ _ (hI.mvs hC m1) hb (Nat.le_refl _)) fun e=>ha.trans (jdE.2 e)
theorem does_wk (hC:jk C) (hI:HeI C h) (hw:WkI C h) (h0:h.wk=0) {op:OpP}:(jt C h op).2.wk≤2*jco C:=by
 have hz:h.wk≤2*jco C:=by omega
 unfold jt
 split
 ·exact hz
 ·split
  ·unfold jE
   split
   ·exact hz
   ·rename_i hm
    split
    ·exact hz
    ·rename_i hk
     dsimp only
     have m1:=jb3 (wr:=true) hC hI (k:=classI C.g (op.a+op.b+1))
     have hb:WkB C (allocR C h (classI C.g (op.a+op.b+1))):=room_wk hC hI hw h0
     have hI1:=hI.mvs hC m1
     split
     ·exact hb.le
     ·split
      ·exact hb.le
      ·rename_i h2 h3
       have m2:HpMv C true _ _:=jbV hC hI1 (not_false' hm) hk (not_false' h2) (not_false' h3)
       refine paced_wk hC (hI1.mv hC m2) ((hw.mvs hC hI m1).mv hC hI1 m2) ?_
       rcases hb with hb|hb
       ·left
        refine Nat.le_trans (Nat.add_le_add_left ?_ _) hb
        have h3:=jgR hI1.ok.m (takeP C.g (allocR C h (classI C.g (op.a+op.b+1))).s.A (classI C.g (op.a+op.b+1):Nat)).1.toNat
        have h5:=mes_m (s:=(allocR C h (classI C.g (op.a+op.b+1))).s) h3
        refine Nat.le_trans (Nat.le_of_eq ?_) h5;exact mes_W (g:=C.g) (s:={(allocR C h (classI C.g (op.a+op.b+1))).s with m:=Jt (allocR C h (classI C.g (op.a+op.b+1))).s.m (takeP C.g (allocR C h (classI C.g (op.a+op.b+1))).s.A (classI C.g (op.a+op.b+1):Nat)).1.toNat}) (W':=_) jbB
       ·exact .inr hb
  ·cases hs:hpSlot C.tn h.s.W.T op.h with
   |none=>exact hz
   |some sl=>
    dsimp only;unfold hpOp
    split
    ·unfold JF
     have hb:=room_wk hC hI hw h0 (is:=j5)
     split
     ·exact hz
     ·split
      ·exact hz
      ·split
       ·exact hz
       ·split
        ·exact hb.le
        ·exact hb.le
    ·split
     ·unfold JZ
      split
      ·exact hz
      ·split
       ·exact hz
       ·split<;>exact hz
     ·split
      ·exact hz
      ·split
       ·unfold jbj;split<;>exact hz
       ·split<;>exact hz
theorem do_wk (hC:jk C) (hI:HeI C h) (hw:WkI C h) {op:OpP}:(hpDo C h op).2.wk≤42*(C.g.words+C.caps):=by
 have h1:=does_wk hC hI.wk0 (h:={h with wk:=0}) ⟨hw.c⟩ rfl (op:=op)
 have h2:=jiI hC.g
 have h3:=hC.caps.1
 have h4:jco C=18*C.g.words+C.caps+C.g.slots+1:=rfl
 show(jt C {h with wk:=0} op).2.wk≤_
 omega
theorem mint_slot {T:List jh} {tn t:Nat} (htn:tn<256) (hT:T.length≤1024) (he: ∀ e∈T,1≤e.gen∧e.gen≤2147483648) (hf:(Ju T).isSome=true):hpSlot tn (jK T (t:Nat)) (JG tn T)=some ((t:Nat):Int):=by
 obtain⟨j,hj⟩:=Option.isSome_iff_exists.1 hf
 obtain⟨⟨e0,g1,g2⟩,_⟩:=ja7 hj
 have hl:=jx g1
 have hb:=he e0 (List.mem_of_getElem? g1)
 unfold JG jar jK hpSlot;rw[hj];dsimp only;simp only[jcd g1,Int.toNat_natCast,jem (t:=tn) (i:=j) (n:=e0.gen.toNat) (by omega) (by omega),jen (t:=tn) (i:=j) (n:=e0.gen.toNat) (by omega),jgr (t:=tn) (i:=j) (n:=e0.gen.toNat) (by omega) (by omega)];rw[if_pos ⟨by omega,trivial⟩];unfold namedT;rw[if_pos (by omega),Int.toNat_natCast,List.getElem?_set_self hl];dsimp only;rw[if_pos ⟨rfl,by omega⟩]
 rfl
theorem jdX (hC:jk C) (hI:HeI C h) {a b:Int} (h0:(jE C h a b).1.e=0):NewO C (jE C h a b).2 (jE C h a b).1.h a b:=by
 have ok:=hC.g
 unfold jE at h0⊢
 split at h0
 ·cases h0
 ·rename_i hm
  rw[if_neg hm]
  split at h0
  ·cases h0
  ·rename_i hk
   rw[if_neg hk];dsimp only at h0⊢
   have m1:=jb3 (wr:=true) hC hI (k:=classI C.g (a+b+1))
   have hI1:=hI.mvs hC m1
   revert h0 hI1
   generalize allocR C h (classI C.g (a+b+1))=h1
   intro h0 hI1
   split at h0
   ·cases h0
   ·rename_i h2
    rw[if_neg h2]
    split at h0
    ·cases h0
    ·rename_i h3
     rw[if_neg h3]
     obtain⟨j,y,ht,g3,hy,hcl,hsz,hmay2,hlies⟩:=jcy hC hI1 (not_false' hm) hk (not_false' h2)
     have m2:HpMv C true h1 _:=jbV hC hI1 (not_false' hm) hk (not_false' h2) (not_false' h3)
     have hI2:=hI1.mv hC m2
     have hw:=jcU (n:=C.g.y (classI C.g (a+b+1))) hC hI2
     obtain⟨q1,q2,q3⟩:=jeN ok hI1.ok.w.x hy (hI1.zr g3) hlies
     have hs2:(mkC C.g h1.s (classI C.g (a+b+1):Nat) ⟨(classI C.g (a+b+1):Nat),a,b⟩).W={h1.s.W with T:=jK h1.s.W.T (j:Nat),x:=(makeP h1.s.W.x y ⟨(classI C.g (a+b+1):Nat),a,b⟩).2}:=by
      unfold mkC;rw [ht];dsimp only;rw [jC hy]
     have hsl:hpSlot C.tn (mkC C.g h1.s (classI C.g (a+b+1):Nat) ⟨(classI C.g (a+b+1):Nat),a,b⟩).W.T (JG C.tn h1.s.W.T)=some ((j:Nat):Int):=by
      rw[hs2];exact zk2
     have hr:RchM C.g (mkC C.g h1.s (classI C.g (a+b+1):Nat) ⟨(classI C.g (a+b+1):Nat),a,b⟩).W j:=jax.slot (jai hsl)
     have hS:=hw.w j hr
     refine⟨j,y,classI C.g (a+b+1),?_,hy,?_,hmay2,fun i i1 i2=>?_⟩
     ·show hpSlot C.tn (jaS C _ {h1 with s:=mkC C.g h1.s _ _}).s.W.T _=_
      unfold hpSlot at hsl⊢;rw[hw.nm];exact hsl
     ·rw[jcN ok hS hy]
      show headP (mkC C.g h1.s _ _).W.x y=_
      rw[hs2];exact q2
     ·rw[hS y hy i i2]
      show wAt (mkC C.g h1.s _ _).W.x _=_
      rw[hs2];exact q3 i i1 i2
theorem do_made (hC:jk C) (hI:HeI C h) {op:OpP} (hc:op.c=1) (h0:(hpDo C h op).1.e=0):NewO C (hpDo C h op).2 (hpDo C h op).1.h op.a op.b:=by
 rw[jaQ] at h0;rw[do_h,if_pos h0]
 show NewO C (jt C {h with wk:=0} op).2 _ _ _
 have e:jt C {h with wk:=0} op=jE C {h with wk:=0} op.a op.b:=by
  grind[jt]
 rw[e] at h0⊢;exact jdX hC hI.wk0 h0
theorem made_read {w:Nat} {a b:Int} (hN:NewO C h w a b) {k:Int} (h1:0≤k) (h2:k<a+b):(hpDo C h ⟨2,w,k,0,0⟩).1.e=0∧(hpDo C h ⟨2,w,k,0,0⟩).1.w=0∧(hpDo C h ⟨2,w,k,0,0⟩).1.h=0∧(hpDo C h ⟨2,w,k,0,0⟩).2={h with wk:=0}:=by
 obtain⟨j,y,c,e1,hy,e3,e4,e5⟩:=hN.ex
 have hmay:=jbm e4
 dsimp only at hmay
 have hlies:=jaD (jaY e3).2
 dsimp only at hlies
 have hfx:JR h.s.W.x y k=(decide (k<a),0):=by
  unfold JR jaO;rw[e3];dsimp only[Option.getD_some];rw[if_pos e4,if_neg (by omega)]
 have hfl:fldP h.s.W.x y (decide (k<a)) k=0:=by
  have:=(jcJ (x:=h.s.W.x) (y:=y) (i:=k) (by rw[hfx])).1
  rw[hfx] at this;exact this
 have hw0:wAt h.s.W.x (fAt y k)=0:=by
  have:=e5 (1+k.toNat) (by omega) (by omega)
  rw[←this];unfold fAt;congr 1;omega
 have hrd:JF C {h with wk:=0} (j:Nat) k=(told 0,{h with wk:=0}):=by
  unfold JF;rw[jC hy];dsimp only;rw[hfx];dsimp only;rw[if_neg (fun q=>q rfl)]
  by_cases ha:k<a
  ·rw[decide_eq_true ha] at hfl⊢;rw[if_neg (by decide)]
   have:(refP h.s.W.x C.g.slots y k).1= -1:=by
    unfold refP;rw[if_pos hfl,hw0,if_neg (by omega)]
    rfl
   rw[this,if_pos (by decide)]
  ·rw[decide_eq_false ha] at hfl⊢;rw[if_pos rfl]
   have:(wordP h.s.W.x y k).1=0:=by
    unfold wordP;rw[if_pos hfl];exact hw0
   rw[this]
   rfl
 have hd:jt C {h with wk:=0} ⟨2,w,k,0,0⟩=({told 0 with addr:=((ju C.g (j:Nat)).addr:Nat)},{h with wk:=0}):=by
  unfold jt;dsimp only;rw[if_neg (by omega),if_neg (by decide),e1];dsimp only;unfold hpOp;dsimp only;rw[if_pos rfl,hrd]
 unfold hpDo;rw[hd];exact⟨rfl,rfl,rfl,rfl⟩
end
open Go.RowKit
set_option maxRecDepth 10000
section
variable {w0 : World} {F : jb} {y : CyM} {s : CyP} {g : PlG} {long : Nat}
theorem jfb {t:Nat} (h:CpR g long y s):Call Tryz.prog w0 24 [.pointer (some ⟨y.a.b,0,none⟩), .int .i64 (t:Nat)] (cycH y++F) (fun r H'=>r= .bool ((s.A[t]?).getD false)∧H'=cycH y++F):=by
 have hc:=Call.ro (w0:=w0) (A:=jW y.a y.B.p) (H:=cycH y++F) (fun F=>Has_K (F:=F) (i:=(t:Nat)) h.oka) (by rw[cycH_app];exact ja)
 rw[jdC,h.A] at hc;exact hc
end
set_option maxRecDepth 10000
section
variable {w0 : World} {D : HpD} {nf nk n : Nat} {y y' : CyM} {h : HpP} {s s' : CyP} {F G : jb} {op : OpP} {z : jg}
theorem jkz:Call Tryz.prog w0 34 [.pointer (some ⟨D.b,0,none⟩)] (hpH D y h++F) (fun r H'=>r= .int .i64 (h.wk:Nat)∧H'=hpH D y h++F):=by
 have hnone:=fun A=>jb5 (w0:=w0) (D:=D) (y:=y) (h:=h) (F:=A)
 refine zkS ?_;refine zfN ?_;refine zaL ?_;exact zfM
theorem jbC:Call Tryz.prog w0 17 [.pointer (some ⟨D.b,0,none⟩)] (hpH D y h++F) (fun r H'=>r= .pointer (some ⟨D.yb,0,none⟩)∧H'=hpH D y h++F):=by
 have hnone:=fun A=>jb5 (w0:=w0) (D:=D) (y:=y) (h:=h) (F:=A)
 refine zfX ?_;refine zfN ?_;refine za2 ?_;exact zfM
end
set_option maxRecDepth 10000
theorem jdy {T:List Int} {i:Int} {d:Nat} (h: ¬(0≤i∧0<T.length)):pickT T i d=d:=if_neg h
section
variable {w0 : World} {F : jb} {x : jU} {T : List Int} {v : Value}
set_option maxHeartbeats 1000000 in
theorem op_K (hx:J7 x) (hS:Sli w0 F uE v T) (hT:u64s T):Call Tryz.prog w0 15 [.agg (acL x).toArray,v] F (fun r H'=>r=opV (opA x T)∧H'=F):=by
 obtain⟨⟨c,h,a,b,vv⟩,H,V,wk,k,u⟩:=x
 unfold acL opV opA;dsimp only
 by_cases hl:0<T.length
 ·have hl0:((T.length:Nat):Int)>0:=by omega
  have hl1: ¬((T.length:Nat):Int)=0:=by omega
  by_cases hH:0≤H
  ·have hH':H≥0:=hH
   obtain⟨i,e,i1,i2,i3,i4⟩:=pick_at hT hH hl h
   have i3':T[((i:Nat):Int).toNat]?=some ((e:Nat):Int):=i3
   rw[i4]
   by_cases hV:0≤V
   ·have hV':V≥0:=hV
    obtain⟨j,f,j1q,j2,j3q,j4q⟩:=pick_at hT hV hl vv
    have j3':T[((j:Nat):Int).toNat]?=some ((f:Nat):Int):=j3q
    rw[j4q];refine Call.enter2 (n:=43) (by kernel_rfl) Tryz.func15 rfl rfl rfl ?_;refine zit ?_;intro b2 b4;refine zaZ ?_;refine z3 ?_;refine zfd ?_;intro b5;refine zdH ?_;refine zca ?_;refine zp ?_;refine zaz ?_;refine zA ?_;refine zcx ?_;refine zbs ?_;refine zw ?_;refine zcI ?_;refine zdC ?_
    (first|(refine KL.v rfl (Val.fieldSl (k:=5) rfl rfl) ?_)|(refine KL.v rfl (Val.fieldAddr0 (k:=5) rfl rfl) ?_)|(refine KL.v rfl (Val.fieldAddrZ rfl rfl) ?_)|(refine KL.v rfl (Val.fieldAddr (k:=5) rfl rfl) ?_))
    refine zbo ?_;refine ze ?_;refine zjO ?_
    (first|(refine KL.v rfl (Val.remN rfl rfl (by omega)) ?_)|(refine KL.v rfl (Val.rem rfl rfl (by omega)) ?_))
    rw[i1];refine zk1 ?_;refine zbo ?_;refine zc7 ?_;refine zfW ?_;refine zdH ?_;refine zbI ?_;refine zp ?_;refine zaz ?_;refine zA ?_;refine zcx ?_;refine zbs ?_;refine zw ?_;refine zcI ?_;refine zdC ?_
    (first|(refine KL.v rfl (Val.fieldSl (k:=6) rfl rfl) ?_)|(refine KL.v rfl (Val.fieldAddr0 (k:=6) rfl rfl) ?_)|(refine KL.v rfl (Val.fieldAddrZ rfl rfl) ?_)|(refine KL.v rfl (Val.fieldAddr (k:=6) rfl rfl) ?_))
    refine zbo ?_;refine ze ?_;refine zjO ?_
    (first|(refine KL.v rfl (Val.remN rfl rfl (by omega)) ?_)|(refine KL.v rfl (Val.rem rfl rfl (by omega)) ?_))
    rw[j1q];refine zk1 ?_;refine zbo ?_
    (first|(refine KL.v rfl (Val.fieldSl (k:=4) rfl rfl) ?_)|(refine KL.v rfl (Val.fieldAddr0 (k:=4) rfl rfl) ?_)|(refine KL.v rfl (Val.fieldAddrZ rfl rfl) ?_)|(refine KL.v rfl (Val.fieldAddr (k:=4) rfl rfl) ?_))
    refine zfW ?_;refine zW ?_;refine zlh ?_;exact zZ
   ·have hV': ¬V≥0:=hV
    rw[jdy (i:=V) (fun q=>hV q.1)];refine Call.enter2 (n:=43) (by kernel_rfl) Tryz.func15 rfl rfl rfl ?_;refine zit ?_;intro b2 b4;refine zaZ ?_;refine z3 ?_;refine zfd ?_;intro b5;refine zdH ?_;refine zca ?_;refine zp ?_;refine zaz ?_;refine zA ?_;refine zcx ?_;refine zbs ?_;refine zw ?_;refine zcI ?_;refine zdC ?_
    (first|(refine KL.v rfl (Val.fieldSl (k:=5) rfl rfl) ?_)|(refine KL.v rfl (Val.fieldAddr0 (k:=5) rfl rfl) ?_)|(refine KL.v rfl (Val.fieldAddrZ rfl rfl) ?_)|(refine KL.v rfl (Val.fieldAddr (k:=5) rfl rfl) ?_))
    refine zbo ?_;refine ze ?_;refine zjO ?_
    (first|(refine KL.v rfl (Val.remN rfl rfl (by omega)) ?_)|(refine KL.v rfl (Val.rem rfl rfl (by omega)) ?_))
    rw[i1];refine zk1 ?_;refine zbo ?_;refine zc7 ?_;refine zfW ?_;refine zdH ?_;refine zbI ?_;refine zp ?_;refine zbO ?_;refine zax ?_;refine zz ?_;refine zlh ?_;exact zZ
  ·have hH': ¬H≥0:=hH
   rw[jdy (i:=H) (fun q=>hH q.1)]
   by_cases hV:0≤V
   ·have hV':V≥0:=hV
    obtain⟨j,f,j1q,j2,j3q,j4q⟩:=pick_at hT hV hl vv
    have j3':T[((j:Nat):Int).toNat]?=some ((f:Nat):Int):=j3q
    rw[j4q];refine Call.enter2 (n:=43) (by kernel_rfl) Tryz.func15 rfl rfl rfl ?_;refine zit ?_;intro b2 b4;refine zaZ ?_;refine z3 ?_;refine zfd ?_;intro b5;refine zdH ?_;refine zca ?_;refine zp ?_;refine zbO ?_;refine zax ?_;refine z9 ?_;refine zbI ?_;refine zp ?_;refine zaz ?_;refine zA ?_;refine zcx ?_;refine zbs ?_;refine zw ?_;refine zcI ?_;refine zdC ?_
    (first|(refine KL.v rfl (Val.fieldSl (k:=6) rfl rfl) ?_)|(refine KL.v rfl (Val.fieldAddr0 (k:=6) rfl rfl) ?_)|(refine KL.v rfl (Val.fieldAddrZ rfl rfl) ?_)|(refine KL.v rfl (Val.fieldAddr (k:=6) rfl rfl) ?_))
    refine zbo ?_;refine ze ?_;refine zjO ?_
    (first|(refine KL.v rfl (Val.remN rfl rfl (by omega)) ?_)|(refine KL.v rfl (Val.rem rfl rfl (by omega)) ?_))
    rw[j1q];refine zk1 ?_;refine zbo ?_
    (first|(refine KL.v rfl (Val.fieldSl (k:=4) rfl rfl) ?_)|(refine KL.v rfl (Val.fieldAddr0 (k:=4) rfl rfl) ?_)|(refine KL.v rfl (Val.fieldAddrZ rfl rfl) ?_)|(refine KL.v rfl (Val.fieldAddr (k:=4) rfl rfl) ?_))
    refine zfW ?_;refine zW ?_;refine zlh ?_;exact zZ
   ·have hV': ¬V≥0:=hV
    rw[jdy (i:=V) (fun q=>hV q.1)];refine Call.enter2 (n:=43) (by kernel_rfl) Tryz.func15 rfl rfl rfl ?_;refine zit ?_;intro b2 b4;refine zaZ ?_;refine z3 ?_;refine zfd ?_;intro b5;refine zdH ?_;refine zca ?_;refine zp ?_;refine zbO ?_;refine zax ?_;refine z9 ?_;refine zbI ?_;refine zp ?_;refine zbO ?_;refine zax ?_;refine zz ?_;refine zlh ?_;exact zZ
 ·have hl0: ¬((T.length:Nat):Int)>0:=by omega
  rw[jdy (i:=H) (fun q=>hl q.2),jdy (i:=V) (fun q=>hl q.2)]
  by_cases hH:0≤H
  ·have hH':H≥0:=hH
   by_cases hV:0≤V
   ·have hV':V≥0:=hV
    refine Call.enter2 (n:=43) (by kernel_rfl) Tryz.func15 rfl rfl rfl ?_;refine zit ?_;intro b2 b4;refine zaZ ?_;refine z3 ?_;refine zfd ?_;intro b5;refine zdH ?_;refine zca ?_;refine zp ?_;refine zaz ?_;refine zA ?_;refine zcx ?_;refine zcq ?_;refine zw ?_;refine z9 ?_;refine zbI ?_;refine zp ?_;refine zaz ?_;refine zA ?_;refine zcx ?_;refine zcq ?_;refine zw ?_;refine zz ?_;refine zlh ?_;exact zZ
   ·have hV': ¬V≥0:=hV
    refine Call.enter2 (n:=43) (by kernel_rfl) Tryz.func15 rfl rfl rfl ?_;refine zit ?_;intro b2 b4;refine zaZ ?_;refine z3 ?_;refine zfd ?_;intro b5;refine zdH ?_;refine zca ?_;refine zp ?_;refine zaz ?_;refine zA ?_;refine zcx ?_;refine zcq ?_;refine zw ?_;refine z9 ?_;refine zbI ?_;refine zp ?_;refine zbO ?_;refine zax ?_;refine zz ?_;refine zlh ?_;exact zZ
  ·have hH': ¬H≥0:=hH
   by_cases hV:0≤V
   ·have hV':V≥0:=hV
    refine Call.enter2 (n:=43) (by kernel_rfl) Tryz.func15 rfl rfl rfl ?_;refine zit ?_;intro b2 b4;refine zaZ ?_;refine z3 ?_;refine zfd ?_;intro b5;refine zdH ?_;refine zca ?_;refine zp ?_;refine zbO ?_;refine zax ?_;refine z9 ?_;refine zbI ?_;refine zp ?_;refine zaz ?_;refine zA ?_;refine zcx ?_;refine zcq ?_;refine zw ?_;refine zz ?_;refine zlh ?_;exact zZ
   ·have hV': ¬V≥0:=hV
    refine Call.enter2 (n:=43) (by kernel_rfl) Tryz.func15 rfl rfl rfl ?_;refine zit ?_;intro b2 b4;refine zaZ ?_;refine z3 ?_;refine zfd ?_;intro b5;refine zdH ?_;refine zca ?_;refine zp ?_;refine zbO ?_;refine zax ?_;refine z9 ?_;refine zbI ?_;refine zp ?_;refine zbO ?_;refine zax ?_;refine zz ?_;refine zlh ?_;exact zZ
end
open Go.RowKit
set_option maxRecDepth 10000
def haE:Enc jU:=⟨acL,10,fun _=>rfl,by intro x v hv;simp[acL] at hv;rcases hv with rfl|rfl|rfl|rfl|rfl|rfl|rfl|rfl|rfl|rfl<;>rfl⟩
section
variable {C : HpC} {h h' : HpP} {T G : List Int} {op : OpP}
theorem StI.new0 (hC:jk C):StI C (newH C) [] []:=⟨HeI.new hC,fun x hx=>(by cases hx),fun x hx=>(by cases hx)⟩
end
open Go.RowKit Go.ChangeShapes Go.WideShapes Go.ChangeAt Go.Deep Go.Joins
set_option maxRecDepth 100000
section
variable {H : Type} {enc : TypeId × Value → H} {W : World}
theorem jdL {fuel:Nat} {cs:List Value} {x:DataW H × List MemPlace} (hx:DataW.trod enc Tryz.prog W 0 (fun _=>true) true fuel 35 cs=some x) (hlen:cs.length=5): ∃ y:OpP,cs=[.int .u8 (y.c:Nat), .int .u64 (y.h:Nat), .int .i64 y.a, .int .i64 y.b, .int .u64 (y.v:Nat)]∧JN y:=by
 obtain⟨c0,c1,c2,c3,c4,rfl⟩: ∃ c0 c1 c2 c3 c4,cs=[c0,c1,c2,c3,c4]:=by
  match cs,hlen with
  | [c0,c1,c2,c3,c4],_=>exact⟨c0,c1,c2,c3,c4,rfl⟩
 obtain⟨xs,n,_,rfl,hl,hxl,hf⟩:=DataW.trod_struct Tryz.underlying35 hx
 have k8:(Tryz.prog).cellsOf 5=1:=by kernel_rfl
 have ku:(Tryz.prog).cellsOf 33=1:=by kernel_rfl
 have ki:(Tryz.prog).cellsOf 3=1:=by kernel_rfl
 match xs,hxl with
 | [y0,y1,y2,y3,y4],_=>
  have h0:=hf 0 _ rfl
  have h1:=hf 1 _ rfl
  have h2:=hf 2 _ rfl
  have h3:=hf 3 _ rfl
  have h4:=hf 4 _ rfl
  obtain⟨a0,e0,-,w0⟩:=DataW.trod_int Tryz.underlying5 (by simpa [k8,ku,ki] using h0)
  obtain⟨a1,e1,-,w1⟩:=DataW.trod_int Tryz.underlying33 (by simpa [k8,ku,ki] using h1)
  obtain⟨a2,e2,-,w2⟩:=DataW.trod_int Tryz.underlying3 (by simpa [k8,ku,ki] using h2)
  obtain⟨a3,e3,-,w3⟩:=DataW.trod_int Tryz.underlying3 (by simpa [k8,ku,ki] using h3)
  obtain⟨a4,e4,-,w4⟩:=DataW.trod_int Tryz.underlying33 (by simpa [k8,ku,ki] using h4)
  simp at e0 e1 e2 e3 e4
  have hu0:=wf_u8 w0
  have hu1:=jbF w1
  have hu4:=jbF w4
  unfold u8ok at hu0;unfold jaJ at hu1 hu4
  obtain⟨n0,rfl⟩: ∃ n0:Nat,a0=n0:=⟨a0.toNat,by omega⟩
  obtain⟨n1,rfl⟩: ∃ n1:Nat,a1=n1:=⟨a1.toNat,by omega⟩
  obtain⟨n4,rfl⟩: ∃ n4:Nat,a4=n4:=⟨a4.toNat,by omega⟩
  subst e0 e1 e2 e3 e4;exact zjM
theorem hact_in {fuel:Nat} {cs:List Value} {x:DataW H × List MemPlace} (hx:DataW.trod enc Tryz.prog W 0 (fun _=>true) true fuel 37 cs=some x) (hlen:cs.length=10): ∃ y:jU,cs=haE.enc y∧J7 y:=by
 obtain⟨c0,c1,c2,c3,c4,c5,c6,c7,c8,c9,rfl⟩: ∃ c0 c1 c2 c3 c4 c5 c6 c7 c8 c9,cs=[c0,c1,c2,c3,c4,c5,c6,c7,c8,c9]:=by
  match cs,hlen with
  | [c0,c1,c2,c3,c4,c5,c6,c7,c8,c9],_=>exact⟨c0,c1,c2,c3,c4,c5,c6,c7,c8,c9,rfl⟩
 obtain⟨xs,n,hn,rfl,hl,hxl,hf⟩:=DataW.trod_struct Tryz.underlying37 hx
 have k8:(Tryz.prog).cellsOf 5=1:=by kernel_rfl
 have kb:(Tryz.prog).cellsOf 4=1:=by kernel_rfl
 have ki:(Tryz.prog).cellsOf 3=1:=by kernel_rfl
 have ko:(Tryz.prog).cellsOf 35=5:=by kernel_rfl
 match xs,hxl with
 | [y0,y1,y2,y3,y4,y5],_=>
  have h0:=hf 0 _ rfl
  have h1:=hf 1 _ rfl
  have h2:=hf 2 _ rfl
  have h3:=hf 3 _ rfl
  have h4:=hf 4 _ rfl
  have h5:=hf 5 _ rfl
  obtain⟨o,eo,ho⟩:=jdL (cs:=[c0,c1,c2,c3,c4]) (by simpa [k8,kb,ki,ko] using h0) rfl
  obtain⟨a1,e1,-,w1⟩:=DataW.trod_int Tryz.underlying3 (by simpa [k8,kb,ki,ko] using h1)
  obtain⟨a2,e2,-,w2⟩:=DataW.trod_int Tryz.underlying3 (by simpa [k8,kb,ki,ko] using h2)
  obtain⟨a3,e3,-⟩:=DataW.trod_bool Tryz.underlying4 (by simpa [k8,kb,ki,ko] using h3)
  obtain⟨a4,e4,-,w4⟩:=DataW.trod_int Tryz.underlying3 (by simpa [k8,kb,ki,ko] using h4)
  obtain⟨a5,e5,-,w5⟩:=DataW.trod_int Tryz.underlying5 (by simpa [k8,kb,ki,ko] using h5)
  simp at eo e1 e2 e3 e4 e5
  have hu:=wf_u8 w5
  unfold u8ok at hu
  obtain⟨n5,rfl⟩: ∃ n5:Nat,a5=n5:=⟨a5.toNat,by omega⟩
  obtain⟨q0,q1,q2,q3,q4⟩:=eo
  subst q0 q1 q2 q3 q4 e1 e2 e3 e4 e5;exact zkQ
end
set_option maxRecDepth 100000
theorem jdB {H:Type} {enc:TypeId × Value→H} {W:World} {base:Nat} {v:Value} {d:DataW H} {p:List MemPlace} (ho:Value.okWide Tryz.prog W .any base 26 v) (h:DataW.Trod enc Tryz.prog W 0 (fun _=>true) true 26 v d p):
  ∃ l:List jU,SlW W haE v l∧ ∀ x∈l,J7 x:=slice_sl (P:=Tryz.prog) (E:=haE) Tryz.underlying26 (by kernel_rfl) (by decide) ho h J7 (fun fuel cs x hx hl=>hact_in hx hl)
open Go.RowKit
set_option maxRecDepth 10000
section
variable {w0 : World} {F : jb} {c : Cfg} {vc vt v u : Value} {l m : List jU}
theorem jgq {C:HpC} {h:HpP} {op:OpP} (hC:jk C) (hI:HeI C h):(hpDo C h op).1.h<18446744073709551616:=by
 by_cases h0:(hpDo C h op).1.h=0
 ·omega
 ·exact(jel hC hI h0).lt hC
end
set_option maxRecDepth 10000
def LKx (g:PlG) (k d:Nat):List jg:=cutL g.n g.sl k++(List.range d).map (g.sl k)
def fstP (g:PlG) (k j:Nat):Nat:=g.first k+j*g.per k
def mnyP (g:PlG) (k j:Nat):Nat:=min (g.per k) (g.n k-j*g.per k)
def FKx (g:PlG) (k j:Nat):List Int:=(cutL g.pgs (fstP g) k++(List.range j).map (fstP g k)).map fun n=>((n:Nat):Int)
def MKx (g:PlG) (k j:Nat):List Int:=(cutL g.pgs (mnyP g) k++(List.range j).map (mnyP g k)).map fun n=>((n:Nat):Int)
section
variable {g : PlG} {k d j : Nat}
theorem jdF:(LKx g k d).length=g.first k+d:=by simp[LKx,jbR];rfl
theorem je1:(FKx g k j).length=g.page k+j:=by simp[FKx,jbR];rfl
theorem je0:(MKx g k j).length=g.page k+j:=by simp[MKx,jbR];rfl
theorem jhV:LKx g k d++ [g.sl k d]=LKx g k (d+1):=by simp[LKx,List.range_succ]
theorem jhW:FKx g k j++ [((fstP g k j:Nat):Int)]=FKx g k (j+1):=by simp[FKx,List.range_succ]
theorem jeR:MKx g k j++ [((mnyP g k j:Nat):Int)]=MKx g k (j+1):=by simp[MKx,List.range_succ]
theorem LKx_up:LKx g k (g.n k)=LKx g (k+1) 0:=by simp[LKx,cutL]
theorem FKx_up:FKx g k (g.pgs k)=FKx g (k+1) 0:=by simp[FKx,cutL]
theorem MKx_up:MKx g k (g.pgs k)=MKx g (k+1) 0:=by simp[MKx,cutL]
theorem jiv:LKx g g.m 0=g.L:=by simp[LKx,PlG.L]
theorem jiw:FKx g g.m 0=g.firsts:=by simp only[FKx,PlG.firsts,List.range_zero,List.map_nil,List.append_nil];rfl
theorem jiu:MKx g g.m 0=g.manys:=by simp only[MKx,PlG.manys,List.range_zero,List.map_nil,List.append_nil];rfl
theorem je6 (ok:jc g) (hk:k<g.m):j<g.pgs k↔j*g.per k<g.n k:=by
 have h2:=ok.per hk
 have h1:=ok.n hk
 unfold PlG.pgs
 constructor
 ·intro h
  have:=(Nat.le_div_iff_mul_le (show 0<g.per k by omega)).1 (show j+1≤_ from h)
  grind
 ·intro h;refine(Nat.le_div_iff_mul_le (show 0<g.per k by omega)).2 ?_
  grind
theorem sl_in (ok:jc g) (hk:k<g.m) {i:Nat} (hi:i<g.per k):g.sl k (j*g.per k+i)=⟨k,g.y k,(g.page k+j)*g.pg+i*g.y k,g.page k+j⟩:=by
 have h1:(j*g.per k+i)/g.per k=j:=by
  rw[Nat.mul_comm,Nat.mul_add_div (by omega),Nat.div_eq_of_lt hi];rfl
 have h2:(j*g.per k+i)%g.per k=i:=by
  rw[Nat.mul_comm,Nat.mul_add_mod,Nat.mod_eq_of_lt hi]
 grind[PlG.sl]
theorem jib (ok:jc g) (hk:k<g.m) {i:Nat}:i<g.per k↔i*g.y k+g.y k≤g.pg:=by
 have h2:=ok.y k hk
 rw[←Nat.succ_mul];exact Nat.le_div_iff_mul_le (by omega)
end
theorem g_clI {c:Cfg} {t:Int} (ga:GAt c t (gOf c t)):(gOf c t).clI=c.cl:=by
 unfold PlG.clI gOf;rw[List.map_map]
 conv=>rhs;rw [←List.map_id c.cl]
 refine List.map_congr_left fun y hy=>?_
 obtain⟨k,hk⟩:=List.getElem?_of_mem hy
 have:=ga.y k y hk
 grind
structure DnA where
 k:Nat
 oL:Own
 oF:Own
 oM:Own
structure DnC where
 i:Nat
 oL:Own
def plnHp (g:PlG) (k d j jm:Nat) (b8:Nat) (vc:Value) (oL oF oM:Own):jb:=
 (b8,cells [oV oL (LKx g k d).length,oV oF (FKx g k j).length,oV oM (MKx g k jm).length, .int .i64 (g.words:Nat),vc] 53)::(oH slE 68 (LKx g k d) oL++(oH iE 3 (FKx g k j) oF++oH iE 3 (MKx g k jm) oM))
theorem plnHp_app {g:PlG} {k d j jm b8:Nat} {vc:Value} {oL oF oM:Own} {F:jb}:plnHp g k d j jm b8 vc oL oF oM++F=(b8,cells [oV oL (LKx g k d).length,oV oF (FKx g k j).length,oV oM (MKx g k jm).length, .int .i64 (g.words:Nat),vc] 53)::(oH slE 68 (LKx g k d) oL++(oH iE 3 (FKx g k j) oF++(oH iE 3 (MKx g k jm) oM++F))):=by
 simp[plnHp]
set_option maxHeartbeats 4000000 in
theorem rpNew_K {w0:World} {F:jb} {c:Cfg} {vc vt:Value} {t:Int} (hR:Jo w0 F c vc vt) (ht:j9 c t 0=true) (hvc:vc.oneCell'=true):
  Call Tryz.prog w0 21 [jw c vc vt, .int .i64 t] F (fun r H'=> ∃ (v:PlV) (N:jb),(∀ Dc,Sli w0 Dc iE vc c.cl→jdd w0 (N++Dc) v (gOf c t))∧r= .tuple [.agg (plL v (gOf c t)).toArray, .int .i64 0].toArray∧H'=N++F):=by
 have ga:=g_at ht
 have hcl:=g_clI ga
 obtain⟨g,hg⟩: ∃ g,g=gOf c t:=⟨_,rfl⟩
 rw[←hg] at ga hcl⊢
 have hreg:=fun A (hp:Part A F)=>jfq (t:=t) (hR.part hp)
 have hsl:=fun A (k:Nat) (hp:Part A F)=>jhx (t:=t) (k:=(k:Nat)) (hR.part hp)
 rw[ga.region] at hreg
 have ok:=ga.ok
 have hm:=ok.m
 have hgm:=ga.m
 have hgy:=ga.y
 have hgs:=ga.slots
 have hgpg:=ga.page
 have hpgl:=ok.pg
 obtain⟨hS,hT',o1,o2,l1,l2⟩:=hR
 obtain⟨cl,page,tn,workers,grey,gens⟩:=c
 dsimp only at hS hT' l1 l2 hgm hgy hgpg hcl;simp only[jw,jT] at hreg hsl⊢;subst hgpg;simp only[prV] at hreg hsl;clear ga hg ht;refine Call.enter2 (n:=106) (by kernel_rfl) Tryz.func21 rfl rfl rfl ?_;refine zdX ?_;intro b2 b4;refine zu ?_;refine zb3 ?_;refine jq (hreg _ ja) ?_;refine zbA ?_;refine zaG ?_;refine zB ?_;refine zM ?_;refine zfd ?_;intro b8;refine zdH ?_;refine zcO ?_;refine zms ?_;rintro⟨k,oL,oF,oM⟩ ⟨hk,kL,kF,kM⟩;dsimp only at hk kL kF kM⊢;rw[plnHp_app]
 by_cases hlt:k<g.m
 ·obtain⟨y,hy⟩:=jA (l:=cl) (k:=k) (by omega)
  have hyk:=hgy k y hy
  subst hyk
  have hkl:k<cl.length:=by omega
  have hsl1:=fun A hp=>hsl A k hp
  rw[hgs k hlt] at hsl1;dsimp only at hsl1
  have y1:=ok.y k hlt
  have p1:=ok.per hlt
  have n1:=ok.n hlt
  have g1:=ok.pgs hlt
  have f1:=ok.first (show k+1≤g.m by omega)
  have q1:=ok.page (show k+1≤g.m by omega)
  have f2:g.first (k+1)=g.first k+g.n k:=rfl
  have q2:g.page (k+1)=g.page k+g.pgs k:=rfl
  clear hsl hgs hgy;refine zcY ?_;refine zce ?_;refine zbc ?_;refine zcG ?_;refine jq (hsl1 _ ja) ?_;refine zcw ?_;refine zb9 ?_;refine zmt ?_;rintro⟨j,oL,oF,oM⟩ ⟨hjp,kL,kF,kM⟩;dsimp only at hjp kL kF kM⊢
  by_cases hj:j<g.pgs k
  ·have hd:=(je6 ok hlt).1 hj
   have hmin:min (j*g.per k) (g.n k)=j*g.per k:=by omega
   rw[hmin] at kL⊢
   obtain⟨D,hD⟩: ∃ D,D=j*g.per k:=⟨_,rfl⟩
   have hDn':(j+1)*g.per k=D+g.per k:=by rw[Nat.succ_mul,hD]
   have hfs:FKx g k j++ [(((LKx g k D).length:Nat):Int)]=FKx g k (j+1):=by rw[jdF,hD];exact jhW
   have hmp:mnyP g k j=min (g.per k) (g.n k-D):=by unfold mnyP;rw [hD]
   have hsle: ∀ i,i<g.per k→g.sl k (D+i)=⟨k,g.y k,(g.page k+j)*g.pg+i*g.y k,g.page k+j⟩:=fun i hi=>by rw[hD];exact sl_in ok hlt hi
   have hle: ∀ i,i<g.per k↔i*g.y k+g.y k≤g.pg:=fun i=>jib ok hlt
   rw[←hD] at kL hd⊢
   have hfl:=je1 (g:=g) (k:=k) (j:=j)
   have hfl1:=je1 (g:=g) (k:=k) (j:=j+1)
   have hml:=je0 (g:=g) (k:=k) (j:=j)
   have hml1:=je0 (g:=g) (k:=k) (j:=j+1)
   have hbF:(FKx g k (j+1)).length≤4294967296:=by omega
   have hbM:(MKx g k (j+1)).length≤4294967296:=by omega
   have hgt0:((g.n k-D:Nat):Int)>0:=by omega
   have hPw:(g.page k+j)*g.pg≤g.words:=Nat.mul_le_mul_right _ (by have:=jbD (n:=g.pgs) hlt;unfold PlG.pages;unfold PlG.page at*;omega)
   have hww:=ok.words
   clear hD;rw[plnHp_app];refine zaA ?_;refine zbs ?_;refine ziT ?_;refine zF ?_;refine zbW ?_;refine zaW ?_;refine zdJ ?_;refine zc7 ?_;refine zbo ?_;refine zfR ?_;refine zbo ?_;refine zjO ?_;refine zaj ?_;intro b52;refine KL.e rfl (Eff.appZ (E:=iE) (xs:=FKx g k j) (o:=oF) (ys:=[(((LKx g k D).length:Nat):Int)]) (zs:=FKx g k (j+1)) rfl rfl rfl rfl rfl rfl jn (by assumption) (Sli.blk jF rfl (by simp) (by decide) rfl) hfs hbF rfl) ?_;rintro _ _ ⟨o6,ok6,rfl,rfl⟩;refine zc7 ?_;refine zfW ?_;refine zW ?_;refine zcn ?_;refine zmu ?_;rintro⟨i,oL2⟩ ⟨hDi,hip,kL2⟩;dsimp only at hDi hip kL2⊢;rw[plnHp_app]
   have hlei:=hle i
   have hLl:=jdF (g:=g) (k:=k) (d:=D+i)
   have hiy:i*g.y k≤64:=by
    have h1:i*g.y k≤g.per k*g.y k:=Nat.mul_le_mul_right _ hip
    have h2:g.per k*g.y k≤g.pg:=Nat.div_mul_le_self _ _
    omega
   have hLl1:=jdF (g:=g) (k:=k) (d:=D+(i+1))
   by_cases h1:D+i<g.n k
   ·have hg1:((g.n k-(D+i):Nat):Int)>0:=by omega
    by_cases h2:i<g.per k
    ·have hle2:((i*g.y k:Nat):Int)+((g.y k:Nat):Int)≤((g.pg:Nat):Int):=by have:=hlei.1 h2;omega
     have hx:=hsle i h2
     have hbL:(LKx g k (D+(i+1))).length≤4294967296:=by omega
     have hq1:(((FKx g k j).length:Nat):Int)*((g.pg:Nat):Int)=(((g.page k+j)*g.pg:Nat):Int):=by rw[hfl];simp
     have hq2:(((g.page k+j)*g.pg:Nat):Int)+((i*g.y k:Nat):Int)=(((g.sl k (D+i)).addr:Nat):Int):=by rw[hx];simp
     have hq3:(((FKx g k j).length:Nat):Int)=(((g.sl k (D+i)).page:Nat):Int):=by rw[hx,hfl]
     have hq4:((g.y k:Nat):Int)=(((g.sl k (D+i)).size:Nat):Int):=by rw[hx]
     have hq5:((k:Nat):Int)=(((g.sl k (D+i)).cls:Nat):Int):=by rw[hx]
     obtain⟨PP,hPP⟩: ∃ PP,PP=(g.page k+j)*g.pg:=⟨_,rfl⟩
     rw[←hPP] at hq1 hq2 hPw
     have hsn:LKx g k (D+i)++ [g.sl k (D+i)]=LKx g k (D+(i+1)):=jhV
     refine zdR ?_;refine zhq ?_;refine zj ?_;refine zjP ?_;refine zf8 ?_;refine ziy ?_;refine zbt ?_;refine zdn ?_;refine zen ?_;refine zgw ?_;refine zao ?_;refine zke ?_;refine zcB ?_;refine KE.next (K.condT rfl (K.skip (KE.next (K.seq (K.block ?_)))));refine zar ?_;refine zmv ?_;refine zcU ?_;refine zj ?_;refine zfa ?_;refine zeJ ?_;refine ziP ?_;refine zeJ ?_;refine zhe ?_;refine zS ?_;refine zhr ?_;refine zj ?_;refine zgx ?_;refine zj ?_;refine zhJ ?_;refine zh3 ?_;intro b92;refine zbQ ?_
     -- STOP at region 16 op 17: {"h": "Op.call", "a": [{"callee": {"h": "Callee.builtin", "a": ["Builtin.append"]}, "args": [{"h": "Operand.tmp", "a": [77]}, {"h": "Operand.tmp", "a": [92]}], "argTypes": [51, 51]}]}
     rw[hq1,hq2,hq3];refine KD.e rfl rfl (Eff.appZ (E:=slE) (xs:=LKx g k (D+i)) (o:=oL2) (ys:=[g.sl k (D+i)]) (zs:=LKx g k (D+(i+1))) rfl rfl rfl rfl rfl rfl jn (by assumption) (by first|exact Sli.blk jF rfl (by first|decide|simp) (by first|decide|(unfold maxLen;omega)) rfl|exact Sli.old (by assumption)|exact Sli.own jn (by assumption) j6|assumption|exact Sli.part (by assumption) ja) (hsn) (by first|assumption|omega|(simp<;>fail)|(simp;omega)) rfl) ?_;rintro _ _ ⟨o',ok',rfl,rfl⟩;refine⟨ja,?_⟩;refine zfa ?_;refine zjg ?_;refine zD ?_;rw[←hq3]
     have he1:((i*g.y k:Nat):Int)+((g.y k:Nat):Int)=(((i+1)*g.y k:Nat):Int):=by rw[Nat.succ_mul];omega
     have he2:((g.n k-(D+i):Nat):Int)-1=((g.n k-(D+(i+1)):Nat):Int):=by omega
     clear hq1 hq2 hq3 hq4 hq5 hx hsn;refine zaf ?_;refine ze ?_;refine zdO ?_;refine zk ?_;refine za0 ?_;refine zdY ?_;refine zbL ?_;refine ze ?_;refine zB ?_;refine zcP ?_;refine z8 ?_;refine zbT ?_;refine zbY ?_;rw[he1,he2];exact zmw
    ·have hgt2: ¬((i*g.y k:Nat):Int)+((g.y k:Nat):Int)≤((g.pg:Nat):Int):=by have:=mt hlei.2 h2;omega
     have hie:i=g.per k:=by omega
     have hDn:min ((j+1)*g.per k) (g.n k)=D+i:=by rw[hDn'];omega
     have hmn:MKx g k j++ [((i:Nat):Int)]=MKx g k (j+1):=by rw[←jeR,hmp,show min (g.per k) (g.n k-D)=i by omega]
     ·skip
      refine zdR ?_;refine zhq ?_;refine zj ?_;refine zjP ?_;refine zf8 ?_;refine ziy ?_;refine zbt ?_;refine zdn ?_;refine zen ?_;refine zgw ?_;refine zao ?_;refine zkf ?_;refine zcB ?_;refine ziE ?_;refine zgT ?_;refine zex ?_;refine zbo ?_;refine ze ?_;refine zaj ?_;intro b102;refine KL.e rfl (Eff.appZ (E:=iE) (xs:=MKx g k j) (o:=oM) (ys:=[((i:Nat):Int)]) (zs:=MKx g k (j+1)) rfl rfl rfl rfl rfl rfl jn (by assumption) (by first|exact Sli.blk jF rfl (by first|decide|simp) (by first|decide|(unfold maxLen;omega)) rfl|exact Sli.old (by assumption)|exact Sli.own jn (by assumption) j6|assumption|exact Sli.part (by assumption) ja) (hmn) (by first|assumption|omega|(simp<;>fail)|(simp;omega)) rfl) ?_;rintro _ _ ⟨o',ok',rfl,rfl⟩;refine zex ?_;refine zfW ?_;refine zdm ?_;exact zjQ
   ·have hg1: ¬((g.n k-(D+i):Nat):Int)>0:=by omega
    have hDn:min ((j+1)*g.per k) (g.n k)=D+i:=by rw[hDn'];omega
    have hmn:MKx g k j++ [((i:Nat):Int)]=MKx g k (j+1):=by rw[←jeR,hmp,show min (g.per k) (g.n k-D)=i by omega]
    ·skip
     ·skip
      refine zdR ?_;refine zhq ?_;refine zj ?_;refine KD.v0 rfl rfl (Val.isF (Val.gtr rfl rfl) jL) ?_;refine zcT ?_;refine zfg ?_;refine zhs ?_;refine zaB ?_;refine ziE ?_;refine zgT ?_;refine zex ?_;refine zbo ?_;refine ze ?_;refine zaj ?_;intro b102;refine KL.e rfl (Eff.appZ (E:=iE) (xs:=MKx g k j) (o:=oM) (ys:=[((i:Nat):Int)]) (zs:=MKx g k (j+1)) rfl rfl rfl rfl rfl rfl jn (by assumption) (by first|exact Sli.blk jF rfl (by first|decide|simp) (by first|decide|(unfold maxLen;omega)) rfl|exact Sli.old (by assumption)|exact Sli.own jn (by assumption) j6|assumption|exact Sli.part (by assumption) ja) (hmn) (by first|assumption|omega|(simp<;>fail)|(simp;omega)) rfl) ?_;rintro _ _ ⟨o',ok',rfl,rfl⟩;refine zex ?_;refine zfW ?_;refine zdm ?_;exact zjQ
  ·have hje:j=g.pgs k:=by omega
   have hnle:g.n k≤j*g.per k:=by have:=mt (je6 ok hlt).2 hj;omega
   have hmin:min (j*g.per k) (g.n k)=g.n k:=by omega
   rw[hmin] at kL⊢;subst hje;rw[plnHp_app];rw[LKx_up] at kL⊢;rw[FKx_up] at kF⊢;rw[MKx_up] at kM⊢
   have hgt0: ¬((g.n k-g.n k:Nat):Int)>0:=by omega
   refine zaA ?_;refine zcq ?_;refine zcf ?_;refine zcg ?_;exact zmx
 ·have hke:k=g.m:=by omega
  subst hke;rw[jiv] at kL⊢;rw[jiw] at kF⊢;rw[jiu] at kM⊢;refine zcY ?_;refine zcV ?_;refine z3 ?_;refine zbb ?_;refine zf ?_;refine KE.fin (H':=(oH slE 68 g.L oL++(oH iE 3 g.firsts oF++oH iE 3 g.manys oM))++F) je rfl jd (by simp only[List.append_assoc];exact ja) ⟨⟨oV oL g.L.length,oV oF g.firsts.length,oV oM g.manys.length,vc⟩,_,fun Dc hC=>⟨Sli.own (by simp only[List.append_assoc];exact jn) kL rfl,Sli.own (by simp only[List.append_assoc];exact jn) kF rfl,Sli.own (by simp only[List.append_assoc];exact jn) kM rfl,by rw[hcl];exact hC.part (by simp only[List.append_assoc];exact ja),jc4 _ _,jc4 _ _,jc4 _ _,hvc⟩,rfl,rfl⟩
open Go.RowKit
set_option maxRecDepth 10000
structure ZrS where
 i:Nat
section
variable {w0 : World} {F : jb} {D : HpD} {y : CyM} {h : HpP} {nf nk : Nat}
theorem cMWords_K {g:PlG} {long:Nat} {s:CyP} {k:Nat} {x:List Int} (h:CpR g long y s) (hk:y.B.m.R[k]?=some x):Call Tryz.prog w0 36 [.pointer (some ⟨y.B.m.b,0,none⟩), .int .i64 (k:Nat)] (cycH y++F) (fun r H'=> ∃ o,oOk uE x o∧r= .tuple [oV o x.length, .int .i64 0].toArray∧H'=oH uE 33 x o++(cycH y++F)):=by
 refine Call.at_ (Words_K (w0:=w0) h.p.bo.m hk) (by simp only[cycH_app];exact ja) ?_;rintro _ _ ⟨o,ko,rfl,rfl⟩;exact zkR
theorem jmg {k:Nat} {x:List Int} (h1:HpR D nf nk y h) (hk:(D.R0.set D.C.tn h.s.W.x)[k]?=some x):Call Tryz.prog w0 36 [.pointer (some ⟨D.mb,0,none⟩), .int .i64 (k:Nat)] (hpH D y h++F) (fun r H'=> ∃ o,oOk uE x o∧r= .tuple [oV o x.length, .int .i64 0].toArray∧H'=oH uE 33 x o++(hpH D y h++F)):=by
 have hc:=fun A=>cMWords_K (w0:=w0) (F:=A) (k:=k) (x:=x) h1.p (by rw[h1.R];exact hk)
 rw[h1.m] at hc;refine zjD ?_;rintro _ _ ⟨o,ko,rfl,rfl⟩;exact zkZ
theorem jii {t:Nat} (h1:HpR D nf nk y h):Call Tryz.prog w0 24 [.pointer (some ⟨D.ab,0,none⟩), .int .i64 (t:Nat)] (hpH D y h++F) (fun r H'=>r= .bool ((h.s.A[t]?).getD false)∧H'=hpH D y h++F):=
 h1.lift0 fun A=>by have:=jfb (w0:=w0) (F:=A) (t:=t) h1.p;rw [h1.a] at this;exact this
set_option maxHeartbeats 2000000 in
theorem zero_K {v:PlV} (h1:HpR D nf nk y h) (hI:HeI D.C h) (hT:D.C.tn<D.R0.length) (hP:jdd w0 F v D.C.g):Call Tryz.prog w0 35 [.pointer (some ⟨D.b,0,none⟩), .pointer (some ⟨D.mb,0,none⟩), .agg (plL v D.C.g).toArray, .int .i64 (D.C.tn:Nat)] (hpH D y h++F) (fun r H'=>r= .bool true∧H'=hpH D y h++F):=by
 have okg:=h1.p.okg
 have hsl:=okg.slots
 have hxl:=h1.p.i.w.x
 have hwd:=okg.words
 have hAl:=hI.ok.A
 have hW:=fun A=>jmg (w0:=w0) (F:=A) (k:=D.C.tn) (x:=h.s.W.x) h1 (by rw[List.getElem?_set_self hT])
 have hCy:=fun A=>jbC (w0:=w0) (F:=A) (D:=D) (y:=y) (h:=h)
 have hAr:=fun A=>jeF (w0:=w0) (F:=A) h1
 have hHs:=fun A (t:Nat)=>jii (w0:=w0) (F:=A) (t:=t) h1
 have hzr:=fun(t:Nat)=>hI.zr (t:=t)
 obtain⟨hL,_,_,_,q1,q2,q3,q4⟩:=hP
 have hLl:D.C.g.L.length=D.C.g.slots:=jbX
 unfold plL
 obtain⟨x,hx⟩: ∃ x,h.s.W.x=x:=⟨_,rfl⟩
 rw[hx] at hxl;simp only[hx] at hW hzr
 have hxl':((x.length:Nat):Int)=((D.C.g.words:Nat):Int):=by omega
 refine Call.enter4 (n:=65) (by kernel_rfl) Tryz.func35 rfl rfl rfl ?_;refine zcN ?_;intro b6;refine zat ?_;refine j4 (hW _) ja ?_;rintro _ _ ⟨o,ko,rfl,rfl⟩;refine zbA ?_;refine zA ?_;refine zbW ?_;refine zi ?_;refine zd9 ?_;refine zed ?_;refine z9 ?_;refine zcO ?_;refine K.loopT (σ:=ZrS) [(0,_),(6,_),(9,_)] (fun s kp_=>(11, .int .i64 (s.i:Nat))::kp_) (fun s=>oH uE 33 x o++(hpH D y h++((b6,cells [v.L,v.F,v.M, .int .i64 (D.C.g.words:Nat),v.C] 53)::F))) (fun s=>s.i≤D.C.g.L.length) (fun s=>D.C.g.L.length-s.i) (⟨0⟩) jj ja (Nat.zero_le _) ?_;rintro⟨i⟩ hi;dsimp only at hi⊢
 by_cases hc1:i<D.C.g.L.length
 ·have hc1':((i:Nat):Int)<((D.C.g.L.length:Nat):Int):=by omega
  obtain⟨yy,hyy⟩:=jA hc1
  have hfit:=okg.fits hyy
  have hz:=hzr i
  refine zcY ?_;refine zce ?_;refine zbc ?_;refine zcO ?_;refine K.loopT (σ:=ZrS) [(0,_),(6,_),(9,_),(11,_)] (fun s kp_=>(12, .int .i64 (s.i:Nat))::kp_) (fun s=>oH uE 33 x o++(hpH D y h++((b6,cells [v.L,v.F,v.M, .int .i64 (D.C.g.words:Nat),v.C] 53)::F))) (fun s=>s.i≤yy.size) (fun s=>yy.size-s.i) (⟨0⟩) jj ja (Nat.zero_le _) ?_;rintro⟨k⟩ hk;dsimp only at hk⊢
  by_cases hc2:k<yy.size
  ·have hc2':((k:Nat):Int)<((yy.size:Nat):Int):=by omega
   cases hb:(h.s.A[i]?).getD false with
   |true=>
    have hH:=fun A=>hHs A i
    simp only[hb] at hH;refine zcY ?_;refine zcP ?_;refine zh1 ?_;refine z8 ?_;refine zab ?_;refine zeT ?_;refine ji (hCy _) ja ?_;refine zdk ?_;refine ji (hAr _) ja ?_;refine zgf ?_;refine ji (hH _) ja ?_;refine zk8 ?_;refine zw ?_;refine zcf ?_;refine zcg ?_;exact KE.again ⟨i+1⟩ jj ja hc1 (by show D.C.g.L.length-(i+1)<D.C.g.L.length-i;omega)
   |false=>
    have hA:h.s.A[i]?=some false:=by
     obtain⟨b,hb2⟩:=jA (l:=h.s.A) (k:=i) (by omega)
     rw[hb2] at hb⊢;exact congrArg some hb
    have hw0':=hz hA yy hyy k hc2
    have hget:=jh0 (x:=x) (a:=yy.addr+k) (by omega)
    rw[hw0'] at hget
    have e5:((yy.addr:Nat):Int)+((k:Nat):Int)=((yy.addr+k:Nat):Int):=by omega
    have hlt9:yy.addr+k<x.length:=by omega
    have hget2:x[(((yy.addr:Nat):Int)+((k:Nat):Int)).toNat]?=some 0:=by rw[e5,Int.toNat_natCast];exact hget
    have hlt2:(((yy.addr:Nat):Int)+((k:Nat):Int)).toNat<x.length:=by rw[e5,Int.toNat_natCast];exact hlt9
    have hH:=fun A=>hHs A i
    simp only[hb] at hH;refine zcY ?_;refine zcP ?_;refine zh1 ?_;refine z8 ?_;refine zab ?_;refine zeT ?_;refine ji (hCy _) ja ?_;refine zdk ?_;refine ji (hAr _) ja ?_;refine zgf ?_;refine ji (hH _) ja ?_;refine ziw ?_;refine zw ?_;refine zbc ?_;refine ze ?_;refine zB ?_;refine zcP ?_;refine zgA ?_;refine z8 ?_;refine zbZ ?_;refine ze8 ?_;refine zjx ?_;refine zaE ?_;refine zeD ?_;exact KE.again ⟨k+1⟩ jj ja hc2 (by show yy.size-(k+1)<yy.size-k;omega)
  ·have hc2': ¬((k:Nat):Int)<((yy.size:Nat):Int):=by omega
   refine zcY ?_;refine zcP ?_;refine zh1 ?_;refine z8 ?_;refine zT ?_;refine zfh ?_;refine zcf ?_;refine zcg ?_;exact KE.again ⟨i+1⟩ jj ja hc1 (by show D.C.g.L.length-(i+1)<D.C.g.L.length-i;omega)
 ·have hc1': ¬((i:Nat):Int)<((D.C.g.L.length:Nat):Int):=by omega
  refine zcY ?_;refine zcV ?_;exact zt
end
end Go.Proofs.YtpcgafhgfjlkmaaGreatDoor.Sw
