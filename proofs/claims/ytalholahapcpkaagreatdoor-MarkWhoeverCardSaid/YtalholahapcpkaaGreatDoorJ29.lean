/- The walker and the contracts that the law needs, part 29. -/
import Derived.Test.YtalholahapcpkaaGreatDoorD1
import Derived.Test.YtalholahapcpkaaGreatDoorJ13
import Derived.Test.YtalholahapcpkaaGreatDoorJ17
import Derived.Test.YtalholahapcpkaaGreatDoorJ26
import Derived.Test.YtalholahapcpkaaGreatDoorJ27
import Derived.Test.YtalholahapcpkaaGreatDoorJ28
namespace Go.Proofs.YtalholahapcpkaaGreatDoor.Sw
open Go.Proofs.YtalholahapcpkaaGreatDoor renaming lo → qL, hi → qH
open Go.RowKit
set_option linter.unusedVariables false
set_option linter.unusedSimpArgs false
set_option maxRecDepth 10000
section
variable {w0 : World} {F : Heap} {t : TbM}
theorem tbSlot_K {i : Nat} (ok : TbOk t) : Call Tryz.prog w0 253 [.pointer (some ⟨t.b, 0, none⟩), .int .i64 (i : Nat)] (tabH t ++ F)
  (fun r H' => r = .tuple [.int .i64 ((slotT t.l (i : Nat)).getD 0), .bool (slotT t.l (i : Nat)).isSome].toArray ∧ H' = tabH t ++ F) := by
 have ho := ok.o
 have hn := ok.n
 unfold slotT
 rw [if_pos (by omega), Int.toNat_natCast]
 by_cases hlt : i < t.l.length
 ·obtain ⟨e, he⟩ := get_of_lt hlt
  have hge : ¬ ((i : Nat) : Int) ≥ (t.l.length : Nat) := by omega
  rw [he]
  dsimp only
  obtain ⟨st, sl, ge⟩ := e
  dsimp only
  by_cases h1 : st = 1
  ·subst h1
   simp only [if_true, Option.getD, Option.isSome]
   refine zkp ?_
   refine zeU fun T hT => ?_
   refine zhv ?_
   refine ze ?_
   clear hT T
   simp only [tabH_app]
   refine zej ?_
   refine zcw ?_
   refine zaD ?_
   refine zcg ?_
   refine zfM ?_
   refine zhF ?_
   refine zaD ?_
   refine zu ?_
   refine zbZ ?_
   refine zm ?_
   refine zf4 ?_
   refine zhI ?_
   refine zm ?_
   refine KL.v rfl (Val.neq rfl rfl) ?_
   refine zan ?_
   refine zX ?_
   refine zbJ ?_
   refine zbZ ?_
   refine zhu ?_
   refine zkq ?_
   refine zL ?_
   exact zee
  ·simp only [if_neg h1, Option.getD, Option.isSome]
   refine zkp ?_
   refine zeU fun T hT => ?_
   refine zhv ?_
   refine ze ?_
   clear hT T
   simp only [tabH_app]
   refine zej ?_
   refine zcw ?_
   refine zaD ?_
   refine zcg ?_
   refine zfM ?_
   refine zhF ?_
   refine zaD ?_
   refine zu ?_
   refine zbZ ?_
   refine zm ?_
   refine zf4 ?_
   refine zhI ?_
   refine zm ?_
   refine zaP ?_
   refine zaz ?_
   refine zeF ?_
   exact zee
 ·have hge : ((i : Nat) : Int) ≥ (t.l.length : Nat) := by omega
  rw [List.getElem?_eq_none (by omega)]
  simp only [Option.getD, Option.isSome]
  refine zkp ?_
  refine zeU fun T hT => ?_
  refine zhv ?_
  refine ze ?_
  clear hT T
  simp only [tabH_app]
  refine zej ?_
  refine zcw ?_
  refine zaD ?_
  refine zcg ?_
  refine z8 ?_
  refine zn ?_
  refine zgA ?_
  refine zfY ?_
  refine z7 ?_
  refine zeF ?_
  exact zee
theorem tbcount1_K (ok : TbOk t) : Call Tryz.prog w0 136 [.pointer (some ⟨t.b, 0, none⟩), .int .i64 1] (tabH t ++ F) (fun r H' => r = .int .i64 (cntP 1 t.l : Nat) ∧ H' = tabH t ++ F) := by
 refine Call.enter2 (n := 13) (by kernel_rfl) Tryz.func136 rfl rfl rfl ?_
 refine zbc fun T hT => ?_
 refine zhv ?_
 refine ze ?_
 clear hT T
 simp only [tabH_app]
 refine zM ?_
 refine zeK ?_
 refine za8 ?_
 refine KL.v rfl (Val.indexA rfl rfl rfl rfl (by omega)) ?_
 refine zk ?_
 refine zt ?_
 exact zee
theorem tbLive_K (ok : TbOk t) : Call Tryz.prog w0 52 [.pointer (some ⟨t.b, 0, none⟩)] (tabH t ++ F) (fun r H' => r = .int .i64 (cntP 1 t.l : Nat) ∧ H' = tabH t ++ F) := by
 refine Call.enter1 (n := 5) (by kernel_rfl) Tryz.func52 rfl rfl rfl ?_
 refine zeV fun T hT => ?_
 refine (CallV.part (CallV.fn (tbcount1_K ok)) byPart).mono ?_
 refine ze ?_
 clear hT T
 refine zt ?_
 exact zee
theorem tbnamed_K {i : Nat} {e : EntP} (ok : TbOk t) (he : t.l[i]? = some e) (h1 : e.st = 1) : Call Tryz.prog w0 259 [.pointer (some ⟨t.b, 0, none⟩), .int .i64 (i : Nat), .int .u32 e.gen] (tabH t ++ F)
  (fun r H' => r = .pointer (some (adr (oV t.o t.l.length) (i * enE.sz))) ∧ H' = tabH t ++ F) := by
 have ho := ok.o
 have hlt := lt_of_get he
 have hge : ¬ ((i : Nat) : Int) ≥ (t.l.length : Nat) := by omega
 have hst : ¬ e.st ≠ 1 := fun h => h h1
 have hgn : ¬ e.gen ≠ e.gen := fun h => h rfl
 refine Call.enter3 (n := 47) (by kernel_rfl) Tryz.func259 rfl rfl rfl ?_
 simp only [tabH_app]
 refine zbu ?_
 refine zbG ?_
 refine zcw ?_
 refine zaD ?_
 refine zcg ?_
 refine zfM ?_
 refine zhF ?_
 refine zaD ?_
 refine zu ?_
 refine zbZ ?_
 refine zm ?_
 refine zf4 ?_
 refine zhI ?_
 refine zm ?_
 refine zbs ?_
 refine zhF ?_
 refine zaD ?_
 refine zu ?_
 refine zbZ ?_
 refine zm ?_
 refine zif ?_
 refine zm ?_
 refine zkq ?_
 refine zaF ?_
 refine zD ?_
 refine zan ?_
 refine zX ?_
 refine zbJ ?_
 refine zbZ ?_
 refine zt ?_
 exact zee
theorem tbLook_K {i : Nat} {e : EntP} (ok : TbOk t) (he : t.l[i]? = some e) (h1 : e.st = 1) : Call Tryz.prog w0 258 [.pointer (some ⟨t.b, 0, none⟩), .int .i64 (i : Nat), .int .u32 e.gen] (tabH t ++ F)
  (fun r H' => r = .tuple [.int .i64 e.slot, .int .i64 0].toArray ∧ H' = tabH t ++ F) := by
 have ho := ok.o
 have hlt := lt_of_get he
 refine Call.enter3 (n := 21) (by kernel_rfl) Tryz.func258 rfl rfl rfl ?_
 refine zeU fun T hT => ?_
 refine zhv ?_
 refine ze ?_
 clear hT T
 refine zM ?_
 refine zj ?_
 refine zh fun T hT => ?_
 refine (CallV.part (CallV.fn (tbnamed_K ok he h1)) byPart).mono ?_
 refine ze ?_
 clear hT T
 simp only [tabH_app]
 refine zT ?_
 refine zbB ?_
 refine zdz ?_
 refine zhu ?_
 refine zkq ?_
 refine zL ?_
 exact zee
theorem tbDrop_K {i : Nat} {e : EntP} (ok : TbOk t) (he : t.l[i]? = some e) (h1 : e.st = 1) : Call Tryz.prog w0 201 [.pointer (some ⟨t.b, 0, none⟩), .int .i64 (i : Nat), .int .u32 e.gen] (tabH t ++ F)
  (fun r H' => r = .tuple [.int .i64 e.slot, .int .i64 0].toArray ∧ H' = tabH ⟨t.b, t.l.set i ⟨2, e.slot, e.gen⟩, t.gens, t.o⟩ ++ F) := by
 refine Call.enter3 (n := 27) (by kernel_rfl) Tryz.func201 rfl rfl rfl ?_
 refine zhL ?_
 refine zj ?_
 refine zh fun T hT => ?_
 refine (CallV.part (CallV.fn (tbLook_K ok he h1)) byPart).mono ?_
 refine ze ?_
 clear hT T
 refine zG ?_
 refine zY ?_
 refine zbz ?_
 refine zj ?_
 refine zbb fun T hT => ?_
 refine (CallV.part (CallV.fn (tbnamed_K ok he h1)) byPart).mono ?_
 refine ze ?_
 clear hT T
 refine zg fun T hT => ?_
 refine (CallV.part (CallV.fn (tbturn12_K ok he h1)) byPart).mono ?_
 refine ze ?_
 clear hT T
 refine zy ?_
 refine zj ?_
 refine zL ?_
 exact zee
set_option maxHeartbeats 1000000 in
theorem tbMint_K {s : Nat} (ok : TbOk t) (hs : s ≤ 1000000) : Call Tryz.prog w0 103 [.pointer (some ⟨t.b, 0, none⟩), .int .i64 (s : Nat)] (tabH t ++ F)
  (fun r H' => ∃ t' : TbM, TbOk t' ∧ t'.b = t.b ∧ t'.l = mintT t.l (s : Nat) ∧ r = .tuple [.int .i64 (mintV t.l).1, .int .u32 (mintV t.l).2.1, .int .i64 (mintV t.l).2.2].toArray ∧ H' = tabH t' ++ F) := by
 have ho := ok.o
 have hn := ok.n
 refine Call.enter2 (n := 31) (by kernel_rfl) Tryz.func103 rfl rfl rfl ?_
 refine zb4 ?_; intro b2 b3 b4
 refine zaI ?_; intro b5
 refine zaI ?_; intro b6
 refine zhS ?_
 refine zbL fun T hT => ?_
 refine zhv ?_
 refine ze ?_
 clear hT T
 refine zdg ?_
 refine zk ?_
 refine zR ?_
 refine zA ?_
 refine za7 ?_
 refine zbY ?_
 refine zgY ?_
 refine zbL fun T hT => ?_
 refine (CallV.fn (tbin_K (b := t.b) (st := 0))).mono ?_
 rintro _ _ ⟨c1, c2, rfl, rfl⟩
 refine zd ?_
 clear hT T
 refine zhf ?_
 refine K.rangeFunc (lb := [.pointer (some ⟨c1, 0, none⟩), .pointer (some ⟨c2, 0, none⟩)]) rfl
  (fun D G => G = (D, .deferred (some [])) :: (b6, cells [.int .i64 0] 56) :: (b5, cells [.int .u32 0] 188) :: (b4, cells [.int .i64 0] 3) :: (b3, cells [.int .i64 (s : Nat)] 3) :: (b2, cells [.pointer (some ⟨t.b, 0, none⟩)] 86) :: (tabH t ++ F) ∧ freeT t.l = none)
  (fun D c G => c = .ret ∧ ∃ (i : Nat) (e : EntP), t.l[i]? = some e ∧ freeT t.l = some i ∧ G = (D, .deferred (some [])) :: (b6, cells [.int .i64 0] 56) :: (b5, cells [.int .u32 e.gen] 188) :: (b4, cells [.int .i64 (i : Nat)] 3) :: (b3, cells [.int .i64 (s : Nat)] 3) :: (b2, cells [.pointer (some ⟨t.b, 0, none⟩)] 86) :: (tabH ⟨t.b, t.l.set i ⟨1, (s : Nat), e.gen⟩, t.gens, t.o⟩ ++ F)) ?_ ?_ ?_
 ·intro l D rc hyl
  refine (Call.part (tbin1_K (F := F) (st := 0) (q1 := c1) (q2 := c2) ok
   (fun H' => ∃ (i : Nat) (e : EntP), t.l[i]? = some e ∧ freeT t.l = some i ∧ H' = (l, .loop (rc .done (some .ret))) :: ((D, .deferred (some [])) :: (b6, cells [.int .i64 0] 56) :: (b5, cells [.int .u32 e.gen] 188) :: (b4, cells [.int .i64 (i : Nat)] 3) :: (b3, cells [.int .i64 (s : Nat)] 3) :: (b2, cells [.pointer (some ⟨t.b, 0, none⟩)] 86) :: (c1, cells [.pointer (some ⟨t.b, 0, none⟩)] 86) :: (c2, cells [.int .i64 0] 3) :: (tabH ⟨t.b, t.l.set i ⟨1, (s : Nat), e.gen⟩, t.gens, t.o⟩ ++ F)))
   (A0 := (l, .loop (rc .ready none)) :: (D, .deferred (some [])) :: (b6, cells [.int .i64 0] 56) :: (b5, cells [.int .u32 0] 188) :: (b4, cells [.int .i64 0] 3) :: (b3, cells [.int .i64 (s : Nat)] 3) :: (b2, cells [.pointer (some ⟨t.b, 0, none⟩)] 86) :: []) ?_) (by simp only [List.cons_append, List.nil_append]; exact byPart)).mono ?_
  ·intro i e he h0 hno
   have hF := freeT_is he h0 hno
   have hb := ok.e e (List.mem_of_getElem? he)
   have hlt := lt_of_get he
   have ok1 : TbOk ⟨t.b, t.l.set i ⟨1, e.slot, e.gen⟩, t.gens, t.o⟩ := tb_set ok (by dsimp only; omega)
   have ho1 := ok1.o
   dsimp only at ho1
   have he1 : (t.l.set i (⟨1, e.slot, e.gen⟩ : EntP))[i]? = some ⟨1, e.slot, e.gen⟩ := List.getElem?_set_self hlt
   have hll : (t.l.set i (⟨1, e.slot, e.gen⟩ : EntP)).length = t.l.length := List.length_set
   have hcs : ∀ q : Int, cntP q (t.l.set i ⟨1, (s : Nat), e.gen⟩) = cntP q (t.l.set i (⟨1, e.slot, e.gen⟩ : EntP)) := fun q => by
    have := cnt_set he1 ⟨1, (s : Nat), e.gen⟩ q
    rw [List.set_set] at this
    dsimp only at this
    omega
   simp only [List.cons_append, List.nil_append]
   refine hyl _ _ _ _ _ (ParS.cons rfl (ParS.cons rfl ParS.nil)) byTake ?_
   refine zau ?_
   refine zbE ?_
   refine zau ?_
   refine zbE ?_
   refine KE.begin byTake ?_
   refine K.block (K.seq (K.region ?_))
   refine zdx fun T hT => ?_
   refine (CallV.part (CallV.fn (tbturn01_K ok he h0)) byPart).mono ?_
   refine ze ?_
   clear hT T
   simp only [tabH_app]
   refine zb9 ?_
   refine zau ?_
   refine zf ?_
   refine zbN ?_
   refine zc8 ?_
   refine zdH ?_
   refine KL.eN (Eff.stSl (j := 1) (x1 := (⟨1, (s : Nat), e.gen⟩ : EntP)) rfl rfl rfl rfl byTakeL ho1 he1 rfl rfl) ?_; rintro _ _ rfl
   refine zap ?_
   have he2 : (t.l.set i (⟨1, (s : Nat), e.gen⟩ : EntP))[i]? = some ⟨1, (s : Nat), e.gen⟩ := List.getElem?_set_self hlt
   have ho2 : oOk enE (t.l.set i ⟨1, (s : Nat), e.gen⟩) t.o := ho.set _ _
   rw [List.set_set]
   refine zbC ?_
   refine K.drawn _ [(0, 0), (1, 1), (2, 1), (3, 1), (4, 1), (5, 2), (6, 2), (7, 2)] (by kernel_rfl) (by kernel_rfl) (by kernel_rfl) (by kernel_rfl) (by kernel_rfl) (by kernel_rfl) (Part.takeA TakeL.head (Part.take Take.head (Part.take Take.head (Part.take Take.head (Part.drop (Part.drop (Part.drop Part.all))))))) ?_
   refine zo ?_
   refine zeG ?_
   refine KD.v1 rfl rfl (Val.fieldSl (k := 2) rfl rfl) ?_
   refine KD.v1 rfl rfl (Val.loadP rfl rfl (Sees.sl (Sli.own byTakeL (by assumption) byLen) (by assumption) rfl)) ?_
   refine zhU ?_
   refine zcD ?_
   refine zhU ?_
   refine zcD ?_
   refine zd5 ?_
   refine zjG ?_
   refine zfV ?_
   refine KE.part ((l, .loop (rc .busy none)) :: ((D, .deferred (some [])) :: (b6, cells [.int .i64 0] 56) :: (b5, cells [.int .u32 e.gen] 188) :: (b4, cells [.int .i64 (i : Nat)] 3) :: (b3, cells [.int .i64 (s : Nat)] 3) :: (b2, cells [.pointer (some ⟨t.b, 0, none⟩)] 86) :: (c1, cells [.pointer (some ⟨t.b, 0, none⟩)] 86) :: (c2, cells [.int .i64 0] 3) :: (tabH ⟨t.b, t.l.set i ⟨1, (s : Nat), e.gen⟩, t.gens, t.o⟩ ++ F))) (by simp only [tabH_app, hcs, List.length_set]; exact byPart) ?_
   exact KE.roundR Take.head ⟨rfl, i, e, he, hF, rfl⟩
  ·rintro _ _ (⟨hno, rfl⟩ | ⟨i, e, he, hF, rfl⟩)
   ·refine .inl ⟨_, ?_, rfl, freeT_no hno⟩
    exact ziG
   ·exact .inr ⟨.ret, _, byPart, rfl, i, e, he, hF, rfl⟩
 ·rintro D G ⟨rfl, hF⟩
  have h1 : mintV t.l = (0, 0, 131) := by unfold mintV; rw [hF]
  have h2 : mintT t.l (s : Nat) = t.l := by unfold mintT; rw [hF]
  refine zff ?_
  refine zN ?_
  refine zN ?_
  refine zcR ?_
  exact KE.fin (H' := tabH t ++ F) byMarks rfl byRes byPart ⟨t, ok, rfl, h2.symm, by rw [h1]; rfl, rfl⟩
 ·rintro D c G ⟨rfl, i, e, he, hF, rfl⟩
  have h1 : mintV t.l = (((i : Nat) : Int), e.gen, 0) := by unfold mintV; rw [hF]; dsimp only; rw [genA_at he]
  have h2 : mintT t.l (s : Nat) = t.l.set i ⟨1, (s : Nat), e.gen⟩ := by unfold mintT; rw [hF]; dsimp only; rw [genA_at he]
  have hb := ok.e e (List.mem_of_getElem? he)
  refine zea ?_
  refine zdO ?_
  exact KE.fin (H' := tabH ⟨t.b, t.l.set i ⟨1, (s : Nat), e.gen⟩, t.gens, t.o⟩ ++ F) byMarks rfl byRes byPart ⟨⟨t.b, t.l.set i ⟨1, (s : Nat), e.gen⟩, t.gens, t.o⟩, tb_set ok (by dsimp only; omega), rfl, h2.symm, by rw [h1]; rfl, rfl⟩
end
open Go.RowKit
set_option maxRecDepth 10000
structure MpR (k : MkM) (B : BoM) (T : TbM) (N : PiM) (W : MwP) : Prop where
 bo : BoOk B W.x
 tb : TbOk T
 pi : PiOk N
 eT : T.l = W.T
 eN : N.l = W.N
 bb : k.bb = B.b
 tbb : k.tb = T.b
 nb : k.nb = N.b
 w : MwOk B.p.g W
theorem MpR.to {k k' : MkM} {B : BoM} {T : TbM} {N : PiM} {W : MwP} (h : MpR k B T N W) (ht : MkTo k k') : MpR k' B T N W := ⟨h.bo, h.tb, h.pi, h.eT, h.eN, ht.bb.trans h.bb, ht.tb.trans h.tbb, ht.nb.trans h.nb, h.w⟩
def seenH (B : BoM) (T : TbM) (N : PiM) : Heap := bodyH B ++ (memH B.m ++ (tabH T ++ pinsH N))
theorem seenH_app {B : BoM} {T : TbM} {N : PiM} {F : Heap} : seenH B T N ++ F = bodyH B ++ (memH B.m ++ (tabH T ++ (pinsH N ++ F))) := by unfold seenH; simp only [List.append_assoc]
structure SkS where
 sl : Int
 is : Bool
section
variable {w0 : World} {F : Heap} {k : MkM} {B : BoM} {T : TbM} {N : PiM} {W : MwP} {m : MaP}
theorem mkroots_K (hp : MpR k B T N W) (ok : MkOk k B.p) :
  Call Tryz.prog w0 115 [.pointer (some ⟨k.b, 0, none⟩)] (markH k B.p ++ (planH B.p ++ (seenH B T N ++ F))) (fun r H' => r = .int .i64 ((W.T.length + B.p.g.slots : Nat) : Int) ∧ H' = markH k B.p ++ (planH B.p ++ (seenH B T N ++ F))) := by
 have okT := hp.tb
 have okp := hp.bo.p
 have hsl := okp.g.slots
 have hn := okT.n
 have e1 := hp.tbb
 have hT := hp.eT
 have e2 : ((T.l.length : Nat) : Int) + ((B.p.g.slots : Nat) : Int) = ((W.T.length + B.p.g.slots : Nat) : Int) := by rw [hT]; rfl
 have hlen := fun A => tbLen_K (w0 := w0) (F := A) okT
 simp only [← e1] at hlen
 refine Call.enter1 (n := 14) (by kernel_rfl) Tryz.func115 rfl rfl rfl ?_
 simp only [markH_app, seenH_app]
 refine zaj ?_
 refine zcF ?_
 refine K.drawn _ [(0, 0), (1, 0), (2, 0), (3, 0), (5, 1), (6, 1), (7, 1), (8, 1), (4, 2), (9, 2), (10, 0), (11, 0)] (by kernel_rfl) (by kernel_rfl) (by kernel_rfl) (by kernel_rfl) (by kernel_rfl) (by kernel_rfl) Part.all ?_
 refine zK ?_
 refine zgI ?_
 refine zeG ?_
 refine ziN ?_
 refine zb0 ?_
 refine zl fun T hT => ?_
 refine (CallV.part (CallV.fn (hlen _)) byPart).mono ?_
 refine zab ?_
 clear hT T
 refine zl fun T hT => ?_
 refine ze4 ?_
 refine zab ?_
 clear hT T
 refine zb1 ?_
 refine za2 ?_
 rw [e2]
 exact zhw
theorem mkseek_K {hv : Value} (hp : MpR k B T N W) (ok : MkOk k B.p) (hR : MkR k B.p m) (hm : MaOk B.p.g k.g.ring.length W m) :
  Call Tryz.prog w0 186 [.pointer (some ⟨k.b, 0, none⟩), hv] (markH k B.p ++ (planH B.p ++ (seenH B T N ++ F)))
   (fun r H' => r = .bool (rootM B.p.g k.g.ring.length W m).isSome ∧ ∃ k', MkOk k' B.p ∧ MkTo k k' ∧ MkR k' B.p ((rootM B.p.g k.g.ring.length W m).getD m) ∧ H' = markH k' B.p ++ (planH B.p ++ (seenH B T N ++ F))) := by
 have okT := hp.tb
 have okN := hp.pi
 have okp := hp.bo.p
 have hsl := okp.g.slots
 have hn := okT.n
 have e1 := hp.tbb
 have e3 := hp.nb
 have hT := hp.eT
 have hNl : N.l.length = B.p.g.slots := by rw [hp.eN]; exact hp.w.N
 have hroots := fun A => mkroots_K (w0 := w0) (F := A) hp ok
 have hrt := hm.root
 have hr := hR.root
 rw [← hr] at hrt
 have hTl : T.l.length = W.T.length := by rw [hT]
 by_cases hlt : m.root < W.T.length + B.p.g.slots
 ·have hrm : rootM B.p.g k.g.ring.length W m = some (shadeO B.p.g k.g.ring.length { m with root := m.root + 1 } (rootSl B.p.g W m.root)) := by unfold rootM; rw [if_pos hlt]
  rw [hrm, shadeO_root]
  simp only [Option.isSome, Option.getD]
  have hne : ¬ ((k.root : Nat) : Int) = ((W.T.length + B.p.g.slots : Nat) : Int) := by omega
  have hslot := fun A => tbSlot_K (w0 := w0) (F := A) (i := k.root) okT
  have hlen := fun A => tbLen_K (w0 := w0) (F := A) okT
  simp only [← e1] at hslot hlen
  refine Call.enter2 (n := 58) (by kernel_rfl) Tryz.func186 rfl rfl rfl ?_
  simp only [markH_app, seenH_app]
  refine zaj ?_
  refine zdL ?_
  refine zlu ?_
  refine zeG ?_
  refine zih ?_
  refine zb0 ?_
  refine zo ?_
  refine zl fun T hT => ?_
  refine zjj ?_
  refine zS ?_
  simp only [markH_app, seenH_app]
  refine zi ?_
  clear hT T
  refine zf7 ?_
  refine zV ?_
  refine KE.next (K.condF rfl (K.skip (KE.next (K.seq ?_))))
  refine K.drawn [] [(0, 0), (1, 0), (2, 0), (3, 0), (4, 0), (5, 0), (6, 0), (7, 0), (8, 2), (9, 0), (10, 0), (11, 0), (12, 0), (13, 0)] (by kernel_rfl) (by kernel_rfl) (by kernel_rfl) (by kernel_rfl) (by kernel_rfl) (by kernel_rfl) Part.nil ?_
  refine zK ?_
  refine zcc ?_
  refine zbU ?_
  refine zi9 ?_
  refine zx ?_
  refine zl fun T hT => ?_
  refine (CallV.part (CallV.fn (hslot _)) (by first | exact byPart | (simp only [markH_app, seenH_app]; exact byPart))).mono ?_
  refine zab ?_
  clear hT T
  refine ziB ?_
  refine zhT ?_
  refine zaw ?_
  refine zbm ?_
  refine KE.next (K.seq (K.seq ?_))
  refine K.drawn _ [(0, 1), (1, 1), (2, 1), (3, 1), (4, 0), (5, 0), (6, 0), (7, 0), (8, 2), (9, 0), (10, 0)] (by kernel_rfl) (by kernel_rfl) (by kernel_rfl) (by kernel_rfl) (by kernel_rfl) (by kernel_rfl) Part.all ?_
  refine zeG ?_
  refine zih ?_
  refine zb0 ?_
  refine zK ?_
  refine zgI ?_
  refine zl fun T hT => ?_
  refine (CallV.part (CallV.fn (hlen _)) (by first | exact byPart | (simp only [markH_app, seenH_app]; exact byPart))).mono ?_
  refine zab ?_
  clear hT T
  refine zh3 ?_
  refine zbm ?_
  refine zcE ?_
  refine K.cutE (σ := SkS) [(0, _)] bySub (fun s kp_ => (5, .int .i64 s.sl) :: (6, .bool s.is) :: kp_) (fun s => markH k B.p ++ (planH B.p ++ (seenH B T N ++ F))) (fun s => rootSl B.p.g W m.root = (if s.is = true then some s.sl else none)) ?_ ?_
  ·by_cases hrl : k.root < T.l.length
   ·have hat : ¬ ((k.root : Nat) : Int) - ((T.l.length : Nat) : Int) ≥ 0 := by omega
    have hro : rootSl B.p.g W m.root = slotT T.l (k.root : Nat) := by
     unfold rootSl slotT
     rw [if_pos (show (0 : Int) ≤ (k.root : Nat) by omega), Int.toNat_natCast, ← hr, ← hT]
     obtain ⟨e, he⟩ := get_of_lt hrl
     rw [he]
    refine zbt ?_
    refine zaJ ?_
    refine za7 ?_
    exact KE.meet ⟨(slotT T.l (k.root : Nat)).getD 0, (slotT T.l (k.root : Nat)).isSome⟩ bySub (by first | exact byPart | (simp only [markH_app, seenH_app]; exact byPart)) (by rw [hro]; cases slotT T.l (k.root : Nat) <;> rfl)
   ·have hj : ((k.root : Nat) : Int) - ((T.l.length : Nat) : Int) = ((k.root - T.l.length : Nat) : Int) := by omega
    have hat : ((k.root - T.l.length : Nat) : Int) ≥ 0 := by omega
    obtain ⟨c, hc⟩ := get_of_lt (l := N.l) (k := k.root - T.l.length) (by omega)
    have hcnt := fun A => piCount_K (w0 := w0) (F := A) (s := ((k.root - T.l.length : Nat) : Int)) okN
    rw [if_pos (by omega), Int.toNat_natCast, hc] at hcnt
    simp only [Option.getD, ← e3] at hcnt
    have hro : rootSl B.p.g W m.root = if decide (0 < c) = true then some ((k.root - T.l.length : Nat) : Int) else none := by
     unfold rootSl
     rw [← hr, ← hT, ← hp.eN, List.getElem?_eq_none (by omega)]
     dsimp only
     rw [hc]
     simp only [Option.getD, decide_eq_true_eq]
    rw [hj]
    refine zbt ?_
    refine z8 ?_
    refine zbz ?_
    refine zeK ?_
    refine zg8 fun T hT => ?_
    refine (CallV.part (CallV.fn (hcnt _)) (by first | exact byPart | (simp only [markH_app, seenH_app]; exact byPart))).mono ?_
    refine ze ?_
    clear hT T
    refine KL.v rfl (Val.gtr rfl rfl) ?_
    refine zA ?_
    refine zbE ?_
    exact KE.meet ⟨((k.root - T.l.length : Nat) : Int), decide (0 < c)⟩ bySub (by first | exact byPart | (simp only [markH_app, seenH_app]; exact byPart)) hro
  ·rintro ⟨sl, is⟩ hro
   dsimp only at hro ⊢
   cases is with
   | true =>
    rw [if_pos rfl] at hro
    have hin := rootSl_in hp.w hlt hro
    obtain ⟨q, rfl⟩ : ∃ q : Nat, sl = q := ⟨sl.toNat, by omega⟩
    rw [hro]
    have hsh := fun A => mkshade_K (w0 := w0) (F := A) ok hR (s := q) (by omega)
    obtain ⟨m1, hm1⟩ : ∃ m1, m1 = shadeM B.p.g k.g.ring.length m ((q : Nat) : Int) := ⟨_, rfl⟩
    have hm1r : m1.root = m.root := by rw [hm1]; exact (shade_hs _).2.1
    have hso : shadeO B.p.g k.g.ring.length m (some ((q : Nat) : Int)) = m1 := hm1.symm
    rw [hso]
    simp only [← hm1] at hsh
    refine zv ?_
    refine zbz ?_
    refine zbb fun T hT => ?_
    refine zhx ?_
    rintro _ _ ⟨rfl, k', kok, kto, kR, rfl⟩
    have hk'r : k'.root = k.root := kR.root.trans (hm1r.trans hr.symm)
    have e5 : ((k'.root : Nat) : Int) + 1 = ((k'.root + 1 : Nat) : Int) := by omega
    refine zd ?_
    clear hT T
    rw [← kto.b]
    simp only [markH_app, seenH_app]
    refine zy ?_
    refine zX ?_
    refine zaL ?_
    refine zgB ?_
    refine zaL ?_
    refine zaA ?_
    refine zt ?_
    rw [e5]
    exact KE.fin (H' := markH { k' with root := k'.root + 1 } B.p ++ (planH B.p ++ (seenH B T N ++ F))) byMarks rfl byRes (by simp only [markH_app, seenH_app]; exact byPart)
     ⟨rfl, { k' with root := k'.root + 1 }, ⟨kok.c, kok.g, kok.n, kok.o, kok.hs⟩, ⟨⟨kto.b, kto.bb, kto.tb, kto.nb, kto.n, kto.l⟩, kto.f, kto.cb, kto.gb, kto.o⟩, ⟨kR.C, kR.G, kR.hs, by show k'.root + 1 = m.root + 1; rw [hk'r, hr], kR.act, kR.steps⟩, by simp only [markH_app, seenH_app]⟩
   | false =>
    rw [if_neg (by decide)] at hro
    rw [hro]
    have hso : shadeO B.p.g k.g.ring.length m none = m := rfl
    rw [hso]
    have e5 : ((k.root : Nat) : Int) + 1 = ((k.root + 1 : Nat) : Int) := by omega
    simp only [markH_app, seenH_app]
    refine zv ?_
    refine zdz ?_
    refine zaL ?_
    refine zgB ?_
    refine zaL ?_
    refine zaA ?_
    refine zt ?_
    rw [e5]
    exact KE.fin (H' := markH { k with root := k.root + 1 } B.p ++ (planH B.p ++ (seenH B T N ++ F))) byMarks rfl byRes (by simp only [markH_app, seenH_app]; exact byPart)
     ⟨rfl, { k with root := k.root + 1 }, ⟨ok.c, ok.g, ok.n, ok.o, ok.hs⟩, ⟨⟨rfl, rfl, rfl, rfl, rfl, rfl⟩, rfl, rfl, rfl, rfl⟩, ⟨hR.C, hR.G, hR.hs, by show k.root + 1 = m.root + 1; rw [hr], hR.act, hR.steps⟩, by simp only [markH_app, seenH_app]⟩
 ·have hrm : rootM B.p.g k.g.ring.length W m = none := by unfold rootM; rw [if_neg hlt]
  rw [hrm]
  simp only [Option.isSome, Option.getD]
  have hne : ((k.root : Nat) : Int) = ((W.T.length + B.p.g.slots : Nat) : Int) := by omega
  refine Call.enter2 (n := 58) (by kernel_rfl) Tryz.func186 rfl rfl rfl ?_
  simp only [markH_app, seenH_app]
  refine zaj ?_
  refine zdL ?_
  refine zlu ?_
  refine zeG ?_
  refine zih ?_
  refine zb0 ?_
  refine zo ?_
  refine zl fun T hT => ?_
  refine zjj ?_
  refine zS ?_
  simp only [markH_app, seenH_app]
  refine zi ?_
  clear hT T
  refine zdK ?_
  refine zdY ?_
  refine zam ?_
  exact zhy
end
set_option maxRecDepth 10000
structure ScS where
 k : MkM
structure ScB where
 b : Nat
section
variable {w0 : World} {F : Heap} {k : MkM} {B : BoM} {T : TbM} {N : PiM} {W : MwP} {m : MaP}
theorem refO_eq {g : PlG} {x : List Int} {s : Nat} {i : Int} {y : SlotP} (hy : g.L[s]? = some y) : refO g x (s : Nat) i = if (refP x g.slots y i).2 = 0 ∧ 0 ≤ (refP x g.slots y i).1 then some (refP x g.slots y i).1 else none := by
 unfold refO; rw [slotA_at hy]
set_option maxHeartbeats 2000000 in
theorem mkscan_K {i : Nat} {h : HanP} (hG : Glob w0) (hp : MpR k B T N W) (ok : MkOk k B.p) (hR : MkR k B.p m) (hm : MaOk B.p.g k.g.ring.length W m) (hh : k.hs[i]? = some h) (his : h.is = true) :
  Call Tryz.prog w0 190 [.pointer (some ⟨k.b, 0, none⟩), .pointer (some (adr (oV k.o k.hs.length) (i * hanE.sz)))] (markH k B.p ++ (planH B.p ++ (seenH B T N ++ F)))
   (fun r H' => r = .bool true ∧ ∃ m' k', scanM B.p.g k.g.ring.length W m i = some m' ∧ MkOk k' B.p ∧ MkTo k k' ∧ MkR k' B.p m' ∧ H' = markH k' B.p ++ (planH B.p ++ (seenH B T N ++ F))) := by
 have okp := hp.bo.p
 have okb := hp.bo
 have hsl := okp.g.slots
 have eb := hp.bb
 have ho := ok.o
 have hil := lt_of_get hh
 have hhs := hR.hs
 have hmh : m.hs[i]? = some h := by rw [← hhs]; exact hh
 obtain ⟨s, hs, hsb, hf0, hfb⟩ : ∃ s : Nat, h.slot = s ∧ s < B.p.g.slots ∧ 0 ≤ h.field ∧ (h.field = 0 ∨ h.field < refsN W.x (slotA B.p.g h.slot)) := by
  rcases hm.h i h hmh with ⟨a1, a2, a3, a4, a5⟩ | e
  ·exact ⟨h.slot.toNat, by omega, by omega, a4, a5⟩
  ·rw [e] at his; cases his
 obtain ⟨y, hy⟩ := L_ex (g := B.p.g) hsb
 have hya := slotA_at hy
 have hfit := okp.g.fits hy
 have href := refO_eq (x := W.x) (i := h.field) hy
 have hrn : refsN W.x y = match headP W.x y with | some h => h.r | none => 0 := rfl
 have hhead := fun A => Head_K (w0 := w0) (F := A) hG okb hy
 have hrf := fun A => bRef_K (w0 := w0) (F := A) (i := h.field) hG okb hy
 simp only [← eb] at hhead hrf
 have hsc : scanM B.p.g k.g.ring.length W m i = if h.field + 1 < refsN W.x y then some { shadeO B.p.g k.g.ring.length m (refO B.p.g W.x (s : Nat) h.field) with hs := m.hs.set i ⟨(s : Nat), h.field + 1, true⟩ }
  else some { shadeO B.p.g k.g.ring.length m (refO B.p.g W.x (s : Nat) h.field) with hs := m.hs.set i hand0, C := (shadeO B.p.g k.g.ring.length m (refO B.p.g W.x (s : Nat) h.field)).C.set s 2 } := by
  unfold scanM
  rw [handA_at hmh, his, if_pos rfl, hs, hya]
  rfl
 obtain ⟨o, hod⟩ : ∃ o, o = refO B.p.g W.x (s : Nat) h.field := ⟨_, rfl⟩
 have hoin : ∀ q : Int, o = some q → 0 ≤ q ∧ q < (B.p.g.slots : Nat) := fun q hq => by
  have := refO_in (hod.symm.trans hq) hp.w.w
  exact ⟨this.1, this.2.1⟩
 rw [← hod] at hsc href
 rw [hs, hya] at hfb
 obtain ⟨hsl', hfi, hi'⟩ := h
 dsimp only at hs his hf0 hfb href hsc hrf hod
 subst hs his
 obtain ⟨rt, hrt⟩ : ∃ rt, refP W.x B.p.g.slots y hfi = rt := ⟨_, rfl⟩
 simp only [hrt] at hrf href
 obtain ⟨rn, hrnd⟩ : ∃ rn, refsN W.x y = rn := ⟨_, rfl⟩
 rw [hrnd] at hrn hsc
 obtain ⟨hc, hr, hw, he, hhv, hcond⟩ : ∃ hc hr hw he, headV (headP W.x y) = .tuple [.agg [.int .i64 hc, .int .i64 hr, .int .i64 hw].toArray, .int .i64 he].toArray ∧ ((he = 0 ∧ hr = rn) ∨ (he ≠ 0 ∧ rn = 0)) := by
  unfold headV hdV
  cases hq : headP W.x y with
  | none => rw [hq] at hrn; exact ⟨0, 0, 0, 5, rfl, .inr ⟨by decide, hrn⟩⟩
  | some q => rw [hq] at hrn; exact ⟨q.c, q.r, q.w, 0, rfl, .inl ⟨rfl, hrn.symm⟩⟩
 simp only [hhv] at hhead
 refine Call.enter2 (n := 76) (by kernel_rfl) Tryz.func190 rfl rfl rfl ?_
 simp only [markH_app, seenH_app]
 refine zq ?_
 refine za0 ?_
 refine K.cutT (σ := ScB) [(0, _), (1, _)] bySub (fun s kp_ => (5, .pointer (some ⟨s.b, 0, none⟩)) :: (6, .int .i64 he) :: kp_) (fun s => markH k B.p ++ (planH B.p ++ (seenH B T N ++ ((s.b, cells [.int .i64 hc, .int .i64 hr, .int .i64 hw] 148) :: F)))) (fun s => True) ?_ ?_
 ·skip
  refine zak ?_
  refine K.drawn ((k.b, cells [.pointer (some ⟨k.bb, 0, none⟩), .pointer (some ⟨B.p.b, 0, none⟩), .pointer (some ⟨k.tb, 0, none⟩), .pointer (some ⟨k.nb, 0, none⟩), .pointer (some ⟨k.c.b, 0, none⟩), .pointer (some ⟨k.g.b, 0, none⟩), oV k.o k.hs.length, .int .i64 (k.root : Nat), .bool k.act, .int .i64 (k.steps : Nat)] 112) :: (oH hanE 200 k.hs k.o ++ [])) [(0, 1), (1, 1), (2, 1), (3, 1), (4, 1), (5, 1), (6, 1), (7, 1), (8, 3), (9, 1), (10, 1), (11, 1), (12, 2), (13, 2), (14, 0)] (by kernel_rfl) (by kernel_rfl) (by kernel_rfl) (by kernel_rfl) (by kernel_rfl) (by kernel_rfl) byPart ?_
  refine zO ?_
  refine zgV ?_
  refine zd4 ?_
  refine zO ?_
  refine zgV ?_
  refine zd4 ?_
  refine KD.fork2 (x := 8) (y := 12) (o1 := [(9, 1), (10, 1), (11, 1), (12, 2), (13, 2), (14, 0)]) (o2 := [(8, 2), (9, 0), (10, 0), (11, 1), (13, 2), (14, 0)]) (by kernel_rfl) rfl rfl (by kernel_rfl) (by kernel_rfl) ?_ ?_
  ·refine zcG fun T hT => ?_
   refine zj9 ?_
   refine zab ?_
   clear hT T
   refine zO ?_
   refine zdG ?_
   refine zdG ?_
   refine zeI ?_; intro b5
   refine zdl ?_
   exact zlv
  ·(refine ActK.e rfl (Eff.alloc rfl) ?_; rintro _ _ ⟨b5, rfl, rfl⟩; refine ⟨byPart, ?_⟩)
   refine zl fun T hT => ?_
   refine zj9 ?_
   refine zab ?_
   clear hT T
   refine zb7 ?_
   refine zdl ?_
   exact zlv
 ·rintro ⟨b5⟩ _
  dsimp only
  refine zha ?_
  refine K.drawn [] [(0, 0), (1, 0), (2, 0), (3, 0), (4, 0), (5, 0), (6, 0), (7, 0), (8, 0), (9, 0), (10, 0), (11, 0), (12, 2), (13, 0), (14, 0), (15, 0), (16, 0), (17, 0)] (by kernel_rfl) (by kernel_rfl) (by kernel_rfl) (by kernel_rfl) (by kernel_rfl) (by kernel_rfl) Part.nil ?_
  refine zK ?_
  refine zaV ?_
  refine zbU ?_
  refine zeZ ?_
  refine zdE ?_
  refine zK ?_
  refine KD.v0 rfl rfl (Val.fieldSl (k := 1) rfl rfl) ?_
  refine ziU ?_
  refine zl fun T hT => ?_
  refine (CallV.part (CallV.fn (hrf _)) (by first | exact byPart | (simp only [markH_app, seenH_app]; exact byPart))).mono ?_
  refine zab ?_
  clear hT T
  obtain ⟨to, f⟩ := rt
  dsimp only at href ⊢
  refine ziB ?_
  refine zhT ?_
  refine zaw ?_
  refine zbm ?_
  refine zcE ?_
  refine K.cutE (σ := ScS) [(0, _), (1, _), (5, _), (6, _)] bySub (fun s kp_ => kp_) (fun s => markH s.k B.p ++ (planH B.p ++ (seenH B T N ++ ((b5, cells [.int .i64 hc, .int .i64 hr, .int .i64 hw] 148) :: F)))) (fun s => MkOk s.k B.p ∧ MkTo k s.k ∧ MkR s.k B.p (shadeO B.p.g k.g.ring.length m o)) ?_ ?_
  ·by_cases h2 : f = 0
   ·by_cases h1 : 0 ≤ to
    ·rw [if_pos ⟨h2, h1⟩] at href
     have hin := hoin to href
     obtain ⟨q, rfl⟩ : ∃ q : Nat, to = q := ⟨to.toNat, by omega⟩
     have hsh := fun A => mkshade_K (w0 := w0) (F := A) ok hR (s := q) (by omega)
     have hge : ((q : Nat) : Int) ≥ 0 := by omega
     rw [href]
     refine zbt ?_
     refine zgx ?_
     refine z8 ?_
     refine zC ?_
     refine zbz ?_
     refine zbb fun T hT => ?_
     refine (CallV.part (CallV.fn (hsh _)) (by first | exact byPart | (simp only [markH_app, seenH_app]; exact byPart))).mono ?_
     rintro _ _ ⟨rfl, k', kok, kto, kR, rfl⟩
     refine zd ?_
     clear hT T
     refine zap ?_
     exact KE.meet ⟨k'⟩ bySub (by first | exact byPart | (simp only [markH_app, seenH_app]; exact byPart)) ⟨kok, kto, kR⟩
    ·rw [if_neg (by rintro ⟨_, h⟩; exact h1 h)] at href
     have hge : ¬ to ≥ 0 := h1
     rw [href]
     refine zbt ?_
     refine zgx ?_
     refine zaJ ?_
     refine zC ?_
     refine za7 ?_
     exact zlw
   ·rw [if_neg (by rintro ⟨h, _⟩; exact h2 h)] at href
    rw [href]
    refine zbt ?_
    refine zH ?_
    refine zcs ?_
    refine zce ?_
    exact zlw
  ·rintro ⟨k1⟩ ⟨kok, kto, kR⟩
   dsimp only at kok kto kR ⊢
   obtain ⟨h1s, h1r, h1a, h1t⟩ := shadeO_hs (g := B.p.g) (long := k.g.ring.length) (m := m) o
   have hh1 : k1.hs[i]? = some ⟨(s : Nat), hfi, true⟩ := by rw [kR.hs, h1s]; exact hmh
   have ho1 := kok.o
   have okc := kok.c
   have hil1 := lt_of_get hh1
   have hslc : s < k1.c.l.length := by rw [kok.n]; exact hsb
   have hrs := refs_size okp.g hsb W.x
   have hzb := szA_bnd okp.g hsb
   rw [hya, hrnd] at hrs
   have hfb2 : hfi ≤ 64 := by rcases hfb with e | e <;> omega
   have ho2 : oOk hanE (k1.hs.set i ⟨(s : Nat), hfi + 1, true⟩) k1.o := ho1.set _ _
   have he2 : (k1.hs.set i (⟨(s : Nat), hfi + 1, true⟩ : HanP))[i]? = some ⟨(s : Nat), hfi + 1, true⟩ := List.getElem?_set_self hil1
   rw [← kto.o, ← kto.n, ← kto.b]
   simp only [markH_app, seenH_app]
   skip
   refine zau ?_
   refine zf ?_
   refine zc8 ?_
   refine zdH ?_
   refine zbN ?_
   refine zc2 ?_
   refine zc8 ?_
   refine zdH ?_
   refine KL.eN (Eff.stSl (j := 1) (x1 := (⟨(s : Nat), hfi + 1, true⟩ : HanP)) rfl rfl rfl rfl byTakeL ho1 hh1 rfl rfl) ?_; rintro _ _ rfl
   refine zap ?_
   rcases hcond with ⟨hc1, hc2⟩ | ⟨hc1, hc2⟩
   ·by_cases hlt : hfi + 1 < rn
    ·have hge : ¬ hfi + 1 ≥ hr := by omega
     rw [if_pos hlt] at hsc
     refine zbC ?_
     refine zf3 ?_
     refine zo ?_
     refine zkX ?_
     refine ze0 ?_
     refine zi7 ?_
     refine zf9 ?_
     refine zgU ?_
     refine zbk ?_
     refine zj0 ?_
     refine zbR ?_
     refine zfb ?_
     refine zt ?_
     exact KE.fin (H' := markH { k1 with hs := k1.hs.set i ⟨(s : Nat), hfi + 1, true⟩ } B.p ++ (planH B.p ++ (seenH B T N ++ F))) byMarks rfl byRes (by simp only [markH_app, seenH_app, List.length_set]; exact byPart)
      ⟨rfl, _, { k1 with hs := k1.hs.set i ⟨(s : Nat), hfi + 1, true⟩ }, hsc, ⟨kok.c, kok.g, kok.n, ho2, by simpa using kok.hs⟩, ⟨⟨kto.b, kto.bb, kto.tb, kto.nb, by show (k1.hs.set i _).length = _; rw [List.length_set]; exact kto.n, kto.l⟩, kto.f, kto.cb, kto.gb, kto.o⟩,
       ⟨kR.C, kR.G, by show k1.hs.set i _ = _; rw [kR.hs, h1s], kR.root, kR.act, kR.steps⟩, by simp only [markH_app, seenH_app]⟩
    ·have hge : hfi + 1 ≥ hr := by omega
     rw [if_neg hlt] at hsc
     refine zbC ?_
     refine zf3 ?_
     refine zo ?_
     refine zkX ?_
     refine ze0 ?_
     refine zi7 ?_
     refine zf9 ?_
     refine zgU ?_
     refine zbk ?_
     refine KD.y0 rfl rfl rfl rfl (Val.isT (Val.geq rfl rfl) byLt) ?_
     refine zbR ?_
     refine KE.next (K.condT rfl (K.seq ?_))
     refine zlx ?_
     refine zK ?_
     refine zdJ ?_
     refine zbU ?_
     refine zeZ ?_
     refine zdE ?_
     refine zl fun T hT => ?_
     refine (CallV.part (CallV.fn (tiBlack_K okc hslc)) byPart).mono ?_
     rintro _ _ ⟨rfl, c', kc, cb, cf, cc, rfl⟩
     refine zi ?_
     clear hT T
     refine zV ?_
     refine zcE ?_
     refine zau ?_
     refine zf ?_
     refine zaf ?_
     refine zc8 ?_
     refine KL.eN (Eff.stSlA (x1 := hand0) rfl rfl rfl rfl byTakeL ho2 he2) ?_; rintro _ _ rfl
     refine zap ?_
     rw [List.set_set]
     refine zaN ?_
     refine zt ?_
     rw [← cb]
     have hcn : c'.l.length = B.p.g.slots := by have := congrArg List.length cc; rw [tiC_len, List.length_set, tiC_len, kok.n] at this; exact this
     exact KE.fin (H' := markH { k1 with c := c', hs := k1.hs.set i hand0 } B.p ++ (planH B.p ++ (seenH B T N ++ F))) byMarks rfl byRes (by simp only [markH_app, seenH_app, List.length_set]; exact byPart)
      ⟨rfl, _, { k1 with c := c', hs := k1.hs.set i hand0 }, hsc, ⟨kc, kok.g, hcn, kok.o.set _ _, by simpa using kok.hs⟩, ⟨⟨kto.b, kto.bb, kto.tb, kto.nb, by show (k1.hs.set i hand0).length = _; rw [List.length_set]; exact kto.n, kto.l⟩, cf.trans kto.f, cb.trans kto.cb, kto.gb, kto.o⟩,
       ⟨by show tiC c' = _; rw [cc, kR.C], kR.G, by show k1.hs.set i hand0 = _; rw [kR.hs, h1s], kR.root, kR.act, kR.steps⟩, by simp only [markH_app, seenH_app]⟩
   ·have hlt : ¬ hfi + 1 < rn := by omega
    rw [if_neg hlt] at hsc
    refine zbC ?_
    refine zf3 ?_
    refine zo ?_
    refine KD.v0 rfl rfl (Val.isT (Val.neq rfl rfl) byLt) ?_
    refine zfr ?_
    refine zgF ?_
    refine zbj ?_
    refine zV ?_
    refine KE.next (K.condT rfl (K.seq ?_))
    refine zlx ?_
    refine zK ?_
    refine zdJ ?_
    refine zbU ?_
    refine zeZ ?_
    refine zdE ?_
    refine zl fun T hT => ?_
    refine (CallV.part (CallV.fn (tiBlack_K okc hslc)) byPart).mono ?_
    rintro _ _ ⟨rfl, c', kc, cb, cf, cc, rfl⟩
    refine zi ?_
    clear hT T
    refine zV ?_
    refine zcE ?_
    refine zau ?_
    refine zf ?_
    refine zaf ?_
    refine zc8 ?_
    refine KL.eN (Eff.stSlA (x1 := hand0) rfl rfl rfl rfl byTakeL ho2 he2) ?_; rintro _ _ rfl
    refine zap ?_
    rw [List.set_set]
    refine zaN ?_
    refine zt ?_
    rw [← cb]
    have hcn : c'.l.length = B.p.g.slots := by have := congrArg List.length cc; rw [tiC_len, List.length_set, tiC_len, kok.n] at this; exact this
    exact KE.fin (H' := markH { k1 with c := c', hs := k1.hs.set i hand0 } B.p ++ (planH B.p ++ (seenH B T N ++ F))) byMarks rfl byRes (by simp only [markH_app, seenH_app, List.length_set]; exact byPart)
     ⟨rfl, _, { k1 with c := c', hs := k1.hs.set i hand0 }, hsc, ⟨kc, kok.g, hcn, kok.o.set _ _, by simpa using kok.hs⟩, ⟨⟨kto.b, kto.bb, kto.tb, kto.nb, by show (k1.hs.set i hand0).length = _; rw [List.length_set]; exact kto.n, kto.l⟩, cf.trans kto.f, cb.trans kto.cb, kto.gb, kto.o⟩,
      ⟨by show tiC c' = _; rw [cc, kR.C], kR.G, by show k1.hs.set i hand0 = _; rw [kR.hs, h1s], kR.root, kR.act, kR.steps⟩, by simp only [markH_app, seenH_app]⟩
end
open Go.RowKit
set_option maxRecDepth 10000
section
variable {w0 : World} {F : Heap} {k : MkM} {B : BoM} {T : TbM} {N : PiM} {W : MwP} {m : MaP}
theorem htake_K {L : List HanP} {o : Own} {n i s : Nat} (ho : oOk hanE L o) (hn : n = L.length) (hi : i < L.length) :
  Call Tryz.prog w0 189 [.pointer (some (adr (oV o n) (i * hanE.sz))), .int .i64 (s : Nat)] (oH hanE 200 L o ++ F) (fun r H' => r = .tuple #[] ∧ H' = oH hanE 200 (L.set i ⟨(s : Nat), 0, true⟩) o ++ F) := by
 obtain ⟨h, hh⟩ := get_of_lt hi
 refine Call.enter2 (n := 8) (by kernel_rfl) Tryz.func189 rfl rfl rfl ?_
 skip
 refine zau ?_
 refine zj ?_
 refine zaf ?_
 refine zc8 ?_
 refine KL.eN (Eff.stSlA (x1 := (⟨(s : Nat), 0, true⟩ : HanP)) rfl rfl rfl rfl byTakeL ho hh) ?_; rintro _ _ rfl
 refine zap ?_
 exact KE.finN byMarks rfl byRes byPart ⟨rfl, rfl⟩
theorem mktake_K {i : Nat} (ok : MkOk k B.p) (hR : MkR k B.p m) (hi : i < k.hs.length) :
  Call Tryz.prog w0 187 [.pointer (some ⟨k.b, 0, none⟩), .pointer (some (adr (oV k.o k.hs.length) (i * hanE.sz)))] (markH k B.p ++ F)
   (fun r H' => (m.G.q = [] ∧ r = .bool false ∧ H' = markH k B.p ++ F) ∨ ∃ (s : Nat) (q : List Nat) (k' : MkM), m.G.q = s :: q ∧ r = .bool true ∧ MkOk k' B.p ∧ MkTo k k' ∧ MkR k' B.p { m with G := { m.G with q := q }, hs := m.hs.set i ⟨(s : Nat), 0, true⟩ } ∧ H' = markH k' B.p ++ F) := by
 have okg := ok.g
 have ho := ok.o
 have hnx := fun A => grNext_K (w0 := w0) (F := A) okg hR.G
 refine Call.enter2 (n := 20) (by kernel_rfl) Tryz.func187 rfl rfl rfl ?_
 simp only [markH_app, seenH_app]
 refine zcM ?_
 refine zac ?_
 refine zaY ?_
 refine zbL fun T hT => ?_
 refine (CallV.part (CallV.fn (hnx _)) byPart).mono ?_
 rintro _ _ (⟨hq, rfl, rfl⟩ | ⟨s, q, g', hq, rfl, kg, gb, gl, gR, rfl⟩)
 ·refine zd ?_
  clear hT T
  refine zG ?_
  refine zM ?_
  refine zbV ?_
  exact zly
 ·refine zd ?_
  clear hT T
  refine zG ?_
  refine zbz ?_
  refine zbb fun T hT => ?_
  refine (CallV.part (CallV.fn (htake_K (s := s) ho rfl hi)) byPart).mono ?_
  refine ze ?_
  clear hT T
  refine zy ?_
  refine zbV ?_
  rw [← gb]
  exact KE.fin (H' := markH { k with g := g', hs := k.hs.set i ⟨(s : Nat), 0, true⟩ } B.p ++ F) byMarks rfl byRes (by simp only [markH_app, List.length_set]; exact byPart)
   (.inr ⟨s, q, { k with g := g', hs := k.hs.set i ⟨(s : Nat), 0, true⟩ }, hq, rfl, ⟨ok.c, kg, ok.n, ok.o.set _ _, by simpa using ok.hs⟩, ⟨⟨rfl, rfl, rfl, rfl, by simp, gl⟩, rfl, rfl, gb, rfl⟩, ⟨hR.C, gR, by show k.hs.set i _ = _; rw [hR.hs], hR.root, hR.act, hR.steps⟩, by simp only [markH_app]⟩)
def wtM (m : MaP) (i : Nat) (o : Option Nat) (G : GyP) : MaP := match o with
 | none => { m with G := G }
 | some s => { m with G := G, hs := m.hs.set i ⟨(s : Nat), 0, true⟩ }
theorem walkM_no {g : PlG} {m : MaP} {i : Nat} (hq : walkG g m.G = none) : walkM g m i = none := by
 unfold walkM; rw [hq]; split <;> rfl
theorem walkM_some {g : PlG} {m : MaP} {i : Nat} {o : Option Nat} {G : GyP} (hn : (handA m i).is = false) (hq : walkG g m.G = some (o, G)) : walkM g m i = some (wtM m i o G) := by
 unfold walkM; rw [hq, if_neg (by rw [hn]; decide)]; cases o <;> rfl
theorem mkwalk_K {i : Nat} (hG : Glob w0) (ok : MkOk k B.p) (hR : MkR k B.p m) (hm : MaOk B.p.g k.g.ring.length W m) (hi : i < k.hs.length) :
  Call Tryz.prog w0 191 [.pointer (some ⟨k.b, 0, none⟩), .pointer (some (adr (oV k.o k.hs.length) (i * hanE.sz)))] (markH k B.p ++ (planH B.p ++ F))
   (fun r H' => (walkG B.p.g m.G = none ∧ r = .bool false ∧ H' = markH k B.p ++ (planH B.p ++ F)) ∨ ∃ (o : Option Nat) (G' : GyP) (k' : MkM), walkG B.p.g m.G = some (o, G') ∧ r = .bool true ∧ MkOk k' B.p ∧ MkTo k k' ∧ MkR k' B.p (wtM m i o G') ∧ H' = markH k' B.p ++ (planH B.p ++ F)) := by
 have okg := ok.g
 have ho := ok.o
 have hw := fun A => grWalk_K (w0 := w0) (F := A) hG okg hR.G hm.G
 refine Call.enter2 (n := 22) (by kernel_rfl) Tryz.func191 rfl rfl rfl ?_
 simp only [markH_app, seenH_app]
 refine zcM ?_
 refine zac ?_
 refine zaY ?_
 refine zbL fun T hT => ?_
 refine (CallV.part (CallV.fn (hw _)) byPart).mono ?_
 rintro _ _ (⟨hq, rfl, rfl⟩ | ⟨o, G', g', hq, rfl, kg, gb, gl, gR, rfl⟩)
 ·refine zd ?_
  clear hT T
  refine zd8 ?_
  refine zM ?_
  refine zbV ?_
  exact zly
 ·cases o with
  | none =>
   unfold nxI
   dsimp only [Option.isSome, Option.getD]
   refine zd ?_
   clear hT T
   refine zd8 ?_
   refine zM ?_
   refine zbV ?_
   rw [← gb]
   exact KE.fin (H' := markH { k with g := g' } B.p ++ (planH B.p ++ F)) byMarks rfl byRes (by simp only [markH_app]; exact byPart)
    (.inr ⟨none, G', { k with g := g' }, hq, rfl, ⟨ok.c, kg, ok.n, ok.o, ok.hs⟩, ⟨⟨rfl, rfl, rfl, rfl, rfl, gl⟩, rfl, rfl, gb, rfl⟩, ⟨hR.C, gR, hR.hs, hR.root, hR.act, hR.steps⟩, by simp only [markH_app]⟩)
  | some s =>
   unfold nxI
   dsimp only [Option.isSome, Option.getD]
   refine zd ?_
   clear hT T
   refine zd8 ?_
   refine zbz ?_
   refine zbb fun T hT => ?_
   refine (CallV.part (CallV.fn (htake_K (s := s) ho rfl hi)) byPart).mono ?_
   refine ze ?_
   clear hT T
   refine zy ?_
   refine zbV ?_
   rw [← gb]
   exact KE.fin (H' := markH { k with g := g', hs := k.hs.set i ⟨(s : Nat), 0, true⟩ } B.p ++ (planH B.p ++ F)) byMarks rfl byRes (by simp only [markH_app, List.length_set]; exact byPart)
    (.inr ⟨some s, G', { k with g := g', hs := k.hs.set i ⟨(s : Nat), 0, true⟩ }, hq, rfl, ⟨ok.c, kg, ok.n, ok.o.set _ _, by simpa using ok.hs⟩, ⟨⟨rfl, rfl, rfl, rfl, by simp, gl⟩, rfl, rfl, gb, rfl⟩, ⟨hR.C, gR, by show k.hs.set i _ = m.hs.set i _; rw [hR.hs], hR.root, hR.act, hR.steps⟩, by simp only [markH_app]⟩)
def microsV : Value := .agg [.bool false, .bool false, .nilFunc, .bool false, .bool true, .func (.func 186) #[] #[], .bool false, .bool false, .func (.func 187) #[] #[], .bool true, .bool false, .func (.func 190) #[] #[], .bool false, .bool false, .func (.func 191) #[] #[]].toArray
theorem micros_K {H : Heap} : Call Tryz.prog w0 113 [] H (fun r H' => r = microsV ∧ H' = H) := by
 unfold microsV
 refine Call.enter0 (n := 6) (by kernel_rfl) Tryz.func113 rfl rfl rfl ?_
 refine zq ?_
 refine zaI ?_; intro b0
 refine zy ?_
 refine zaf ?_
 refine zaf ?_
 refine zaf ?_
 refine zaf ?_
 refine zhK ?_
 refine zhG ?_
 exact zaU
end
open Go.RowKit
set_option maxRecDepth 10000
structure KmV where
 c : Value
 u : GyV
 h : Value
def kmL (v : PlV) (g : PlG) (long : Nat) (q : KmV) (m : MaP) : List Value := [q.c, v.L, v.F, v.M, .int .i64 (g.words : Nat), v.C, .int .i64 (long : Nat), q.u.Q, q.u.ow, q.u.di, .int .i64 (pgI m.G), .int .i64 (m.G.at_ : Nat), q.h, .int .i64 (m.root : Nat), .bool m.act, .int .i64 (m.steps : Nat)]
structure KmD (w0 : World) (D : Heap) (q : KmV) (m : MaP) : Prop where
 C : Sli w0 D bE q.c m.C
 G : GyD w0 D q.u m.G
 H : Sli w0 D hanE q.h m.hs
 oc : q.c.oneCell' = true
 oh : q.h.oneCell' = true
theorem KmD.part {w0 : World} {D D' : Heap} {q : KmV} {m : MaP} (h : KmD w0 D q m) (hp : Part D' D) : KmD w0 D' q m := ⟨h.C.part hp, h.G.part hp, h.H.part hp, h.oc, h.oh⟩
def KmG (w0 : World) (D F : Heap) (v : PlV) (g : PlG) (long : Nat) (m' : MaP) (f : Value → Value) (r : Value) (H' : Heap) : Prop :=
 ∃ (q' : KmV) (N : Heap), KmD w0 (N ++ D) q' m' ∧ r = f (.agg (kmL v g long q' m').toArray) ∧ H' = N ++ (D ++ F)
section
variable {w0 : World} {D F : Heap} {v : PlV} {g : PlG} {long : Nat} {q : KmV} {m : MaP} {W : MwP}
set_option maxHeartbeats 1000000 in
theorem rkshade_K {s : Nat} (hP : PlanD w0 D v g) (ok : PlOk g) (hK : KmD w0 D q m) (hm : MaOk g long W m) (hlg : long ≤ 64) (hs : s < g.slots) :
  Call Tryz.prog w0 257 [.agg (kmL v g long q m).toArray, .int .i64 (s : Nat)] (D ++ F) (KmG w0 D F v g long (shadeM g long m (s : Nat)) id) := by
 have q1 := hP.oL
 have q2 := hP.oF
 have q3 := hP.oM
 have q4 := hP.oC
 have q5 := hK.G.o1
 have q6 := hK.G.o2
 have q7 := hK.G.o3
 have q8 := hK.oc
 have q9 := hK.oh
 have hsl := ok.slots
 obtain ⟨c, hc⟩ := get_of_lt (l := m.C) (k := s) (by rw [hm.C]; exact hs)
 have hcl : m.C.length ≤ 65536 := by rw [hm.C]; omega
 have hsh := fun A => rtShade_K (w0 := w0) (D := D) (F := A) hK.C hK.oc hc hcl
 unfold KmG id
 by_cases h0 : c = 0
 ·have hsm : shadeM g long m (s : Nat) = { m with C := m.C.set s 1, G := putG g long m.G s } := by
   unfold shadeM
   rw [Int.toNat_natCast, hc, h0, if_pos ⟨by omega, rfl⟩]
  rw [hsm]
  rw [if_pos h0, decide_eq_true h0] at hsh
  unfold kmL
  dsimp only
  refine Call.enter2 (n := 34) (by kernel_rfl) Tryz.func257 rfl rfl rfl ?_
  refine zaq ?_; intro b2 b4
  refine zy ?_
  refine zJ ?_
  refine zh fun T hT => ?_
  refine zhx ?_
  rintro _ _ ⟨vc', N1, hC', ov', rfl, rfl⟩
  have hput := fun A => ryPut_K (w0 := w0) (D := N1 ++ D) (F := A) (hP.part byPart) (hK.G.part byPart) hm.G ok hlg hs
  unfold gyL at hput
  refine zd ?_
  clear hT T
  refine zd8 ?_
  refine za1 ?_
  refine zF ?_
  refine zan ?_
  refine zf ?_
  refine zaM ?_
  refine zaA ?_
  refine zcp ?_
  refine zz fun T hT => ?_
  refine (CallV.part (CallV.fn (hput _)) (by rw [List.append_assoc]; exact byPart)).mono ?_
  rintro _ _ ⟨u', N2, hG', rfl, rfl⟩
  have p5 := hG'.o1
  have p6 := hG'.o2
  have p7 := hG'.o3
  refine zd ?_
  clear hT T
  refine zai ?_
  refine zcp ?_
  refine zcj ?_
  refine zbx ?_
  exact KE.fin (H' := (N2 ++ N1) ++ (D ++ F)) byMarks rfl byRes (by simp only [List.append_assoc]; exact byPart) ⟨⟨vc', u', q.h⟩, N2 ++ N1, ⟨hC'.part (by simp only [List.append_assoc]; exact byPart), by simp only [List.append_assoc]; exact hG', hK.H.part (by simp only [List.append_assoc]; exact byPart), ov', q9⟩, rfl, rfl⟩
 ·have hsm : shadeM g long m (s : Nat) = m := by
   unfold shadeM
   rw [Int.toNat_natCast, hc, if_neg]
   rintro ⟨_, h⟩; cases h; exact h0 rfl
  rw [hsm]
  rw [if_neg h0, decide_eq_false h0] at hsh
  unfold kmL
  refine Call.enter2 (n := 34) (by kernel_rfl) Tryz.func257 rfl rfl rfl ?_
  refine zaq ?_; intro b2 b4
  refine zy ?_
  refine zJ ?_
  refine zh fun T hT => ?_
  refine zhx ?_
  rintro _ _ ⟨vc', N1, hC', ov', rfl, rfl⟩
  refine zd ?_
  clear hT T
  refine zd8 ?_
  refine za1 ?_
  refine zbA ?_
  refine zaz ?_
  refine zbx ?_
  refine zaH ?_
  exact zfc
theorem rkShade_K {s : Nat} (hP : PlanD w0 D v g) (ok : PlOk g) (hK : KmD w0 D q m) (hm : MaOk g long W m) (hlg : long ≤ 64) (hs : s < g.slots) :
  Call Tryz.prog w0 200 [.agg (kmL v g long q m).toArray, .int .i64 (s : Nat)] (D ++ F) (KmG w0 D F v g long (shdM g long m (s : Nat)) id) := by
 have q1 := hP.oL
 have q2 := hP.oF
 have q3 := hP.oM
 have q4 := hP.oC
 have q5 := hK.G.o1
 have q6 := hK.G.o2
 have q7 := hK.G.o3
 have q8 := hK.oc
 have q9 := hK.oh
 have hsh := fun A => rkshade_K (w0 := w0) (F := A) hP ok hK hm hlg hs
 unfold KmG id shdM at *
 cases ha : m.act with
 | false =>
  simp only [Bool.false_eq_true, if_false]
  unfold kmL
  rw [ha]
  refine Call.enter2 (n := 12) (by kernel_rfl) Tryz.func200 rfl rfl rfl ?_
  refine zeR ?_; intro b2 b4
  refine zkP ?_
  refine zat ?_
  refine zbx ?_
  refine zaH ?_
  exact zfc
 | true =>
  simp only [if_true]
  unfold kmL at *
  rw [ha] at hsh ⊢
  refine Call.enter2 (n := 12) (by kernel_rfl) Tryz.func200 rfl rfl rfl ?_
  refine zeR ?_; intro b2 b4
  refine zkP ?_
  refine zaG ?_
  refine zz fun T hT => ?_
  refine zhx ?_
  rintro _ _ ⟨q', N, hK', rfl, rfl⟩
  have p5 := hK'.G.o1
  have p6 := hK'.G.o2
  have p7 := hK'.G.o3
  have p8 := hK'.oc
  have p9 := hK'.oh
  refine zd ?_
  clear hT T
  refine z9 ?_
  refine zhG ?_
  exact zjk
theorem rkheld_K {i : Nat} {h : HanP} (hP : PlanD w0 D v g) (hK : KmD w0 D q m) (hm : MaOk g long W m) (hi : i < m.hs.length) :
  Call Tryz.prog w0 262 [.agg (kmL v g long q m).toArray, .int .i64 (i : Nat), .agg [.int .i64 h.slot, .int .i64 h.field, .bool h.is].toArray] (D ++ F) (KmG w0 D F v g long { m with hs := m.hs.set i h } id) := by
 have q1 := hP.oL
 have q2 := hP.oF
 have q3 := hP.oM
 have q4 := hP.oC
 have q5 := hK.G.o1
 have q6 := hK.G.o2
 have q7 := hK.G.o3
 have q8 := hK.oc
 have q9 := hK.oh
 have hH := hK.H
 have h9 := hm.hs
 obtain ⟨z, hz⟩ := get_of_lt hi
 unfold KmG id kmL
 dsimp only
 refine Call.enter3 (n := 19) (by kernel_rfl) Tryz.func262 rfl rfl rfl ?_
 refine zb4 ?_; intro b3 b5 b6
 refine zy ?_
 refine zad ?_; intro b8
 refine zeh ?_
 refine zk ?_
 refine KL.e rfl (Eff.appLit (E := hanE) (ys := m.hs) rfl rfl rfl rfl rfl rfl rfl byTake (by first | exact Sli.blk byTake rfl (by first | decide | simp) (by first | decide | (unfold maxLen; omega)) rfl | exact Sli.old (by assumption) | exact Sli.own byTakeL (by assumption) byLen | assumption | exact Sli.part (by assumption) byPart) (by first | assumption | omega | (simp <;> fail) | (simp; omega)) rfl) ?_; rintro _ _ ⟨o', ok', rfl, rfl⟩
 refine zfO ?_
 refine zkn ?_
 refine zjg ?_
 refine KL.eN (Eff.stSlA (x1 := h) rfl rfl rfl rfl byTakeL (by assumption) (by assumption)) ?_; rintro _ _ rfl
 refine zy ?_
 refine zf ?_
 refine zeh ?_
 refine zaA ?_
 refine zbx ?_
 exact KE.fin (H' := oH hanE 217 (m.hs.set i h) o' ++ (D ++ F)) byMarks rfl byRes byPart ⟨⟨q.c, q.u, oV o' m.hs.length⟩, oH hanE 217 (m.hs.set i h) o', ⟨hK.C.part byPart, hK.G.part byPart, Sli.own byTakeL (ok'.set i h) (by simp), q8, oV_one _ _⟩, rfl, rfl⟩
end
open Go.RowKit
set_option maxRecDepth 10000
structure WyS where
 u : GyV
 G : GyP
 k : Nat
 N : Heap
section
variable {w0 : World} {D F : Heap} {v : PlV} {g : PlG} {long : Nat} {u : GyV} {G : GyP}
set_option maxHeartbeats 4000000 in
theorem ryWalk_K (hP : PlanD w0 D v g) (hY : GyD w0 D u G) (hok : GyOk g long G) (ok : PlOk g) (hlg : long ≤ 64) :
  Call Tryz.prog w0 264 [.agg (gyL v g long u G).toArray] (D ++ F)
   (fun r H' => (walkG g G = none ∧ r = .tuple [.agg (gyL v g long u G).toArray, .int .i64 0, .bool false, .bool false].toArray ∧ H' = D ++ F) ∨ ∃ (o : Option Nat) (G' : GyP) (u' : GyV) (N : Heap), walkG g G = some (o, G') ∧ GyD w0 (N ++ D) u' G' ∧ r = .tuple [.agg (gyL v g long u' G').toArray, .int .i64 (nxI o), .bool o.isSome, .bool true].toArray ∧ H' = N ++ (D ++ F)) := by
 have q1 := hP.oL
 have q2 := hP.oF
 have q3 := hP.oM
 have q4 := hP.oC
 have q5 := hY.o1
 have q6 := hY.o2
 have q7 := hY.o3
 have hFi := hP.F
 have hMa := hP.M
 have hQ := hY.Q
 have hdir := fun A => rydirty_K (w0 := w0) (F := A) hP hY hok ok
 have hcop := fun A => rycopied_K (w0 := w0) (F := A) hP hY hok ok hlg
 have l4 := natI_len G.q
 have hsl := ok.slots
 have hpp := ok.pages
 unfold gyL at hdir hcop ⊢
 dsimp only at hcop
 refine Call.enter1 (n := 74) (by kernel_rfl) Tryz.func264 rfl rfl rfl ?_
 refine zaq ?_; intro b1 b2
 refine zcL ?_
 refine za0 ?_
 refine K.cutT (σ := WyS) [(1, _), (2, _)] bySub (fun s kp_ => kp_) (fun s => s.N ++ (D ++ ((b1, cells [v.L, v.F, v.M, .int .i64 (g.words : Nat), v.C, .int .i64 (long : Nat), s.u.Q, s.u.ow, s.u.di, .int .i64 (s.k : Nat), .int .i64 (s.G.at_ : Nat)] 94) :: (b2, cells [.slice none 0 0, .slice none 0 0, .slice none 0 0, .int .i64 0, .slice none 0 0, .int .i64 0, .slice none 0 0, .slice none 0 0, .slice none 0 0, .int .i64 0, .int .i64 0] 94) :: F))) (fun s => GyD w0 (s.N ++ D) s.u s.G ∧ GyOk g long s.G ∧ s.G.pg = some s.k ∧ openG G = some (s.k, s.G)) ?_ ?_
 ·cases hp : G.pg with
  | some k =>
   have hpi : pgI G = (k : Nat) := by unfold pgI; rw [hp]
   have hge : ¬ ((k : Nat) : Int) < 0 := by omega
   rw [hpi]
   refine zq ?_
   refine zaQ ?_
   refine zk ?_
   refine zR ?_
   refine za7 ?_
   exact KE.meet ⟨u, G, k, []⟩ bySub byPart ⟨hY, hok, hp, by unfold openG; rw [hp]⟩
  | none =>
   have hpi : pgI G = -1 := by unfold pgI; rw [hp]
   have hat := hok.no hp
   rw [hpi] at hdir hcop ⊢
   refine zq ?_
   refine zaQ ?_
   refine zk ?_
   refine zE ?_
   refine zI ?_
   refine zp fun T hT => ?_
   refine (CallV.part (CallV.fn (hdir _)) byPart).mono ?_
   refine ze ?_
   clear hT T
   cases hq : G.q with
   | cons s qq =>
    have hl' : ((natI G.q).length : Int) > 0 := by rw [hq] at l4; simp at l4; rw [hq]; omega
    have hno : walkG g G = none := by unfold walkG openG; rw [hp, hq]; rfl
    refine zal ?_
    refine zfq ?_
    refine zcb ?_
    refine zcs ?_
    refine z7 ?_
    refine zcJ ?_
    refine zey ?_
    refine zaH ?_
    exact KE.fin byMarks rfl byRes byPart (.inl ⟨hno, rfl, rfl⟩)
   | nil =>
    have hl' : ¬ ((natI G.q).length : Int) > 0 := by rw [hq]; decide
    cases hn : nextB G.di 0 true with
    | none =>
     have hno : walkG g G = none := by unfold walkG openG; rw [hp, hq]; dsimp only; rw [hn]; rfl
     dsimp only
     refine zal ?_
     refine zfq ?_
     refine zae ?_
     refine zaa ?_
     refine zE ?_
     refine zaz ?_
     refine zcJ ?_
     refine zey ?_
     refine zaH ?_
     exact KE.fin byMarks rfl byRes byPart (.inl ⟨hno, rfl, rfl⟩)
    | some k =>
     obtain ⟨n1, n2, n3, n4⟩ := nextB_of hn
     have hk : k < g.pages := by rw [← hok.di]; exact n1
     obtain ⟨z1, hz1⟩ := get_of_lt n1
     have hge : ¬ ((k : Nat) : Int) < 0 := by omega
     have hop : openG G = some (k, { G with di := G.di.set k false, pg := some k, at_ := 0 }) := by unfold openG; rw [hp, hq]; dsimp only; rw [hn]
     have hok1 := (open_left ok hok hop).1
     dsimp only
     refine zal ?_
     refine zfq ?_
     refine zae ?_
     refine zkH ?_
     refine zan ?_
     refine zp fun T hT => ?_
     refine zje ?_
     rintro _ _ ⟨o1, o2, o3, k1, k2, k3, rfl, rfl⟩
     refine zd ?_
     clear hT T
     refine zcj ?_
     refine zcr ?_
     refine zbo ?_
     refine zfu ?_
     refine zf ?_
     refine zaQ ?_
     refine zN ?_
     refine zc3 ?_
     refine zdM ?_
     refine zN ?_
     refine zap ?_
     exact KE.meet ⟨⟨oV o1 (natI G.q).length, oV o2 G.ow.length, oV o3 G.di.length⟩, { G with di := G.di.set k false, pg := some k, at_ := 0 }, k, oH boE 4 (G.di.set k false) o3 ++ (oH boE 4 G.ow o2 ++ oH iE 3 (natI G.q) o1)⟩ bySub (by simp only [List.append_assoc]; exact byPart)
      ⟨⟨Sli.own (by simp only [List.append_assoc]; exact byTakeL) k1 rfl, Sli.own (by simp only [List.append_assoc]; exact byTakeL) k2 rfl, Sli.own (by simp only [List.append_assoc]; exact byTakeL) (k3.set _ _) (by simp), oV_one _ _, oV_one _ _, oV_one _ _⟩, hok1, rfl, hop⟩
 ·rintro ⟨u1, G1, k, N1⟩ ⟨hY1, hok1, hk1, hop⟩
  dsimp only at hY1 hok1 hk1 hop ⊢
  have p5 := hY1.o1
  have p6 := hY1.o2
  have p7 := hY1.o3
  have hpi : pgI G1 = (k : Nat) := by unfold pgI; rw [hk1]
  have hcop1 := fun A => rycopied_K (w0 := w0) (D := N1 ++ D) (F := A) (hP.part byPart) hY1 hok1 ok hlg
  unfold gyL at hcop1
  dsimp only at hcop1
  rw [hpi] at hcop1
  obtain ⟨c1, c2⟩ := hok1.pg k hk1
  obtain ⟨b1', b2', b3'⟩ := mp_bnd ok c1
  have hfl := firsts_len (g := g)
  have hml := manys_len (g := g)
  have hfp := fp_get (g := g) c1
  have hmp := mp_get (g := g) c1
  have hs : g.fp k + G1.at_ < g.slots := by omega
  have e1 : ((g.fp k : Nat) : Int) + ((G1.at_ : Nat) : Int) = ((g.fp k + G1.at_ : Nat) : Int) := by omega
  have e2 : ((G1.at_ : Nat) : Int) + 1 = ((G1.at_ + 1 : Nat) : Int) := by omega
  obtain ⟨a, ha⟩ : ∃ a, g.fp k + G1.at_ = a := ⟨_, rfl⟩
  have hal : a < G1.ow.length := by rw [hok1.ow]; omega
  obtain ⟨wb, hwb⟩ := get_of_lt hal
  have hw : walkG g G = some (walk1 g k G1) := by unfold walkG; rw [hop]; rfl
  have hwG : (G1.ow[g.fp k + G1.at_]?).getD false = wb := by rw [ha, hwb]; rfl
  rw [hw]
  unfold walk1
  rw [hwG, ha]
  rw [ha] at e1
  refine zq ?_
  refine zp fun T hT => ?_
  refine (CallV.part (CallV.fn (hcop1 _)) (by rw [List.append_assoc]; exact byPart)).mono ?_
  rintro _ _ ⟨o1, o2, o3, k1, k2, k3, rfl, rfl⟩
  simp only [List.append_assoc]
  refine zd ?_
  clear hT T
  refine z9 ?_
  refine zcF ?_
  refine zf3 ?_
  refine zaV ?_
  refine zdj ?_
  refine zii ?_
  refine zx ?_
  refine zdS ?_
  refine zij ?_
  refine zx ?_
  refine zb1 ?_
  refine zbm ?_
  refine zcE ?_
  rw [e1]
  by_cases h : G1.at_ + 1 = g.mp k
  ·have h' : ((G1.at_ : Nat) : Int) + 1 = (g.mp k : Nat) := by omega
   rw [if_pos h, if_pos h]
   cases wb with
   | true =>
    refine zq ?_
    refine zfn ?_
    refine zdQ ?_
    refine zr ?_
    refine zfn ?_
    refine zfu ?_
    refine zdM ?_
    refine zcQ ?_
    refine zdM ?_
    refine zN ?_
    refine zdL ?_
    refine zh2 ?_
    refine zij ?_
    refine zx ?_
    refine zaV ?_
    refine zgI ?_
    refine zii ?_
    refine zx ?_
    refine zdS ?_
    refine zdK ?_
    refine zdY ?_
    refine zaQ ?_
    refine zN ?_
    refine zc3 ?_
    refine zdM ?_
    refine zfm ?_
    refine zaG ?_
    refine zgw ?_
    refine z9 ?_
    refine zA ?_
    refine zL ?_
    exact KE.fin (H' := ((oH boE 4 G1.di o3 ++ (oH boE 4 (G1.ow.set a false) o2 ++ oH iE 3 (natI G1.q) o1)) ++ N1) ++ (D ++ F)) byMarks rfl byRes (by simp only [List.append_assoc]; exact byPart)
     (.inr ⟨some a, { G1 with ow := G1.ow.set a false, pg := none, at_ := 0 }, ⟨oV o1 (natI G1.q).length, oV o2 G1.ow.length, oV o3 G1.di.length⟩, (oH boE 4 G1.di o3 ++ (oH boE 4 (G1.ow.set a false) o2 ++ oH iE 3 (natI G1.q) o1)) ++ N1, by simp only [if_true], ⟨Sli.own (by simp only [List.append_assoc]; exact byTakeL) k1 rfl, Sli.own (by simp only [List.append_assoc]; exact byTakeL) (k2.set _ _) (by simp), Sli.own (by simp only [List.append_assoc]; exact byTakeL) k3 rfl, oV_one _ _, oV_one _ _, oV_one _ _⟩, rfl, by simp only [List.append_assoc]⟩)
   | false =>
    refine zq ?_
    refine zfn ?_
    refine zdQ ?_
    refine zr ?_
    refine zfn ?_
    refine zfu ?_
    refine zdM ?_
    refine zcQ ?_
    refine zdM ?_
    refine zN ?_
    refine zdL ?_
    refine zh2 ?_
    refine zij ?_
    refine zx ?_
    refine zaV ?_
    refine zgI ?_
    refine zii ?_
    refine zx ?_
    refine zdS ?_
    refine zdK ?_
    refine zdY ?_
    refine zaQ ?_
    refine zN ?_
    refine zc3 ?_
    refine zdM ?_
    refine zfm ?_
    refine zat ?_
    refine zcJ ?_
    refine zey ?_
    exact KE.fin (H' := ((oH boE 4 G1.di o3 ++ (oH boE 4 (G1.ow.set a false) o2 ++ oH iE 3 (natI G1.q) o1)) ++ N1) ++ (D ++ F)) byMarks rfl byRes (by simp only [List.append_assoc]; exact byPart)
     (.inr ⟨none, { G1 with ow := G1.ow.set a false, pg := none, at_ := 0 }, ⟨oV o1 (natI G1.q).length, oV o2 G1.ow.length, oV o3 G1.di.length⟩, (oH boE 4 G1.di o3 ++ (oH boE 4 (G1.ow.set a false) o2 ++ oH iE 3 (natI G1.q) o1)) ++ N1, by simp only [Bool.false_eq_true, if_false], ⟨Sli.own (by simp only [List.append_assoc]; exact byTakeL) k1 rfl, Sli.own (by simp only [List.append_assoc]; exact byTakeL) (k2.set _ _) (by simp), Sli.own (by simp only [List.append_assoc]; exact byTakeL) k3 rfl, oV_one _ _, oV_one _ _, oV_one _ _⟩, rfl, by simp only [List.append_assoc]⟩)
  ·have h' : ¬ ((G1.at_ : Nat) : Int) + 1 = (g.mp k : Nat) := by omega
   rw [if_neg h, if_neg h]
   cases wb with
   | true =>
    refine zq ?_
    refine zfn ?_
    refine zdQ ?_
    refine zr ?_
    refine zfn ?_
    refine zfu ?_
    refine zdM ?_
    refine zcQ ?_
    refine zdM ?_
    refine zN ?_
    refine zdL ?_
    refine zh2 ?_
    refine zij ?_
    refine zx ?_
    refine zaV ?_
    refine zgI ?_
    refine zii ?_
    refine zx ?_
    refine zdS ?_
    refine zf7 ?_
    refine zV ?_
    refine zkr ?_
    refine zf ?_
    refine zaG ?_
    refine zgw ?_
    refine z9 ?_
    refine zA ?_
    refine zL ?_
    rw [e2]
    exact KE.fin (H' := ((oH boE 4 G1.di o3 ++ (oH boE 4 (G1.ow.set a false) o2 ++ oH iE 3 (natI G1.q) o1)) ++ N1) ++ (D ++ F)) byMarks rfl byRes (by simp only [List.append_assoc]; exact byPart)
     (.inr ⟨some a, { G1 with ow := G1.ow.set a false, pg := some k, at_ := G1.at_ + 1 }, ⟨oV o1 (natI G1.q).length, oV o2 G1.ow.length, oV o3 G1.di.length⟩, (oH boE 4 G1.di o3 ++ (oH boE 4 (G1.ow.set a false) o2 ++ oH iE 3 (natI G1.q) o1)) ++ N1, by simp only [if_true], ⟨Sli.own (by simp only [List.append_assoc]; exact byTakeL) k1 rfl, Sli.own (by simp only [List.append_assoc]; exact byTakeL) (k2.set _ _) (by simp), Sli.own (by simp only [List.append_assoc]; exact byTakeL) k3 rfl, oV_one _ _, oV_one _ _, oV_one _ _⟩, rfl, by simp only [List.append_assoc]⟩)
   | false =>
    refine zq ?_
    refine zfn ?_
    refine zdQ ?_
    refine zr ?_
    refine zfn ?_
    refine zfu ?_
    refine zdM ?_
    refine zcQ ?_
    refine zdM ?_
    refine zN ?_
    refine zdL ?_
    refine zh2 ?_
    refine zij ?_
    refine zx ?_
    refine zaV ?_
    refine zgI ?_
    refine zii ?_
    refine zx ?_
    refine zdS ?_
    refine zf7 ?_
    refine zV ?_
    refine zkr ?_
    refine zf ?_
    refine zat ?_
    refine zcJ ?_
    refine zey ?_
    rw [e2]
    exact KE.fin (H' := ((oH boE 4 G1.di o3 ++ (oH boE 4 (G1.ow.set a false) o2 ++ oH iE 3 (natI G1.q) o1)) ++ N1) ++ (D ++ F)) byMarks rfl byRes (by simp only [List.append_assoc]; exact byPart)
     (.inr ⟨none, { G1 with ow := G1.ow.set a false, pg := some k, at_ := G1.at_ + 1 }, ⟨oV o1 (natI G1.q).length, oV o2 G1.ow.length, oV o3 G1.di.length⟩, (oH boE 4 G1.di o3 ++ (oH boE 4 (G1.ow.set a false) o2 ++ oH iE 3 (natI G1.q) o1)) ++ N1, by simp only [Bool.false_eq_true, if_false], ⟨Sli.own (by simp only [List.append_assoc]; exact byTakeL) k1 rfl, Sli.own (by simp only [List.append_assoc]; exact byTakeL) (k2.set _ _) (by simp), Sli.own (by simp only [List.append_assoc]; exact byTakeL) k3 rfl, oV_one _ _, oV_one _ _, oV_one _ _⟩, rfl, by simp only [List.append_assoc]⟩)
end
set_option maxRecDepth 10000
def KmO (w0 : World) (D F : Heap) (v : PlV) (g : PlG) (long : Nat) (m : MaP) (o : Option MaP) (r : Value) (H' : Heap) : Prop :=
 ∃ (q' : KmV) (N : Heap), KmD w0 (N ++ D) q' (o.getD m) ∧ r = .tuple [.agg (kmL v g long q' (o.getD m)).toArray, .bool o.isSome].toArray ∧ H' = N ++ (D ++ F)
section
variable {w0 : World} {D F : Heap} {v : PlV} {g : PlG} {long : Nat} {q : KmV} {m : MaP} {W : MwP}
set_option maxHeartbeats 1000000 in
theorem rktake_K {i : Nat} (hP : PlanD w0 D v g) (ok : PlOk g) (hK : KmD w0 D q m) (hm : MaOk g long W m) (hlg : long ≤ 64) (hi : i < m.hs.length) :
  Call Tryz.prog w0 207 [.agg (kmL v g long q m).toArray, .int .i64 (i : Nat)] (D ++ F) (KmO w0 D F v g long m (takeM m i)) := by
 have q1 := hP.oL
 have q2 := hP.oF
 have q3 := hP.oM
 have q4 := hP.oC
 have q5 := hK.G.o1
 have q6 := hK.G.o2
 have q7 := hK.G.o3
 have q8 := hK.oc
 have q9 := hK.oh
 have hH := hK.H
 obtain ⟨h, hh⟩ := get_of_lt hi
 have hha := handA_at hh
 have hnx := fun A => ryNext_K (w0 := w0) (D := D) (F := A) hP hK.G hm.G ok hlg
 unfold gyL at hnx
 unfold KmO
 obtain ⟨hsl, hfi, his⟩ := h
 cases his with
 | true =>
  have hmn : takeM m i = none := by unfold takeM; rw [hha]; rfl
  rw [hmn]
  simp only [Option.isSome, Option.getD]
  unfold kmL
  refine Call.enter2 (n := 33) (by kernel_rfl) Tryz.func207 rfl rfl rfl ?_
  refine zcX ?_; intro b2 b4
  refine zeC ?_
  refine zfB ?_
  refine zI ?_
  refine zbg ?_
  exact zfc
 | false =>
  unfold kmL
  refine Call.enter2 (n := 33) (by kernel_rfl) Tryz.func207 rfl rfl rfl ?_
  refine zcX ?_; intro b2 b4
  refine zeC ?_
  refine zfB ?_
  refine zM ?_
  refine zcp ?_
  refine zp fun T hT => ?_
  refine (CallV.part (CallV.fn (hnx _)) byPart).mono ?_
  rintro _ _ (⟨hq, rfl, rfl⟩ | ⟨s, qq, u', N1, hq, hG', rfl, rfl⟩)
  ·have hmn : takeM m i = none := by unfold takeM; rw [hha, if_neg (by simp), hq]
   refine zd ?_
   clear hT T
   rw [hmn]
   simp only [Option.isSome, Option.getD]
   refine zjH ?_
   refine zay ?_; intro b6
   refine zA ?_
   refine zT ?_
   refine zat ?_
   refine zbg ?_
   exact zfc
  ·have hmn : takeM m i = some { m with G := { m.G with q := qq }, hs := m.hs.set i ⟨(s : Nat), 0, true⟩ } := by unfold takeM; rw [hha, if_neg (by simp), hq]
   have p5 := hG'.o1
   have p6 := hG'.o2
   have p7 := hG'.o3
   have hG1 : GyOk g long { m.G with q := qq } := ⟨fun s hs => hm.G.q s (by rw [hq]; exact List.mem_cons_of_mem _ hs), by have := hm.G.ql; rw [hq] at this; simp at this ⊢; omega, hm.G.ow, hm.G.di, hm.G.pg, hm.G.no, hm.G.od⟩
   have hK1 : KmD w0 (N1 ++ D) ⟨q.c, u', q.h⟩ { m with G := { m.G with q := qq } } := ⟨hK.C.part byPart, hG', hK.H.part byPart, q8, q9⟩
   have hm1 : MaOk g long W { m with G := { m.G with q := qq } } := ⟨hm.C, hm.c, hG1, hm.hs, hm.h, hm.root⟩
   have hhe := fun A => rkheld_K (w0 := w0) (D := N1 ++ D) (F := A) (h := ⟨(s : Nat), 0, true⟩) (hP.part byPart) hK1 hm1 hi
   unfold KmG id kmL at hhe
   dsimp only at hhe
   refine zd ?_
   clear hT T
   rw [hmn]
   simp only [Option.isSome, Option.getD]
   refine zjH ?_
   refine zay ?_; intro b6
   refine zA ?_
   refine zT ?_
   refine zaG ?_
   refine zB ?_
   refine zcp ?_
   refine zcj ?_
   refine zfh ?_
   refine zaf ?_
   refine zg fun T hT => ?_
   refine (CallV.part (CallV.fn (hhe _)) (by rw [List.append_assoc]; exact byPart)).mono ?_
   rintro _ _ ⟨q', N2, hK2, rfl, rfl⟩
   have r5 := hK2.G.o1
   have r6 := hK2.G.o2
   have r7 := hK2.G.o3
   have r8 := hK2.oc
   have r9 := hK2.oh
   refine zd ?_
   clear hT T
   refine zgj ?_
   exact zlz
set_option maxHeartbeats 1000000 in
theorem rkwalk_K {i : Nat} (hP : PlanD w0 D v g) (ok : PlOk g) (hK : KmD w0 D q m) (hm : MaOk g long W m) (hlg : long ≤ 64) (hi : i < m.hs.length) :
  Call Tryz.prog w0 209 [.agg (kmL v g long q m).toArray, .int .i64 (i : Nat)] (D ++ F) (KmO w0 D F v g long m (walkM g m i)) := by
 have q1 := hP.oL
 have q2 := hP.oF
 have q3 := hP.oM
 have q4 := hP.oC
 have q5 := hK.G.o1
 have q6 := hK.G.o2
 have q7 := hK.G.o3
 have q8 := hK.oc
 have q9 := hK.oh
 have hH := hK.H
 obtain ⟨h, hh⟩ := get_of_lt hi
 have hha := handA_at hh
 have hwk := fun A => ryWalk_K (w0 := w0) (D := D) (F := A) hP hK.G hm.G ok hlg
 unfold gyL at hwk
 unfold KmO
 obtain ⟨hsl, hfi, his⟩ := h
 cases his with
 | true =>
  have hmn : walkM g m i = none := by unfold walkM; rw [hha]; rfl
  rw [hmn]
  simp only [Option.isSome, Option.getD]
  unfold kmL
  refine Call.enter2 (n := 37) (by kernel_rfl) Tryz.func209 rfl rfl rfl ?_
  refine zcX ?_; intro b2 b4
  refine zeC ?_
  refine zfB ?_
  refine zI ?_
  refine zbg ?_
  exact zfc
 | false =>
  unfold kmL
  refine Call.enter2 (n := 37) (by kernel_rfl) Tryz.func209 rfl rfl rfl ?_
  refine zcX ?_; intro b2 b4
  refine zeC ?_
  refine zfB ?_
  refine zM ?_
  refine zcp ?_
  refine zp fun T hT => ?_
  refine (CallV.part (CallV.fn (hwk _)) byPart).mono ?_
  rintro _ _ (⟨hq, rfl, rfl⟩ | ⟨o, G', u', N1, hq, hG', rfl, rfl⟩)
  ·have hmn : walkM g m i = none := walkM_no hq
   refine zd ?_
   clear hT T
   rw [hmn]
   simp only [Option.isSome, Option.getD]
   refine zai ?_
   refine zfd ?_
   refine zay ?_; intro b6
   refine zcL ?_
   refine zT ?_
   refine zat ?_
   refine zbg ?_
   exact zfc
  ·have hmn : walkM g m i = some (wtM m i o G') := walkM_some (by rw [hha]) hq
   have p5 := hG'.o1
   have p6 := hG'.o2
   have p7 := hG'.o3
   obtain ⟨j, Gj, hop, hw1⟩ : ∃ j Gj, openG m.G = some (j, Gj) ∧ walk1 g j Gj = (o, G') := by
    unfold walkG at hq
    cases ho : openG m.G with
    | none => rw [ho] at hq; cases hq
    | some x => rw [ho] at hq; exact ⟨x.1, x.2, rfl, by simpa using hq⟩
   obtain ⟨hGj, hpj, _⟩ := open_left ok hm.G hop
   have hG1 : GyOk g long G' := by have := (walk1_ok ok hGj hpj).1; rw [hw1] at this; exact this
   have hK1 : KmD w0 (N1 ++ D) ⟨q.c, u', q.h⟩ { m with G := G' } := ⟨hK.C.part byPart, hG', hK.H.part byPart, q8, q9⟩
   have hm1 : MaOk g long W { m with G := G' } := ⟨hm.C, hm.c, hG1, hm.hs, hm.h, hm.root⟩
   cases o with
   | none =>
    unfold nxI
    dsimp only [Option.isSome, Option.getD]
    refine zd ?_
    clear hT T
    rw [hmn]
    simp only [Option.isSome, Option.getD, wtM]
    refine zai ?_
    refine zfd ?_
    refine zay ?_; intro b6
    refine zcL ?_
    refine zT ?_
    refine zaG ?_
    refine zB ?_
    refine zcp ?_
    refine z9 ?_
    refine zg9 ?_
    refine zM ?_
    refine zck ?_
    exact KE.fin byMarks rfl byRes byPart ⟨⟨q.c, u', q.h⟩, N1, hK1, rfl, rfl⟩
   | some s =>
    have hhe := fun A => rkheld_K (w0 := w0) (D := N1 ++ D) (F := A) (h := ⟨(s : Nat), 0, true⟩) (hP.part byPart) hK1 hm1 hi
    unfold KmG id kmL at hhe
    dsimp only at hhe
    unfold nxI
    dsimp only [Option.isSome, Option.getD]
    refine zd ?_
    clear hT T
    rw [hmn]
    simp only [Option.isSome, Option.getD, wtM]
    refine zai ?_
    refine zfd ?_
    refine zay ?_; intro b6
    refine zcL ?_
    refine zT ?_
    refine zaG ?_
    refine zB ?_
    refine zcp ?_
    refine z9 ?_
    refine zg9 ?_
    refine zbz ?_
    refine zfh ?_
    refine zaf ?_
    refine zg fun T hT => ?_
    refine (CallV.part (CallV.fn (hhe _)) (by rw [List.append_assoc]; exact byPart)).mono ?_
    rintro _ _ ⟨q', N2, hK2, rfl, rfl⟩
    have r5 := hK2.G.o1
    have r6 := hK2.G.o2
    have r7 := hK2.G.o3
    have r8 := hK2.oc
    have r9 := hK2.oh
    refine zd ?_
    clear hT T
    refine zcj ?_
    refine zck ?_
    exact zlz
end
end Go.Proofs.YtalholahapcpkaaGreatDoor.Sw
