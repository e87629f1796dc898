/- Ideal: the document's Do. Ideal: the law IdealPlays, the walk. -/
import Derived.Test.YthamkgghnjenhaaGreatJ22
namespace Go.Proofs.YthamkgghnjenhaaGreat
open Go.RowKit
set_option linter.unusedVariables false
set_option linter.unusedSimpArgs false
set_option maxRecDepth 10000

theorem set_ok {A B : List OT} {t t' : OT} {ot oh : Own} {hs hs' : List Int} (ok : COk ⟨A ++ t :: B, ot, hs, oh⟩) (hh : hs'.length = hs.length) (h1 : oOk iE t'.x.refs t'.o1) (h2 : oOk uE t'.x.words t'.o2) : COk ⟨A ++ t' :: B, ot, hs', oh⟩ := by
  have hl : (A ++ t' :: B).length = (A ++ t :: B).length := by simp
  refine ⟨?_, ?_, fun p hp => ?_⟩
  · have := ok.ot
    cases ot with
    | none => exact absurd this (by simp [oOk])
    | some ob => simp only [oOk] at this ⊢; rw [hl]; exact this
  · have := ok.oh
    cases oh with
    | none => simp only [oOk] at this ⊢; subst this; exact List.length_eq_zero_iff.1 hh
    | some ob => simp only [oOk] at this ⊢; rw [hh]; exact this
  · rcases List.mem_append.1 hp with h | h
    · exact ok.ts p (List.mem_append_left _ h)
    · rcases List.mem_cons.1 h with rfl | h
      · exact ⟨h1, h2⟩
      · exact ok.ts p (List.mem_append_right _ (.tail _ h))
theorem gives_drop {T : List OT} {ot oh : Own} {d : DV} {Q : Dc} {h : Int} {N : Heap} {r : Sd} (ok : COk ⟨T, ot, Q.hs.set (h - 1).toNat 0, oh⟩) (ht : T.map (·.x) = Q.ts) (hc : d.vc.oneCell' = true) (hN : N = cpH ⟨T, ot, Q.hs.set (h - 1).toNat 0, oh⟩) :
    GivesD d Q (dropD Q h) r (.tuple [.agg [d.vc, .int .i64 Q.quota, .int .i64 Q.caps, oV ot T.length, oV oh Q.hs.length].toArray, .agg [.int .i64 r.e, .int .i64 r.h, .int .u64 r.w].toArray].toArray) N := by
  subst hN
  refine ⟨cpD d.vc ⟨T, ot, Q.hs.set (h - 1).toNat 0, oh⟩, ?_, ⟨hc, oV_one _ _, oV_one _ _⟩, fun w hw hN => ?_⟩
  · show _ = Value.tuple [.agg [d.vc, .int .i64 Q.quota, .int .i64 Q.caps, oV ot T.length, oV oh (Q.hs.set (h - 1).toNat 0).length].toArray, _].toArray
    rw [List.length_set]; rfl
  · have := doc_own (q := Q.quota) (p := Q.caps) ok hw.c hN
    unfold dropD
    rw [← ht]
    exact this
set_option maxHeartbeats 8000000 in
theorem RDo_K {w0 : World} {d : DV} {Q : Dc} {op : OpP} (hD : DocR w0 d Q) (hB : DcB Q) (ht : Q.ts.length < 100) (hc : 0 ≤ op.code ∧ op.code ≤ 255) :
    Call Tryz.prog w0 10 [docV d Q, opV op] [] (GivesD d Q (doD Q op).1 (doD Q op).2) := by
  have a1 := hD.c.one
  have a2 := hD.t.one
  have a3 := hD.h.one
  have hdv : docV d Q = .agg [d.vc, .int .i64 Q.quota, .int .i64 Q.caps, d.vt, d.vh].toArray := rfl
  have hopv : opV op = .agg [.int .u8 op.code, .int .i64 op.h, .int .i64 op.a, .int .i64 op.b, .int .u64 op.v, .int .i64 op.to].toArray := rfl
  rw [hdv, hopv]
  refine Call.enter2 (n := 101) (by kernel_rfl) Tryz.func10 rfl rfl rfl ?_
  by_cases h1 : op.code = 1
  · have hp : doD Q op = allocD Q op := by unfold doD; rw [if_pos h1]
    rw [hp]
    refine K.seq ?_
    refine K.region ?_
    (refine KL.e rfl (Eff.box rfl rfl) ?_; rintro _ _ ⟨b2, rfl, rfl⟩)
    (refine KL.e rfl (Eff.box rfl rfl) ?_; rintro _ _ ⟨b3, rfl, rfl⟩)
    (refine KL.e rfl (Eff.alloc rfl) ?_; rintro _ _ ⟨b4, rfl, rfl⟩)
    (refine KL.e rfl (Eff.alloc rfl) ?_; rintro _ _ ⟨b5, rfl, rfl⟩)
    refine KL.nil ?_
    refine KE.next ?_
    refine K.seq ?_
    refine K.seq ?_
    refine K.region ?_
    (refine KL.v rfl (Val.fieldAddr0 (k := 0) rfl rfl) ?_)
    (refine KL.v rfl (Val.loadP rfl rfl (Sees.cell byTake rfl)) ?_)
    (refine KL.v rfl (Val.isT (Val.eql rfl rfl) byLt) ?_)
    refine KL.nil ?_
    refine KE.next ?_
    refine K.condT rfl ?_
    refine K.seq ?_
    refine K.region ?_
    (refine KL.v rfl (Val.loadA rfl rfl rfl bySeeN) ?_)
    (refine KL.v rfl (Val.loadA rfl rfl rfl bySeeN) ?_)
    (refine KL.callc rfl rfl byEvL fun T hT => ?_)
    refine (CallV.pure fun w hw => CallV.fn (Ralloc_K (op := op) (hD.only hw.old) hB ht)).mono ?_
    rintro _ _ ⟨N, ⟨d', rfl, ⟨b1', b2', b3'⟩, hd'⟩, rfl⟩
    unfold docV sdV
    refine hT _ _ ?_; clear hT; clear T
    (refine KL.v rfl (Val.extract rfl rfl) ?_)
    (refine KL.v rfl (Val.extract rfl rfl) ?_)
    (refine KL.eN (Eff.storeAL rfl rfl rfl byTake byLay byOnes) ?_; rintro _ _ rfl)
    (refine KL.eN (Eff.storeAL rfl rfl rfl byTake byLay byOnes) ?_; rintro _ _ rfl)
    refine KL.nil ?_
    refine KE.next ?_
    refine K.ret ?_
    refine KE.passR ?_
    exact KE.fin byMarks rfl byRes byPart ⟨d', rfl, ⟨b1', b2', b3'⟩, hd'⟩
  by_cases h2 : op.code < 1
  · have hp : doD Q op = (Q, ⟨250, 0, 0⟩) := by unfold doD; rw [if_neg h1, if_pos (.inl h2)]
    rw [hp]
    refine K.seq ?_
    refine K.region ?_
    (refine KL.e rfl (Eff.box rfl rfl) ?_; rintro _ _ ⟨b2, rfl, rfl⟩)
    (refine KL.e rfl (Eff.box rfl rfl) ?_; rintro _ _ ⟨b3, rfl, rfl⟩)
    (refine KL.e rfl (Eff.alloc rfl) ?_; rintro _ _ ⟨b4, rfl, rfl⟩)
    (refine KL.e rfl (Eff.alloc rfl) ?_; rintro _ _ ⟨b5, rfl, rfl⟩)
    refine KL.nil ?_
    refine KE.next ?_
    refine K.seq ?_
    refine K.seq ?_
    refine K.region ?_
    (refine KL.v rfl (Val.fieldAddr0 (k := 0) rfl rfl) ?_)
    (refine KL.v rfl (Val.loadP rfl rfl (Sees.cell byTake rfl)) ?_)
    (refine KL.v rfl (Val.isF (Val.eql rfl rfl) byLt) ?_)
    refine KL.nil ?_
    refine KE.next ?_
    refine K.condF rfl ?_
    refine K.skip ?_
    refine KE.next ?_
    refine K.seq ?_
    refine K.seq ?_
    refine K.region ?_
    (refine KL.v rfl (Val.fieldAddr0 (k := 0) rfl rfl) ?_)
    (refine KL.v rfl (Val.loadP rfl rfl (Sees.cell byTake rfl)) ?_)
    (refine KL.v rfl (Val.isT (Val.lss rfl rfl) byLt) ?_)
    (refine KL.v rfl (Val.move rfl) ?_)
    refine KL.skipG rfl rfl rfl ?_
    refine KL.skipG rfl rfl rfl ?_
    refine KL.skipG rfl rfl rfl ?_
    (refine KL.v rfl (Val.pickT rfl rfl rfl) ?_)
    refine KL.nil ?_
    refine KE.next ?_
    refine K.condT rfl ?_
    refine K.seq ?_
    refine K.drawn _ [(0, 1), (1, 2), (2, 2), (3, 2)] (by kernel_rfl) (by kernel_rfl) (by kernel_rfl) (by kernel_rfl) (by kernel_rfl) (by kernel_rfl) (Part.drop (Part.drop Part.all)) ?_
    refine KD.v1 rfl rfl (Val.loadA rfl rfl rfl bySeeN) ?_
    refine KD.callc rfl rfl rfl byEvL fun T hT => ?_
    (refine (CallV.fn said_K).mono ?_; rintro _ _ ⟨rfl, rfl⟩; unfold sdV; dsimp only)
    (refine hT _ _ byPart ?_; clear hT; clear T)
    (refine KD.eN rfl (Eff.storeAL rfl rfl rfl byTake byLay byOnes) ?_; rintro _ _ rfl; refine ⟨byPart, ?_⟩)
    (refine KD.eN rfl (Eff.storeAL rfl rfl rfl byTake byLay byOnes) ?_; rintro _ _ rfl; refine ⟨byPart, ?_⟩)
    refine KD.nil ?_
    refine KE.next ?_
    refine K.ret ?_
    refine KE.passR ?_
    exact KE.fin byMarks rfl byRes byPart ⟨d, rfl, hD.one, fun w h _ => h⟩
  by_cases h7 : op.code > 7
  · have hp : doD Q op = (Q, ⟨250, 0, 0⟩) := by unfold doD; rw [if_neg h1, if_pos (.inr h7)]
    rw [hp]
    refine K.seq ?_
    refine K.region ?_
    (refine KL.e rfl (Eff.box rfl rfl) ?_; rintro _ _ ⟨b2, rfl, rfl⟩)
    (refine KL.e rfl (Eff.box rfl rfl) ?_; rintro _ _ ⟨b3, rfl, rfl⟩)
    (refine KL.e rfl (Eff.alloc rfl) ?_; rintro _ _ ⟨b4, rfl, rfl⟩)
    (refine KL.e rfl (Eff.alloc rfl) ?_; rintro _ _ ⟨b5, rfl, rfl⟩)
    refine KL.nil ?_
    refine KE.next ?_
    refine K.seq ?_
    refine K.seq ?_
    refine K.region ?_
    (refine KL.v rfl (Val.fieldAddr0 (k := 0) rfl rfl) ?_)
    (refine KL.v rfl (Val.loadP rfl rfl (Sees.cell byTake rfl)) ?_)
    (refine KL.v rfl (Val.isF (Val.eql rfl rfl) byLt) ?_)
    refine KL.nil ?_
    refine KE.next ?_
    refine K.condF rfl ?_
    refine K.skip ?_
    refine KE.next ?_
    refine K.seq ?_
    refine K.seq ?_
    refine K.region ?_
    (refine KL.v rfl (Val.fieldAddr0 (k := 0) rfl rfl) ?_)
    (refine KL.v rfl (Val.loadP rfl rfl (Sees.cell byTake rfl)) ?_)
    (refine KL.v rfl (Val.isF (Val.lss rfl rfl) byLt) ?_)
    (refine KL.v rfl (Val.move rfl) ?_)
    (refine KL.yes rfl rfl ?_; refine KL.v rfl (Val.fieldAddr0 (k := 0) rfl rfl) ?_)
    (refine KL.yes rfl rfl ?_; refine KL.v rfl (Val.loadP rfl rfl (Sees.cell byTake rfl)) ?_)
    (refine KL.yes rfl rfl ?_; refine KL.v rfl (Val.isT (Val.gtr rfl rfl) byLt) ?_)
    (refine KL.v rfl (Val.pickF rfl rfl rfl) ?_)
    refine KL.nil ?_
    refine KE.next ?_
    refine K.condT rfl ?_
    refine K.seq ?_
    refine K.drawn _ [(0, 1), (1, 2), (2, 2), (3, 2)] (by kernel_rfl) (by kernel_rfl) (by kernel_rfl) (by kernel_rfl) (by kernel_rfl) (by kernel_rfl) (Part.drop (Part.drop Part.all)) ?_
    refine KD.v1 rfl rfl (Val.loadA rfl rfl rfl bySeeN) ?_
    refine KD.callc rfl rfl rfl byEvL fun T hT => ?_
    (refine (CallV.fn said_K).mono ?_; rintro _ _ ⟨rfl, rfl⟩; unfold sdV; dsimp only)
    (refine hT _ _ byPart ?_; clear hT; clear T)
    (refine KD.eN rfl (Eff.storeAL rfl rfl rfl byTake byLay byOnes) ?_; rintro _ _ rfl; refine ⟨byPart, ?_⟩)
    (refine KD.eN rfl (Eff.storeAL rfl rfl rfl byTake byLay byOnes) ?_; rintro _ _ rfl; refine ⟨byPart, ?_⟩)
    refine KD.nil ?_
    refine KE.next ?_
    refine K.ret ?_
    refine KE.passR ?_
    exact KE.fin byMarks rfl byRes byPart ⟨d, rfl, hD.one, fun w h _ => h⟩
  refine K.seq ?_
  refine K.region ?_
  (refine KL.e rfl (Eff.box rfl rfl) ?_; rintro _ _ ⟨b2, rfl, rfl⟩)
  (refine KL.e rfl (Eff.box rfl rfl) ?_; rintro _ _ ⟨b3, rfl, rfl⟩)
  (refine KL.e rfl (Eff.alloc rfl) ?_; rintro _ _ ⟨b4, rfl, rfl⟩)
  (refine KL.e rfl (Eff.alloc rfl) ?_; rintro _ _ ⟨b5, rfl, rfl⟩)
  refine KL.nil ?_
  refine KE.next ?_
  refine K.seq ?_
  refine K.seq ?_
  refine K.region ?_
  (refine KL.v rfl (Val.fieldAddr0 (k := 0) rfl rfl) ?_)
  (refine KL.v rfl (Val.loadP rfl rfl (Sees.cell byTake rfl)) ?_)
  (refine KL.v rfl (Val.isF (Val.eql rfl rfl) byLt) ?_)
  refine KL.nil ?_
  refine KE.next ?_
  refine K.condF rfl ?_
  refine K.skip ?_
  refine KE.next ?_
  refine K.seq ?_
  refine K.seq ?_
  refine K.region ?_
  (refine KL.v rfl (Val.fieldAddr0 (k := 0) rfl rfl) ?_)
  (refine KL.v rfl (Val.loadP rfl rfl (Sees.cell byTake rfl)) ?_)
  (refine KL.v rfl (Val.isF (Val.lss rfl rfl) byLt) ?_)
  (refine KL.v rfl (Val.move rfl) ?_)
  (refine KL.yes rfl rfl ?_; refine KL.v rfl (Val.fieldAddr0 (k := 0) rfl rfl) ?_)
  (refine KL.yes rfl rfl ?_; refine KL.v rfl (Val.loadP rfl rfl (Sees.cell byTake rfl)) ?_)
  (refine KL.yes rfl rfl ?_; refine KL.v rfl (Val.isF (Val.gtr rfl rfl) byLt) ?_)
  (refine KL.v rfl (Val.pickF rfl rfl rfl) ?_)
  refine KL.nil ?_
  refine KE.next ?_
  refine K.condF rfl ?_
  refine K.skip ?_
  refine KE.next ?_
  refine K.seq ?_
  refine K.region ?_
  (refine KL.v rfl (Val.loadA rfl rfl rfl bySeeN) ?_)
  (refine KL.v rfl (Val.fieldAddr0 (k := 1) rfl rfl) ?_)
  (refine KL.v rfl (Val.loadP rfl rfl (Sees.cell byTake rfl)) ?_)
  (refine KL.callc rfl rfl byEvL fun T hT => ?_)
  refine (CallV.fn (RNames_K (h := op.h) hD hB)).mono ?_
  rintro _ _ ⟨rfl, rfl⟩
  refine hT _ _ ?_; clear hT; clear T
  have hnn := names_in hB.ok op.h
  by_cases hn0 : namesD Q op.h = 0
  · have hp : doD Q op = (Q, ⟨130, 0, 0⟩) := by unfold doD; rw [if_neg h1, if_neg (by omega), if_pos hn0]
    rw [hn0, hp]
    (refine KL.v rfl (Val.assign rfl) ?_)
    refine KL.nil ?_
    refine KE.next ?_
    refine K.seq ?_
    refine K.seq ?_
    refine K.region ?_
    (refine KL.v rfl (Val.move rfl) ?_)
    (refine KL.v rfl (Val.isT (Val.eql rfl rfl) byLt) ?_)
    refine KL.nil ?_
    refine KE.next ?_
    refine K.condT rfl ?_
    refine K.seq ?_
    refine K.drawn _ [(0, 1), (1, 2), (2, 2), (3, 2)] (by kernel_rfl) (by kernel_rfl) (by kernel_rfl) (by kernel_rfl) (by kernel_rfl) (by kernel_rfl) (Part.drop (Part.drop Part.all)) ?_
    refine KD.v1 rfl rfl (Val.loadA rfl rfl rfl bySeeN) ?_
    refine KD.callc rfl rfl rfl byEvL fun T hT => ?_
    (refine (CallV.fn said_K).mono ?_; rintro _ _ ⟨rfl, rfl⟩; unfold sdV; dsimp only)
    (refine hT _ _ byPart ?_; clear hT; clear T)
    (refine KD.eN rfl (Eff.storeAL rfl rfl rfl byTake byLay byOnes) ?_; rintro _ _ rfl; refine ⟨byPart, ?_⟩)
    (refine KD.eN rfl (Eff.storeAL rfl rfl rfl byTake byLay byOnes) ?_; rintro _ _ rfl; refine ⟨byPart, ?_⟩)
    refine KD.nil ?_
    refine KE.next ?_
    refine K.ret ?_
    refine KE.passR ?_
    exact KE.fin byMarks rfl byRes byPart ⟨d, rfl, hD.one, fun w h _ => h⟩
  have hhs100 := hB.hs
  have hhr : 1 ≤ op.h ∧ op.h ≤ (Q.hs.length : Nat) := by
    refine Classical.byContradiction fun hcon => hn0 ?_
    unfold namesD; rw [if_pos (by omega)]
  obtain ⟨z0, hz0⟩ := get_of_lt (l := Q.hs) (k := (op.h - 1).toNat) (by omega)
  obtain ⟨id, hid⟩ : ∃ id, id = namesD Q op.h := ⟨_, rfl⟩
  obtain ⟨x, hx⟩ := get_of_lt (l := Q.ts) (k := (namesD Q op.h - 1).toNat) (by omega)
  have hd2 : doD Q op = (if op.code = 2 ∨ op.code = 3 then fieldsD Q id x op
      else if op.code = 4 then (if x.pins ≥ 255 then (Q, ⟨140, 0, 0⟩) else (setD Q id { x with pins := x.pins + 1 }, ⟨0, 0, 0⟩))
      else if op.code = 5 then (if x.pins = 0 then (Q, ⟨140, 0, 0⟩) else (setD Q id { x with pins := x.pins - 1 }, ⟨0, 0, 0⟩))
      else if op.code = 6 then (dropD Q op.h, ⟨0, 0, 0⟩)
      else (Q, ⟨0, 0, sumP x.words⟩)) := by
    unfold doD; rw [if_neg h1, if_neg (by omega), if_neg hn0, hid]; simp only [hx]
  rw [← hid] at hx hnn hn0 ⊢
  (refine KL.v rfl (Val.assign rfl) ?_)
  refine KL.nil ?_
  refine KE.next ?_
  refine K.seq ?_
  refine K.seq ?_
  refine K.region ?_
  (refine KL.v rfl (Val.move rfl) ?_)
  (refine KL.v rfl (Val.isF (Val.eql rfl rfl) byLt) ?_)
  refine KL.nil ?_
  refine KE.next ?_
  refine K.condF rfl ?_
  refine K.skip ?_
  refine KE.next ?_
  refine K.seq ?_
  refine K.region ?_
  (refine KL.v rfl (Val.loadA rfl rfl rfl bySeeN) ?_)
  (refine KL.callc rfl rfl byEvL fun T hT => ?_)
  refine (CallV.pure fun w hw => CallV.fn (Copied_K (hD.only hw.old) hB)).mono ?_
  rintro _ _ ⟨_, ⟨c, okc, hcx, hch, rfl, rfl⟩, rfl⟩
  obtain ⟨ts, ot, hs, oh⟩ := c
  dsimp only at hcx hch
  have hgt : (ts.map (·.x))[(id - 1).toNat]? = some x := by rw [hcx]; exact hx
  rw [List.getElem?_map] at hgt
  obtain ⟨t, htg, htx⟩ := Option.map_eq_some_iff.1 hgt
  obtain ⟨A, B, rfl, hAl⟩ := split_at htg
  subst htx
  have hxm := hB.x t.x (List.mem_of_getElem? hx)
  have hpins := hxm.pins
  obtain ⟨ok1, ok2⟩ := okc.ts t (by simp)
  have okt := okc.ot
  have okh := okc.oh
  have hAl' : (A.length : Int) + 1 = id := by omega
  have hgl : (A ++ t :: B).length ≤ 100 := by have := congrArg List.length hcx; simp only [List.length_map] at this; have := hB.ts; omega
  subst hch
  rw [cpH_at]
  have hdv2 : docV (cpD d.vc ⟨A ++ t :: B, ot, Q.hs, oh⟩) Q = .agg [d.vc, .int .i64 Q.quota, .int .i64 Q.caps, oV ot (A ++ t :: B).length, oV oh Q.hs.length].toArray := rfl
  rw [hdv2]
  have hget : (A ++ t :: B)[(id - 1).toNat]? = some t := by rw [← hAl]; simp
  have hglt : (id - 1).toNat < (A ++ t :: B).length := lt_of_get hget
  have key : doD Q op = (if op.code = 2 ∨ op.code = 3 then fieldsD Q id t.x op
      else if op.code = 4 then (if t.x.pins ≥ 255 then (Q, ⟨140, 0, 0⟩) else (setD Q id { t.x with pins := t.x.pins + 1 }, ⟨0, 0, 0⟩))
      else if op.code = 5 then (if t.x.pins = 0 then (Q, ⟨140, 0, 0⟩) else (setD Q id { t.x with pins := t.x.pins - 1 }, ⟨0, 0, 0⟩))
      else if op.code = 6 then (dropD Q op.h, ⟨0, 0, 0⟩)
      else (Q, ⟨0, 0, sumP t.x.words⟩)) := hd2
  clear hd2
  refine hT _ _ ?_; clear hT; clear T
  (refine KL.e rfl (Eff.alloc rfl) ?_; rintro _ _ ⟨b7, rfl, rfl⟩)
  (refine KL.eN (Eff.storeAL rfl rfl rfl byTake byLay byOnes) ?_; rintro _ _ rfl)
  refine KL.nil ?_
  refine KE.next ?_
  refine byCode ?_
  (first | (refine KL.v rfl (Val.fieldSl (k := 3) rfl rfl) ?_) | (refine KL.v rfl (Val.fieldAddr0 (k := 3) rfl rfl) ?_) | (refine KL.v rfl (Val.fieldAddrZ rfl rfl) ?_) | (refine KL.v rfl (Val.fieldAddr (k := 3) rfl rfl) ?_))
  (refine KL.v rfl (Val.loadP rfl rfl bySee) ?_)
  (refine KL.v rfl (Val.move rfl) ?_)
  (first | (refine KL.v rfl (Val.sub rfl rfl (by simp only [Go.Proofs.YthamkgghnjenhaaGreat.lo, Go.Proofs.YthamkgghnjenhaaGreat.hi]; omega)) ?_) | (refine KL.v rfl (Val.subW rfl rfl) ?_))
  (first | (refine KL.v rfl (Val.idxSl rfl rfl rfl bySli rfl byLt) ?_) | (refine KL.v rfl (Val.idxSlZ rfl rfl rfl bySli rfl (by omega)) ?_) | (refine KL.v rfl (Val.indexS1 rfl rfl rfl rfl (by omega)) ?_) | (refine KL.v rfl (Val.indexS rfl rfl rfl rfl (by omega)) ?_) | (refine KL.v rfl (Val.indexSO rfl rfl rfl rfl (by omega)) ?_) | (refine KL.v rfl (Val.indexSG rfl rfl rfl rfl (by omega)) ?_))
  (first | (refine KL.v rfl (Val.loadAP rfl rfl rfl bySeeA) ?_) | (refine KL.v rfl (Val.loadA rfl rfl rfl bySeeN) ?_))
  (refine KL.e rfl (Eff.alloc rfl) ?_; rintro _ _ ⟨b8, rfl, rfl⟩)
  rw [otE_enc]
  (first | (refine KL.eN (Eff.storeAL rfl rfl rfl byTake byLay byOnes) ?_; rintro _ _ rfl) | (refine KL.eN (Eff.stSlA rfl rfl rfl rfl byTakeL (by assumption) (by assumption)) ?_; rintro _ _ rfl))
  refine KL.nil ?_
  have hcs : op.code = 2 ∨ op.code = 3 ∨ op.code = 4 ∨ op.code = 5 ∨ op.code = 6 ∨ op.code = 7 := by omega
  rcases hcs with h | h | h | h | h | h
  · rw [key, if_pos (.inl h)]
    refine KE.next ?_
    refine K.seq ?_
    refine K.seq ?_
    refine K.region ?_
    (refine KL.v rfl (Val.fieldAddr0 (k := 0) rfl rfl) ?_)
    (refine KL.v rfl (Val.loadP rfl rfl (Sees.cell byTake rfl)) ?_)
    refine KL.nil ?_
    refine KE.next ?_
    refine K.block ?_
    refine K.seq ?_
    refine K.seq ?_
    refine K.region ?_
    (refine KL.v rfl (Val.isT (Val.eql rfl rfl) byLt) ?_)
    (refine KL.v rfl (Val.assign rfl) ?_)
    refine KL.nil ?_
    refine KE.next ?_
    refine K.condT rfl ?_
    refine K.skip ?_
    refine KE.next ?_
    refine K.condT rfl ?_
    refine K.seq ?_
    refine K.region ?_
    (refine KL.v rfl (Val.loadA rfl rfl rfl bySeeN) ?_)
    (refine KL.v rfl (Val.loadA rfl rfl rfl bySeeN) ?_)
    (refine KL.v rfl (Val.move rfl) ?_)
    (refine KL.v rfl (Val.loadA rfl rfl rfl bySeeN) ?_)
    (refine KL.callc rfl rfl byEvL fun T hT => ?_)
    refine (CallV.part (CallV.fn (Rfields_K (op := op) hD hB okc hcx rfl hAl' (.inl h))) (by rw [cpH_at]; exact byPart)).mono ?_
    rintro _ _ ⟨N, rfl, d', rfl, ⟨b1', b2', b3'⟩, hd'⟩
    unfold docV sdV
    refine hT _ _ ?_; clear hT; clear T
    (refine KL.v rfl (Val.extract rfl rfl) ?_)
    (refine KL.v rfl (Val.extract rfl rfl) ?_)
    (refine KL.eN (Eff.storeAL rfl rfl rfl byTake byLay byOnes) ?_; rintro _ _ rfl)
    (refine KL.eN (Eff.storeAL rfl rfl rfl byTake byLay byOnes) ?_; rintro _ _ rfl)
    refine KL.nil ?_
    refine KE.next ?_
    refine K.ret ?_
    refine KE.blkR ?_
    refine KE.passR ?_
    exact KE.fin byMarks rfl byRes byPart ⟨d', rfl, ⟨b1', b2', b3'⟩, hd'⟩
  · rw [key, if_pos (.inr h)]
    refine KE.next ?_
    refine K.seq ?_
    refine K.seq ?_
    refine K.region ?_
    (refine KL.v rfl (Val.fieldAddr0 (k := 0) rfl rfl) ?_)
    (refine KL.v rfl (Val.loadP rfl rfl (Sees.cell byTake rfl)) ?_)
    refine KL.nil ?_
    refine KE.next ?_
    refine K.block ?_
    refine K.seq ?_
    refine K.seq ?_
    refine K.region ?_
    (refine KL.v rfl (Val.isF (Val.eql rfl rfl) byLt) ?_)
    (refine KL.v rfl (Val.assign rfl) ?_)
    refine KL.nil ?_
    refine KE.next ?_
    refine K.condF rfl ?_
    refine K.region ?_
    (refine KL.v rfl (Val.isT (Val.eql rfl rfl) byLt) ?_)
    (refine KL.v rfl (Val.assign rfl) ?_)
    refine KL.nil ?_
    refine KE.next ?_
    refine K.condT rfl ?_
    refine K.seq ?_
    refine K.region ?_
    (refine KL.v rfl (Val.loadA rfl rfl rfl bySeeN) ?_)
    (refine KL.v rfl (Val.loadA rfl rfl rfl bySeeN) ?_)
    (refine KL.v rfl (Val.move rfl) ?_)
    (refine KL.v rfl (Val.loadA rfl rfl rfl bySeeN) ?_)
    (refine KL.callc rfl rfl byEvL fun T hT => ?_)
    refine (CallV.part (CallV.fn (Rfields_K (op := op) hD hB okc hcx rfl hAl' (.inr h))) (by rw [cpH_at]; exact byPart)).mono ?_
    rintro _ _ ⟨N, rfl, d', rfl, ⟨b1', b2', b3'⟩, hd'⟩
    unfold docV sdV
    refine hT _ _ ?_; clear hT; clear T
    (refine KL.v rfl (Val.extract rfl rfl) ?_)
    (refine KL.v rfl (Val.extract rfl rfl) ?_)
    (refine KL.eN (Eff.storeAL rfl rfl rfl byTake byLay byOnes) ?_; rintro _ _ rfl)
    (refine KL.eN (Eff.storeAL rfl rfl rfl byTake byLay byOnes) ?_; rintro _ _ rfl)
    refine KL.nil ?_
    refine KE.next ?_
    refine K.ret ?_
    refine KE.blkR ?_
    refine KE.passR ?_
    exact KE.fin byMarks rfl byRes byPart ⟨d', rfl, ⟨b1', b2', b3'⟩, hd'⟩
  · rw [key, if_neg (by omega), if_pos h]
    by_cases hp : t.x.pins ≥ 255
    · rw [if_pos hp]
      refine KE.next ?_
      refine K.seq ?_
      refine K.seq ?_
      refine K.region ?_
      (refine KL.v rfl (Val.fieldAddr0 (k := 0) rfl rfl) ?_)
      (refine KL.v rfl (Val.loadP rfl rfl (Sees.cell byTake rfl)) ?_)
      refine KL.nil ?_
      refine KE.next ?_
      refine K.block ?_
      refine K.seq ?_
      refine K.seq ?_
      refine K.region ?_
      (refine KL.v rfl (Val.isF (Val.eql rfl rfl) byLt) ?_)
      (refine KL.v rfl (Val.assign rfl) ?_)
      refine KL.nil ?_
      refine KE.next ?_
      refine K.condF rfl ?_
      refine K.region ?_
      (refine KL.v rfl (Val.isF (Val.eql rfl rfl) byLt) ?_)
      (refine KL.v rfl (Val.assign rfl) ?_)
      refine KL.nil ?_
      refine KE.next ?_
      refine K.condF rfl ?_
      refine K.seq ?_
      refine K.region ?_
      (refine KL.v rfl (Val.isT (Val.eql rfl rfl) byLt) ?_)
      (refine KL.v rfl (Val.assign rfl) ?_)
      refine KL.nil ?_
      refine KE.next ?_
      refine K.condT rfl ?_
      refine K.seq ?_
      refine K.seq ?_
      refine K.region ?_
      (refine KL.v rfl (Val.fieldAddr0 (k := 3) rfl rfl) ?_)
      (refine KL.v rfl (Val.loadP rfl rfl (Sees.cell byTake rfl)) ?_)
      (refine KL.v rfl (Val.isT (Val.geq rfl rfl) byLt) ?_)
      refine KL.nil ?_
      refine KE.next ?_
      refine K.condT rfl ?_
      refine K.seq ?_
      refine K.drawn _ [(0, 1), (1, 2), (2, 2), (3, 2)] (by kernel_rfl) (by kernel_rfl) (by kernel_rfl) (by kernel_rfl) (by kernel_rfl) (by kernel_rfl) (Part.take Take.head (Part.take Take.head (Part.takeA TakeL.head (Part.takeA TakeL.head (Part.takeA TakeL.head (Part.takeA TakeL.head (Part.takeA TakeL.head (Part.takeA TakeL.head (Part.drop (Part.drop Part.all)))))))))) ?_
      refine KD.v1 rfl rfl (Val.loadA rfl rfl rfl bySeeN) ?_
      refine KD.callc rfl rfl rfl byEvL fun T hT => ?_
      (refine (CallV.fn said_K).mono ?_; rintro _ _ ⟨rfl, rfl⟩; unfold sdV; dsimp only)
      (refine hT _ _ byPart ?_; clear hT; clear T)
      (refine KD.eN rfl (Eff.storeAL rfl rfl rfl byTake byLay byOnes) ?_; rintro _ _ rfl; refine ⟨byPart, ?_⟩)
      (refine KD.eN rfl (Eff.storeAL rfl rfl rfl byTake byLay byOnes) ?_; rintro _ _ rfl; refine ⟨byPart, ?_⟩)
      refine KD.nil ?_
      refine KE.next ?_
      refine K.ret ?_
      refine KE.passR ?_
      refine KE.blkR ?_
      refine KE.passR ?_
      exact KE.fin byMarks rfl byRes byPart ⟨d, rfl, hD.one, fun w h _ => h⟩
    · rw [if_neg hp]
      obtain ⟨t', ht'⟩ : ∃ t' : OT, t' = ⟨⟨t.x.refs, t.x.words, t.x.size, t.x.pins + 1⟩, t.o1, t.o2⟩ := ⟨_, rfl⟩
      have hso := set_ok (t' := t') (hs' := Q.hs) okc rfl (by rw [ht']; exact ok1) (by rw [ht']; exact ok2)
      have hxe : ({ t.x with pins := t.x.pins + 1 } : Th) = t'.x := by rw [ht']
      rw [hxe]
      refine KE.next ?_
      refine K.seq ?_
      refine K.seq ?_
      refine K.region ?_
      (refine KL.v rfl (Val.fieldAddr0 (k := 0) rfl rfl) ?_)
      (refine KL.v rfl (Val.loadP rfl rfl (Sees.cell byTake rfl)) ?_)
      refine KL.nil ?_
      refine KE.next ?_
      refine K.block ?_
      refine K.seq ?_
      refine K.seq ?_
      refine K.region ?_
      (refine KL.v rfl (Val.isF (Val.eql rfl rfl) byLt) ?_)
      (refine KL.v rfl (Val.assign rfl) ?_)
      refine KL.nil ?_
      refine KE.next ?_
      refine K.condF rfl ?_
      refine K.region ?_
      (refine KL.v rfl (Val.isF (Val.eql rfl rfl) byLt) ?_)
      (refine KL.v rfl (Val.assign rfl) ?_)
      refine KL.nil ?_
      refine KE.next ?_
      refine K.condF rfl ?_
      refine K.seq ?_
      refine K.region ?_
      (refine KL.v rfl (Val.isT (Val.eql rfl rfl) byLt) ?_)
      (refine KL.v rfl (Val.assign rfl) ?_)
      refine KL.nil ?_
      refine KE.next ?_
      refine K.condT rfl ?_
      refine K.seq ?_
      refine K.seq ?_
      refine K.region ?_
      (refine KL.v rfl (Val.fieldAddr0 (k := 3) rfl rfl) ?_)
      (refine KL.v rfl (Val.loadP rfl rfl (Sees.cell byTake rfl)) ?_)
      (refine KL.v rfl (Val.isF (Val.geq rfl rfl) byLt) ?_)
      refine KL.nil ?_
      refine KE.next ?_
      refine K.condF rfl ?_
      refine K.skip ?_
      refine KE.next ?_
      refine K.region ?_
      (refine KL.v rfl (Val.fieldAddr0 (k := 3) rfl rfl) ?_)
      (refine KL.v rfl (Val.loadP rfl rfl (Sees.cell byTake rfl)) ?_)
      (refine KL.v rfl (Val.add rfl rfl (by simp only [Go.Proofs.YthamkgghnjenhaaGreat.lo, Go.Proofs.YthamkgghnjenhaaGreat.hi]; omega)) ?_)
      (refine KL.v rfl (Val.fieldAddr0 (k := 3) rfl rfl) ?_)
      (refine KL.eN (Eff.storeL rfl rfl byOne rfl byTake bySetAt) ?_; rintro _ _ rfl)
      refine KL.nil ?_
      refine KE.blkN ?_
      refine KE.next ?_
      refine byCode ?_
      (first | (refine KL.v rfl (Val.fieldSl (k := 3) rfl rfl) ?_) | (refine KL.v rfl (Val.fieldAddr0 (k := 3) rfl rfl) ?_) | (refine KL.v rfl (Val.fieldAddrZ rfl rfl) ?_) | (refine KL.v rfl (Val.fieldAddr (k := 3) rfl rfl) ?_))
      (refine KL.v rfl (Val.loadP rfl rfl bySee) ?_)
      (refine KL.v rfl (Val.move rfl) ?_)
      (first | (refine KL.v rfl (Val.sub rfl rfl (by simp only [Go.Proofs.YthamkgghnjenhaaGreat.lo, Go.Proofs.YthamkgghnjenhaaGreat.hi]; omega)) ?_) | (refine KL.v rfl (Val.subW rfl rfl) ?_))
      (first | (refine KL.v rfl (Val.loadAP rfl rfl rfl bySeeA) ?_) | (refine KL.v rfl (Val.loadA rfl rfl rfl bySeeN) ?_))
      (first | (refine KL.v rfl (Val.idxSl rfl rfl rfl bySli rfl byLt) ?_) | (refine KL.v rfl (Val.idxSlZ rfl rfl rfl bySli rfl (by omega)) ?_) | (refine KL.v rfl (Val.indexS1 rfl rfl rfl rfl (by omega)) ?_) | (refine KL.v rfl (Val.indexS rfl rfl rfl rfl (by omega)) ?_) | (refine KL.v rfl (Val.indexSO rfl rfl rfl rfl (by omega)) ?_) | (refine KL.v rfl (Val.indexSG rfl rfl rfl rfl (by omega)) ?_))
      (refine KL.eN (Eff.stSlA (x1 := (⟨⟨t.x.refs, t.x.words, t.x.size, t.x.pins + 1⟩, t.o1, t.o2⟩ : OT)) rfl rfl rfl rfl byTakeL (by assumption) (by assumption)) ?_; rintro _ _ rfl)
      refine KL.nil ?_
      rw [set_mid hAl, ← ht']
      refine KE.next ?_
      refine K.seq ?_
      refine K.drawn _ [(0, 1), (1, 2), (2, 2), (3, 2)] (by kernel_rfl) (by kernel_rfl) (by kernel_rfl) (by kernel_rfl) (by kernel_rfl) (by kernel_rfl) (Part.takeA TakeL.head (Part.take Take.head (Part.take Take.head (Part.takeA TakeL.head (Part.takeA TakeL.head (Part.takeA TakeL.head (Part.takeA TakeL.head (Part.takeA TakeL.head (Part.drop (Part.drop Part.all)))))))))) ?_
      refine KD.v1 rfl rfl (Val.loadA rfl rfl rfl bySeeN) ?_
      refine KD.callc rfl rfl rfl byEvL fun T hT => ?_
      (refine (CallV.fn said_K).mono ?_; rintro _ _ ⟨rfl, rfl⟩; unfold sdV; dsimp only)
      (refine hT _ _ byPart ?_; clear hT; clear T)
      (refine KD.eN rfl (Eff.storeAL rfl rfl rfl byTake byLay byOnes) ?_; rintro _ _ rfl; refine ⟨byPart, ?_⟩)
      (refine KD.eN rfl (Eff.storeAL rfl rfl rfl byTake byLay byOnes) ?_; rintro _ _ rfl; refine ⟨byPart, ?_⟩)
      refine KD.nil ?_
      refine KE.next ?_
      refine K.ret ?_
      exact KE.fin (H' := cpH ⟨A ++ t' :: B, ot, Q.hs, oh⟩) byMarks rfl byRes (by rw [← List.append_nil (cpH _), cpH_at, ht']; exact byPart) (gives_set hso hcx rfl hAl a1 rfl)
  · rw [key, if_neg (by omega), if_neg (by omega), if_pos h]
    by_cases hp : t.x.pins = 0
    · rw [if_pos hp]
      refine KE.next ?_
      refine K.seq ?_
      refine K.seq ?_
      refine K.region ?_
      (refine KL.v rfl (Val.fieldAddr0 (k := 0) rfl rfl) ?_)
      (refine KL.v rfl (Val.loadP rfl rfl (Sees.cell byTake rfl)) ?_)
      refine KL.nil ?_
      refine KE.next ?_
      refine K.block ?_
      refine K.seq ?_
      refine K.seq ?_
      refine K.region ?_
      (refine KL.v rfl (Val.isF (Val.eql rfl rfl) byLt) ?_)
      (refine KL.v rfl (Val.assign rfl) ?_)
      refine KL.nil ?_
      refine KE.next ?_
      refine K.condF rfl ?_
      refine K.region ?_
      (refine KL.v rfl (Val.isF (Val.eql rfl rfl) byLt) ?_)
      (refine KL.v rfl (Val.assign rfl) ?_)
      refine KL.nil ?_
      refine KE.next ?_
      refine K.condF rfl ?_
      refine K.seq ?_
      refine K.region ?_
      (refine KL.v rfl (Val.isF (Val.eql rfl rfl) byLt) ?_)
      (refine KL.v rfl (Val.assign rfl) ?_)
      refine KL.nil ?_
      refine KE.next ?_
      refine K.condF rfl ?_
      refine K.seq ?_
      refine K.region ?_
      (refine KL.v rfl (Val.isT (Val.eql rfl rfl) byLt) ?_)
      (refine KL.v rfl (Val.assign rfl) ?_)
      refine KL.nil ?_
      refine KE.next ?_
      refine K.condT rfl ?_
      refine K.seq ?_
      refine K.seq ?_
      refine K.region ?_
      (refine KL.v rfl (Val.fieldAddr0 (k := 3) rfl rfl) ?_)
      (refine KL.v rfl (Val.loadP rfl rfl (Sees.cell byTake rfl)) ?_)
      (refine KL.v rfl (Val.isT (Val.eql rfl rfl) byLt) ?_)
      refine KL.nil ?_
      refine KE.next ?_
      refine K.condT rfl ?_
      refine K.seq ?_
      refine K.drawn _ [(0, 1), (1, 2), (2, 2), (3, 2)] (by kernel_rfl) (by kernel_rfl) (by kernel_rfl) (by kernel_rfl) (by kernel_rfl) (by kernel_rfl) (Part.take Take.head (Part.take Take.head (Part.takeA TakeL.head (Part.takeA TakeL.head (Part.takeA TakeL.head (Part.takeA TakeL.head (Part.takeA TakeL.head (Part.takeA TakeL.head (Part.drop (Part.drop Part.all)))))))))) ?_
      refine KD.v1 rfl rfl (Val.loadA rfl rfl rfl bySeeN) ?_
      refine KD.callc rfl rfl rfl byEvL fun T hT => ?_
      (refine (CallV.fn said_K).mono ?_; rintro _ _ ⟨rfl, rfl⟩; unfold sdV; dsimp only)
      (refine hT _ _ byPart ?_; clear hT; clear T)
      (refine KD.eN rfl (Eff.storeAL rfl rfl rfl byTake byLay byOnes) ?_; rintro _ _ rfl; refine ⟨byPart, ?_⟩)
      (refine KD.eN rfl (Eff.storeAL rfl rfl rfl byTake byLay byOnes) ?_; rintro _ _ rfl; refine ⟨byPart, ?_⟩)
      refine KD.nil ?_
      refine KE.next ?_
      refine K.ret ?_
      refine KE.passR ?_
      refine KE.blkR ?_
      refine KE.passR ?_
      exact KE.fin byMarks rfl byRes byPart ⟨d, rfl, hD.one, fun w h _ => h⟩
    · rw [if_neg hp]
      obtain ⟨t', ht'⟩ : ∃ t' : OT, t' = ⟨⟨t.x.refs, t.x.words, t.x.size, t.x.pins - 1⟩, t.o1, t.o2⟩ := ⟨_, rfl⟩
      have hso := set_ok (t' := t') (hs' := Q.hs) okc rfl (by rw [ht']; exact ok1) (by rw [ht']; exact ok2)
      have hxe : ({ t.x with pins := t.x.pins - 1 } : Th) = t'.x := by rw [ht']
      rw [hxe]
      refine KE.next ?_
      refine K.seq ?_
      refine K.seq ?_
      refine K.region ?_
      (refine KL.v rfl (Val.fieldAddr0 (k := 0) rfl rfl) ?_)
      (refine KL.v rfl (Val.loadP rfl rfl (Sees.cell byTake rfl)) ?_)
      refine KL.nil ?_
      refine KE.next ?_
      refine K.block ?_
      refine K.seq ?_
      refine K.seq ?_
      refine K.region ?_
      (refine KL.v rfl (Val.isF (Val.eql rfl rfl) byLt) ?_)
      (refine KL.v rfl (Val.assign rfl) ?_)
      refine KL.nil ?_
      refine KE.next ?_
      refine K.condF rfl ?_
      refine K.region ?_
      (refine KL.v rfl (Val.isF (Val.eql rfl rfl) byLt) ?_)
      (refine KL.v rfl (Val.assign rfl) ?_)
      refine KL.nil ?_
      refine KE.next ?_
      refine K.condF rfl ?_
      refine K.seq ?_
      refine K.region ?_
      (refine KL.v rfl (Val.isF (Val.eql rfl rfl) byLt) ?_)
      (refine KL.v rfl (Val.assign rfl) ?_)
      refine KL.nil ?_
      refine KE.next ?_
      refine K.condF rfl ?_
      refine K.seq ?_
      refine K.region ?_
      (refine KL.v rfl (Val.isT (Val.eql rfl rfl) byLt) ?_)
      (refine KL.v rfl (Val.assign rfl) ?_)
      refine KL.nil ?_
      refine KE.next ?_
      refine K.condT rfl ?_
      refine K.seq ?_
      refine K.seq ?_
      refine K.region ?_
      (refine KL.v rfl (Val.fieldAddr0 (k := 3) rfl rfl) ?_)
      (refine KL.v rfl (Val.loadP rfl rfl (Sees.cell byTake rfl)) ?_)
      (refine KL.v rfl (Val.isF (Val.eql rfl rfl) byLt) ?_)
      refine KL.nil ?_
      refine KE.next ?_
      refine K.condF rfl ?_
      refine K.skip ?_
      refine KE.next ?_
      refine K.region ?_
      (refine KL.v rfl (Val.fieldAddr0 (k := 3) rfl rfl) ?_)
      (refine KL.v rfl (Val.loadP rfl rfl (Sees.cell byTake rfl)) ?_)
      (refine KL.v rfl (Val.sub rfl rfl (by simp only [Go.Proofs.YthamkgghnjenhaaGreat.lo, Go.Proofs.YthamkgghnjenhaaGreat.hi]; omega)) ?_)
      (refine KL.v rfl (Val.fieldAddr0 (k := 3) rfl rfl) ?_)
      (refine KL.eN (Eff.storeL rfl rfl byOne rfl byTake bySetAt) ?_; rintro _ _ rfl)
      refine KL.nil ?_
      refine KE.blkN ?_
      refine KE.next ?_
      refine byCode ?_
      (first | (refine KL.v rfl (Val.fieldSl (k := 3) rfl rfl) ?_) | (refine KL.v rfl (Val.fieldAddr0 (k := 3) rfl rfl) ?_) | (refine KL.v rfl (Val.fieldAddrZ rfl rfl) ?_) | (refine KL.v rfl (Val.fieldAddr (k := 3) rfl rfl) ?_))
      (refine KL.v rfl (Val.loadP rfl rfl bySee) ?_)
      (refine KL.v rfl (Val.move rfl) ?_)
      (first | (refine KL.v rfl (Val.sub rfl rfl (by simp only [Go.Proofs.YthamkgghnjenhaaGreat.lo, Go.Proofs.YthamkgghnjenhaaGreat.hi]; omega)) ?_) | (refine KL.v rfl (Val.subW rfl rfl) ?_))
      (first | (refine KL.v rfl (Val.loadAP rfl rfl rfl bySeeA) ?_) | (refine KL.v rfl (Val.loadA rfl rfl rfl bySeeN) ?_))
      (first | (refine KL.v rfl (Val.idxSl rfl rfl rfl bySli rfl byLt) ?_) | (refine KL.v rfl (Val.idxSlZ rfl rfl rfl bySli rfl (by omega)) ?_) | (refine KL.v rfl (Val.indexS1 rfl rfl rfl rfl (by omega)) ?_) | (refine KL.v rfl (Val.indexS rfl rfl rfl rfl (by omega)) ?_) | (refine KL.v rfl (Val.indexSO rfl rfl rfl rfl (by omega)) ?_) | (refine KL.v rfl (Val.indexSG rfl rfl rfl rfl (by omega)) ?_))
      (refine KL.eN (Eff.stSlA (x1 := (⟨⟨t.x.refs, t.x.words, t.x.size, t.x.pins - 1⟩, t.o1, t.o2⟩ : OT)) rfl rfl rfl rfl byTakeL (by assumption) (by assumption)) ?_; rintro _ _ rfl)
      refine KL.nil ?_
      rw [set_mid hAl, ← ht']
      refine KE.next ?_
      refine K.seq ?_
      refine K.drawn _ [(0, 1), (1, 2), (2, 2), (3, 2)] (by kernel_rfl) (by kernel_rfl) (by kernel_rfl) (by kernel_rfl) (by kernel_rfl) (by kernel_rfl) (Part.takeA TakeL.head (Part.take Take.head (Part.take Take.head (Part.takeA TakeL.head (Part.takeA TakeL.head (Part.takeA TakeL.head (Part.takeA TakeL.head (Part.takeA TakeL.head (Part.drop (Part.drop Part.all)))))))))) ?_
      refine KD.v1 rfl rfl (Val.loadA rfl rfl rfl bySeeN) ?_
      refine KD.callc rfl rfl rfl byEvL fun T hT => ?_
      (refine (CallV.fn said_K).mono ?_; rintro _ _ ⟨rfl, rfl⟩; unfold sdV; dsimp only)
      (refine hT _ _ byPart ?_; clear hT; clear T)
      (refine KD.eN rfl (Eff.storeAL rfl rfl rfl byTake byLay byOnes) ?_; rintro _ _ rfl; refine ⟨byPart, ?_⟩)
      (refine KD.eN rfl (Eff.storeAL rfl rfl rfl byTake byLay byOnes) ?_; rintro _ _ rfl; refine ⟨byPart, ?_⟩)
      refine KD.nil ?_
      refine KE.next ?_
      refine K.ret ?_
      exact KE.fin (H' := cpH ⟨A ++ t' :: B, ot, Q.hs, oh⟩) byMarks rfl byRes (by rw [← List.append_nil (cpH _), cpH_at, ht']; exact byPart) (gives_set hso hcx rfl hAl a1 rfl)
  · rw [key, if_neg (by omega), if_neg (by omega), if_neg (by omega), if_pos h]
    have hso := set_ok (t' := t) (hs' := Q.hs.set (op.h - 1).toNat 0) okc (by simp) ok1 ok2
    refine KE.next ?_
    refine K.seq ?_
    refine K.seq ?_
    refine K.region ?_
    (refine KL.v rfl (Val.fieldAddr0 (k := 0) rfl rfl) ?_)
    (refine KL.v rfl (Val.loadP rfl rfl (Sees.cell byTake rfl)) ?_)
    refine KL.nil ?_
    refine KE.next ?_
    refine K.block ?_
    refine K.seq ?_
    refine K.seq ?_
    refine K.region ?_
    (refine KL.v rfl (Val.isF (Val.eql rfl rfl) byLt) ?_)
    (refine KL.v rfl (Val.assign rfl) ?_)
    refine KL.nil ?_
    refine KE.next ?_
    refine K.condF rfl ?_
    refine K.region ?_
    (refine KL.v rfl (Val.isF (Val.eql rfl rfl) byLt) ?_)
    (refine KL.v rfl (Val.assign rfl) ?_)
    refine KL.nil ?_
    refine KE.next ?_
    refine K.condF rfl ?_
    refine K.seq ?_
    refine K.region ?_
    (refine KL.v rfl (Val.isF (Val.eql rfl rfl) byLt) ?_)
    (refine KL.v rfl (Val.assign rfl) ?_)
    refine KL.nil ?_
    refine KE.next ?_
    refine K.condF rfl ?_
    refine K.seq ?_
    refine K.region ?_
    (refine KL.v rfl (Val.isF (Val.eql rfl rfl) byLt) ?_)
    (refine KL.v rfl (Val.assign rfl) ?_)
    refine KL.nil ?_
    refine KE.next ?_
    refine K.condF rfl ?_
    refine K.seq ?_
    refine K.region ?_
    (refine KL.v rfl (Val.isT (Val.eql rfl rfl) byLt) ?_)
    (refine KL.v rfl (Val.assign rfl) ?_)
    refine KL.nil ?_
    refine KE.next ?_
    refine K.condT rfl ?_
    refine byCode ?_
    (first | (refine KL.v rfl (Val.fieldSl (k := 4) rfl rfl) ?_) | (refine KL.v rfl (Val.fieldAddr0 (k := 4) rfl rfl) ?_) | (refine KL.v rfl (Val.fieldAddrZ rfl rfl) ?_) | (refine KL.v rfl (Val.fieldAddr (k := 4) rfl rfl) ?_))
    (refine KL.v rfl (Val.loadP rfl rfl bySee) ?_)
    (first | (refine KL.v rfl (Val.fieldSl (k := 1) rfl rfl) ?_) | (refine KL.v rfl (Val.fieldAddr0 (k := 1) rfl rfl) ?_) | (refine KL.v rfl (Val.fieldAddrZ rfl rfl) ?_) | (refine KL.v rfl (Val.fieldAddr (k := 1) rfl rfl) ?_))
    (refine KL.v rfl (Val.loadP rfl rfl bySee) ?_)
    (first | (refine KL.v rfl (Val.sub rfl rfl (by simp only [Go.Proofs.YthamkgghnjenhaaGreat.lo, Go.Proofs.YthamkgghnjenhaaGreat.hi]; omega)) ?_) | (refine KL.v rfl (Val.subW rfl rfl) ?_))
    (refine KL.v rfl (Val.build byParts rfl rfl byFill) ?_)
    (first | (refine KL.v rfl (Val.idxSl rfl rfl rfl bySli rfl byLt) ?_) | (refine KL.v rfl (Val.idxSlZ rfl rfl rfl bySli rfl (by omega)) ?_) | (refine KL.v rfl (Val.indexS1 rfl rfl rfl rfl (by omega)) ?_) | (refine KL.v rfl (Val.indexS rfl rfl rfl rfl (by omega)) ?_) | (refine KL.v rfl (Val.indexSO rfl rfl rfl rfl (by omega)) ?_) | (refine KL.v rfl (Val.indexSG rfl rfl rfl rfl (by omega)) ?_))
    (refine KL.eN (Eff.stSlA (x1 := (0 : Int)) rfl rfl rfl rfl byTakeL (by assumption) (by assumption)) ?_; rintro _ _ rfl)
    refine KL.nil ?_
    refine KE.blkN ?_
    refine KE.next ?_
    refine byCode ?_
    (first | (refine KL.v rfl (Val.fieldSl (k := 3) rfl rfl) ?_) | (refine KL.v rfl (Val.fieldAddr0 (k := 3) rfl rfl) ?_) | (refine KL.v rfl (Val.fieldAddrZ rfl rfl) ?_) | (refine KL.v rfl (Val.fieldAddr (k := 3) rfl rfl) ?_))
    (refine KL.v rfl (Val.loadP rfl rfl bySee) ?_)
    (refine KL.v rfl (Val.move rfl) ?_)
    (first | (refine KL.v rfl (Val.sub rfl rfl (by simp only [Go.Proofs.YthamkgghnjenhaaGreat.lo, Go.Proofs.YthamkgghnjenhaaGreat.hi]; omega)) ?_) | (refine KL.v rfl (Val.subW rfl rfl) ?_))
    (first | (refine KL.v rfl (Val.loadAP rfl rfl rfl bySeeA) ?_) | (refine KL.v rfl (Val.loadA rfl rfl rfl bySeeN) ?_))
    (first | (refine KL.v rfl (Val.idxSl rfl rfl rfl bySli rfl byLt) ?_) | (refine KL.v rfl (Val.idxSlZ rfl rfl rfl bySli rfl (by omega)) ?_) | (refine KL.v rfl (Val.indexS1 rfl rfl rfl rfl (by omega)) ?_) | (refine KL.v rfl (Val.indexS rfl rfl rfl rfl (by omega)) ?_) | (refine KL.v rfl (Val.indexSO rfl rfl rfl rfl (by omega)) ?_) | (refine KL.v rfl (Val.indexSG rfl rfl rfl rfl (by omega)) ?_))
    (refine KL.eN (Eff.stSlA (x1 := t) rfl rfl rfl rfl byTakeL (by assumption) (by assumption)) ?_; rintro _ _ rfl)
    refine KL.nil ?_
    rw [set_mid hAl]
    refine KE.next ?_
    refine K.seq ?_
    refine K.drawn _ [(0, 1), (1, 2), (2, 2), (3, 2)] (by kernel_rfl) (by kernel_rfl) (by kernel_rfl) (by kernel_rfl) (by kernel_rfl) (by kernel_rfl) (Part.takeA TakeL.head (Part.takeA TakeL.head (Part.take Take.head (Part.take Take.head (Part.takeA TakeL.head (Part.takeA TakeL.head (Part.takeA TakeL.head (Part.takeA TakeL.head (Part.drop (Part.drop Part.all)))))))))) ?_
    refine KD.v1 rfl rfl (Val.loadA rfl rfl rfl bySeeN) ?_
    refine KD.callc rfl rfl rfl byEvL fun T hT => ?_
    (refine (CallV.fn said_K).mono ?_; rintro _ _ ⟨rfl, rfl⟩; unfold sdV; dsimp only)
    (refine hT _ _ byPart ?_; clear hT; clear T)
    (refine KD.eN rfl (Eff.storeAL rfl rfl rfl byTake byLay byOnes) ?_; rintro _ _ rfl; refine ⟨byPart, ?_⟩)
    (refine KD.eN rfl (Eff.storeAL rfl rfl rfl byTake byLay byOnes) ?_; rintro _ _ rfl; refine ⟨byPart, ?_⟩)
    refine KD.nil ?_
    refine KE.next ?_
    refine K.ret ?_
    exact KE.fin (H' := cpH ⟨A ++ t :: B, ot, Q.hs.set (op.h - 1).toNat 0, oh⟩) byMarks rfl byRes (by rw [← List.append_nil (cpH _), cpH_at]; exact byPart) (gives_drop hso hcx a1 rfl)
  · rw [key, if_neg (by omega), if_neg (by omega), if_neg (by omega), if_neg (by omega)]
    refine KE.next ?_
    refine K.seq ?_
    refine K.seq ?_
    refine K.region ?_
    (refine KL.v rfl (Val.fieldAddr0 (k := 0) rfl rfl) ?_)
    (refine KL.v rfl (Val.loadP rfl rfl (Sees.cell byTake rfl)) ?_)
    refine KL.nil ?_
    refine KE.next ?_
    refine K.block ?_
    refine K.seq ?_
    refine K.seq ?_
    refine K.region ?_
    (refine KL.v rfl (Val.isF (Val.eql rfl rfl) byLt) ?_)
    (refine KL.v rfl (Val.assign rfl) ?_)
    refine KL.nil ?_
    refine KE.next ?_
    refine K.condF rfl ?_
    refine K.region ?_
    (refine KL.v rfl (Val.isF (Val.eql rfl rfl) byLt) ?_)
    (refine KL.v rfl (Val.assign rfl) ?_)
    refine KL.nil ?_
    refine KE.next ?_
    refine K.condF rfl ?_
    refine K.seq ?_
    refine K.region ?_
    (refine KL.v rfl (Val.isF (Val.eql rfl rfl) byLt) ?_)
    (refine KL.v rfl (Val.assign rfl) ?_)
    refine KL.nil ?_
    refine KE.next ?_
    refine K.condF rfl ?_
    refine K.seq ?_
    refine K.region ?_
    (refine KL.v rfl (Val.isF (Val.eql rfl rfl) byLt) ?_)
    (refine KL.v rfl (Val.assign rfl) ?_)
    refine KL.nil ?_
    refine KE.next ?_
    refine K.condF rfl ?_
    refine K.seq ?_
    refine K.region ?_
    (refine KL.v rfl (Val.isF (Val.eql rfl rfl) byLt) ?_)
    (refine KL.v rfl (Val.assign rfl) ?_)
    refine KL.nil ?_
    refine KE.next ?_
    refine K.condF rfl ?_
    refine K.seq ?_
    refine K.region ?_
    (refine KL.v rfl (Val.isT (Val.eql rfl rfl) byLt) ?_)
    (refine KL.v rfl (Val.assign rfl) ?_)
    refine KL.nil ?_
    refine KE.next ?_
    refine K.condT rfl ?_
    refine K.seq ?_
    refine K.drawn _ [(0, 1), (1, 0), (2, 0), (3, 2), (4, 1), (5, 2), (6, 2)] (by kernel_rfl) (by kernel_rfl) (by kernel_rfl) (by kernel_rfl) (by kernel_rfl) (by kernel_rfl) (Part.take Take.head (Part.take Take.head (Part.takeA TakeL.head (Part.takeA TakeL.head (Part.takeA TakeL.head (Part.takeA TakeL.head (Part.takeA TakeL.head (Part.takeA TakeL.head (Part.drop (Part.drop Part.all)))))))))) ?_
    refine KD.v1 rfl rfl (Val.loadA rfl rfl rfl bySeeN) ?_
    refine KD.v0 rfl rfl (Val.fieldAddr0 (k := 1) rfl rfl) ?_
    refine KD.v0 rfl rfl (Val.loadP rfl rfl (Sees.cell byTake rfl)) ?_
    refine KD.callc rfl rfl rfl byEvL fun T hT => ?_
    refine (CallV.fn (RSum_K (Sli.own byTakeL ok2 rfl) (by have := hxm.sz; omega) hxm.ws)).mono ?_
    rintro _ _ ⟨rfl, rfl⟩
    refine hT _ _ byPart ?_; clear hT; clear T
    refine KD.v1 rfl rfl (Val.build byParts rfl rfl byFill) ?_
    (refine KD.eN rfl (Eff.storeAL rfl rfl rfl byTake byLay byOnes) ?_; rintro _ _ rfl; refine ⟨byPart, ?_⟩)
    (refine KD.eN rfl (Eff.storeAL rfl rfl rfl byTake byLay byOnes) ?_; rintro _ _ rfl; refine ⟨byPart, ?_⟩)
    refine KD.nil ?_
    refine KE.next ?_
    refine K.ret ?_
    refine KE.blkR ?_
    refine KE.passR ?_
    exact KE.fin byMarks rfl byRes byPart ⟨d, rfl, hD.one, fun w h _ => h⟩
end Go.Proofs.YthamkgghnjenhaaGreat
namespace Go.Proofs.YthamkgghnjenhaaGreat
open Go.RowKit Go.ChangeShapes Go.WideShapes Go.ChangeAt Go.Deep Go.Joins
set_option linter.unusedVariables false
set_option linter.unusedSimpArgs false
set_option maxRecDepth 10000

theorem SameV_K {w0 : World} {H : Heap} {x : Th} {v1 v2 v3 v4 : Value} (h1 : Sli w0 H iE v1 x.refs) (h2 : Sli w0 H uE v2 x.words) (h3 : Sli w0 H iE v3 x.refs) (h4 : Sli w0 H uE v4 x.words) (a1 : v1.oneCell' = true) (a2 : v2.oneCell' = true) (a3 : v3.oneCell' = true) (a4 : v4.oneCell' = true) (hl : x.words.length ≤ 1000) :
    Call Tryz.prog w0 37 [.agg [v1, v2, .int .i64 x.size, .int .i64 x.pins].toArray, .agg [v3, v4, .int .i64 x.size, .int .i64 x.pins].toArray] H (fun r H' => r = .bool true ∧ H' = H) := by
  refine Call.enter2 (n := 53) (by kernel_rfl) Tryz.func37 rfl rfl rfl ?_
  refine K.seq ?_
  refine K.region ?_
  (refine KL.e rfl (Eff.box rfl rfl) ?_; rintro _ _ ⟨b2, rfl, rfl⟩)
  (refine KL.e rfl (Eff.box rfl rfl) ?_; rintro _ _ ⟨b3, rfl, rfl⟩)
  (refine KL.v rfl (Val.assign rfl) ?_)
  refine KL.nil ?_
  refine KE.next ?_
  refine K.seq ?_
  refine K.seq ?_
  refine K.region ?_
  (refine KL.v rfl (Val.fieldAddr0 (k := 2) rfl rfl) ?_)
  (refine KL.v rfl (Val.loadP rfl rfl (Sees.cell byTake rfl)) ?_)
  (refine KL.v rfl (Val.fieldAddr0 (k := 2) rfl rfl) ?_)
  (refine KL.v rfl (Val.loadP rfl rfl (Sees.cell byTake rfl)) ?_)
  (refine KL.v rfl (Val.isF (Val.neq rfl rfl) byLt) ?_)
  (refine KL.v rfl (Val.move rfl) ?_)
  (refine KL.yes rfl rfl ?_; refine KL.v rfl (Val.fieldAddr0 (k := 3) rfl rfl) ?_)
  (refine KL.yes rfl rfl ?_; refine KL.v rfl (Val.loadP rfl rfl (Sees.cell byTake rfl)) ?_)
  (refine KL.yes rfl rfl ?_; refine KL.v rfl (Val.fieldAddr0 (k := 3) rfl rfl) ?_)
  (refine KL.yes rfl rfl ?_; refine KL.v rfl (Val.loadP rfl rfl (Sees.cell byTake rfl)) ?_)
  (refine KL.yes rfl rfl ?_; refine KL.v rfl (Val.isF (Val.neq rfl rfl) byLt) ?_)
  (refine KL.v rfl (Val.pickF rfl rfl rfl) ?_)
  (refine KL.v rfl (Val.move rfl) ?_)
  (refine KL.yes rfl rfl ?_; refine KL.v rfl (Val.fieldAddr0 (k := 0) rfl rfl) ?_)
  (refine KL.yes rfl rfl ?_; refine KL.v rfl (Val.loadP rfl rfl (Sees.cell byTake rfl)) ?_)
  (refine KL.yes rfl rfl ?_; refine KL.v rfl (Val.fieldAddr0 (k := 0) rfl rfl) ?_)
  (refine KL.yes rfl rfl ?_; refine KL.v rfl (Val.loadP rfl rfl (Sees.cell byTake rfl)) ?_)
  (refine KL.yes rfl rfl ?_; refine KL.callc rfl rfl byEvL fun T hT => ?_)
  refine (CallV.pure fun w hw => CallV.fn (Same_K (a := x.refs) (b := x.refs) (h1 w (hw.part byPart)) (h3 w (hw.part byPart)))).mono ?_
  rintro _ _ ⟨_, ⟨rfl, rfl⟩, rfl⟩
  rw [decide_eq_true rfl]
  refine hT _ _ ?_; clear hT; clear T
  (refine KL.yes rfl rfl ?_; refine KL.v rfl (Val.notT rfl) ?_)
  (refine KL.v rfl (Val.pickF rfl rfl rfl) ?_)
  (refine KL.v rfl (Val.move rfl) ?_)
  (refine KL.yes rfl rfl ?_; refine KL.v rfl (Val.fieldAddr0 (k := 1) rfl rfl) ?_)
  (refine KL.yes rfl rfl ?_; refine KL.v rfl (Val.loadP rfl rfl (Sees.cell byTake rfl)) ?_)
  (refine KL.yes rfl rfl ?_; refine KL.v rfl (Val.lenSl rfl rfl bySli) ?_)
  (refine KL.yes rfl rfl ?_; refine KL.v rfl (Val.fieldAddr0 (k := 1) rfl rfl) ?_)
  (refine KL.yes rfl rfl ?_; refine KL.v rfl (Val.loadP rfl rfl (Sees.cell byTake rfl)) ?_)
  (refine KL.yes rfl rfl ?_; refine KL.v rfl (Val.lenSl rfl rfl bySli) ?_)
  (refine KL.yes rfl rfl ?_; refine KL.v rfl (Val.isF (Val.neq rfl rfl) byLt) ?_)
  (refine KL.v rfl (Val.pickF rfl rfl rfl) ?_)
  refine KL.nil ?_
  refine KE.next ?_
  refine K.condF rfl ?_
  refine K.skip ?_
  refine KE.next ?_
  refine K.seq ?_
  refine K.seq ?_
  refine K.region ?_
  (refine KL.v rfl (Val.assign rfl) ?_)
  refine KL.nil ?_
  refine KE.next ?_
  refine K.block ?_
  refine K.loopT (σ := Nat) [(2, _), (3, _)] (fun s kp_ => (5, .int .i64 (s : Nat)) :: kp_) (fun s => (b3, cells [v3, v4, .int .i64 x.size, .int .i64 x.pins] 63) :: (b2, cells [v1, v2, .int .i64 x.size, .int .i64 x.pins] 63) :: H) (fun s => s ≤ x.words.length) (fun s => x.words.length - s) (0) bySub byPart (by simp) ?_
  rintro k hk
  by_cases hlt : k < x.words.length
  · obtain ⟨y, hy⟩ := get_of_lt hlt
    refine K.seq ?_
    refine K.seq ?_
    refine K.region ?_
    (refine KL.v rfl (Val.move rfl) ?_)
    (refine KL.v rfl (Val.fieldAddr0 (k := 1) rfl rfl) ?_)
    (refine KL.v rfl (Val.loadP rfl rfl (Sees.cell byTake rfl)) ?_)
    (refine KL.v rfl (Val.lenSl rfl rfl bySli) ?_)
    (refine KL.v rfl (Val.isT (Val.lss rfl rfl) byLt) ?_)
    refine KL.nil ?_
    refine KE.next ?_
    refine K.condT rfl ?_
    refine K.skip ?_
    refine KE.next ?_
    refine K.seq ?_
    refine K.block ?_
    refine K.seq ?_
    refine K.drawn [] [(0, 0), (1, 0), (2, 0), (3, 0), (4, 0), (5, 0), (6, 0), (7, 0), (8, 0), (9, 0), (10, 0)] (by kernel_rfl) (by kernel_rfl) (by kernel_rfl) (by kernel_rfl) (by kernel_rfl) (by kernel_rfl) Part.nil ?_
    refine KD.v0 rfl rfl (Val.fieldAddr0 (k := 1) rfl rfl) ?_
    refine KD.v0 rfl rfl (Val.loadP rfl rfl (Sees.cell byTake rfl)) ?_
    refine KD.v0 rfl rfl (Val.move rfl) ?_
    refine KD.v0 rfl rfl (Val.idxSl rfl rfl rfl bySli rfl byLt) ?_
    refine KD.v0 rfl rfl (Val.loadP rfl rfl bySee) ?_
    refine KD.v0 rfl rfl (Val.fieldAddr0 (k := 1) rfl rfl) ?_
    refine KD.v0 rfl rfl (Val.loadP rfl rfl (Sees.cell byTake rfl)) ?_
    refine KD.v0 rfl rfl (Val.move rfl) ?_
    refine KD.v0 rfl rfl (Val.idxSl rfl rfl rfl bySli rfl byLt) ?_
    refine KD.v0 rfl rfl (Val.loadP rfl rfl bySee) ?_
    refine KD.v0 rfl rfl (Val.isF (Val.neq rfl rfl) byLt) ?_
    refine KD.nil ?_
    refine KE.next ?_
    refine K.condF rfl ?_
    refine K.skip ?_
    refine KE.blkN ?_
    refine KE.next ?_
    refine K.region ?_
    (refine KL.v rfl (Val.move rfl) ?_)
    (refine KL.v rfl (Val.add rfl rfl (by simp only [Go.Proofs.YthamkgghnjenhaaGreat.lo, Go.Proofs.YthamkgghnjenhaaGreat.hi]; omega)) ?_)
    (refine KL.v rfl (Val.assign rfl) ?_)
    refine KL.nil ?_
    exact KE.again (k + 1) bySub byPart (by omega) (by omega)
  · refine K.seq ?_
    refine K.seq ?_
    refine K.region ?_
    (refine KL.v rfl (Val.move rfl) ?_)
    (refine KL.v rfl (Val.fieldAddr0 (k := 1) rfl rfl) ?_)
    (refine KL.v rfl (Val.loadP rfl rfl (Sees.cell byTake rfl)) ?_)
    (refine KL.v rfl (Val.lenSl rfl rfl bySli) ?_)
    (refine KL.v rfl (Val.isF (Val.lss rfl rfl) byLt) ?_)
    refine KL.nil ?_
    refine KE.next ?_
    refine K.condF rfl ?_
    refine K.exit ?_
    refine KE.passX ?_
    refine KE.passX ?_
    refine KE.blkX ?_
    refine KE.next ?_
    refine K.seq ?_
    refine K.region ?_
    (refine KL.v rfl (Val.assign rfl) ?_)
    refine KL.nil ?_
    refine KE.next ?_
    refine K.ret ?_
    exact KE.fin byMarks rfl byRes byPart ⟨rfl, rfl⟩
set_option maxHeartbeats 4000000 in
theorem sameD_K {w0 : World} {F : Heap} {sm : SM} {d : DV} {Q : Dc} (ok : SOk sm) (hI : Inv sm.st) (hS : Swept (allS Q) sm.st) (hB : DcB Q) {DM : Heap} (hDM : ∀ w, Only [] w0 w → HasH DM w → DocR w d Q) (hFD : Part F DM) (ho : DvO d) :
    Call Tryz.prog w0 12 [.pointer (some ⟨sm.b, 0, none⟩), docV d Q] (smH sm ++ F) (fun r H' => r = .bool true ∧ H' = smH sm ++ F) := by
  obtain ⟨a1, a2, a3⟩ := ho
  have hD : ∀ w, HF w0 (smH sm ++ F) w → DocR w d Q := fun w hw => hDM w hw.old (HF.has (hw.part (Part.dropA hFD)))
  have hn := hI.st.closed.nums
  have hmd : sm.made = Q.ts.length := hS.made
  have hmt : sm.minted = Q.hs.length := hS.minted
  have hq1 := hB.ts
  have hq2 := hB.hs
  have hz : ∀ i x, tf sm.ts i = some x → 0 ≤ x.size ∧ x.size ≤ 100000 := fun i x hx => by
    have := (hI.st.tx i x hx).sz; omega
  have hrl : ∀ i x, tf sm.ts i = some x → x.refs.length ≤ 1000 ∧ x.words.length ≤ 1000 := fun i x hx => by
    have := (hI.st.tx i x hx).sz; omega
  have hh : Sli w0 (smH sm ++ F) iE d.vh Q.hs := fun w hw => (hD w hw).h
  have htl : Sli w0 (smH sm ++ F) thE d.vt d.T := fun w hw => (hD w hw).t
  have e1 := sim_live hB.ok hS
  have e2 := sim_objs hB.ok hS
  have e3 := sim_used hB.ok hS hn
  have hll : (handsP sm.st).length ≤ 100 := Nat.le_trans (hands_len _) (show sm.minted ≤ 100 by omega)
  have hol : (objsP sm.st).length ≤ 100 := Nat.le_trans (objs_len _) (show sm.made ≤ 100 by omega)
  have hdv : docV d Q = .agg [d.vc, .int .i64 Q.quota, .int .i64 Q.caps, d.vt, d.vh].toArray := rfl
  rw [hdv]
  refine Call.enter2 (n := 109) (by kernel_rfl) Tryz.func12 rfl rfl rfl ?_
  refine K.fact (p := d.T.map (·.x) = Q.ts) (fun w hw => (hD w (hw.part byPart)).x) fun hTx => ?_
  refine K.seq ?_
  refine K.region ?_
  (refine KL.e rfl (Eff.box rfl rfl) ?_; rintro _ _ ⟨b3, rfl, rfl⟩)
  (refine KL.v rfl (Val.assign rfl) ?_)
  refine KL.nil ?_
  refine KE.next ?_
  refine K.seq ?_
  refine K.drawn _ [(0, 0), (2, 1), (1, 2), (3, 2), (4, 0), (5, 0)] (by kernel_rfl) (by kernel_rfl) (by kernel_rfl) (by kernel_rfl) (by kernel_rfl) (by kernel_rfl) Part.all ?_
  refine KD.v0 rfl rfl (Val.loadA rfl rfl rfl bySeeN) ?_
  refine KD.v1 rfl rfl (Val.loadA rfl rfl rfl bySeeN) ?_
  refine KD.callc rfl rfl rfl byEvL fun T hT => ?_
  refine (CallV.pure fun w hw => CallV.fn (RLive_K (hD w (hw.part byPart)) hB)).mono ?_
  rintro _ _ ⟨_, ⟨oL, okL, rfl, rfl⟩, rfl⟩
  rw [e1] at okL ⊢
  refine hT _ _ byPart ?_; clear hT; clear T
  refine KD.callc rfl rfl rfl byEvL fun T hT => ?_
  refine (CallV.pure fun w hw => CallV.fn (RObjects_K (hD w (hw.part byPart)) hB)).mono ?_
  rintro _ _ ⟨_, ⟨oO, okO, rfl, rfl⟩, rfl⟩
  rw [e2] at okO ⊢
  refine hT _ _ byPart ?_; clear hT; clear T
  refine KD.v0 rfl rfl (Val.assign rfl) ?_
  refine KD.v0 rfl rfl (Val.assign rfl) ?_
  refine KD.nil ?_
  refine KE.next ?_
  refine K.seq ?_
  refine K.seq ?_
  refine K.drawn _ ((0, 0) :: (2, 1) :: (1, 2) :: (3, 2) :: (4, 0) :: (5, 0) :: (6, 0) :: (8, 1) :: (9, 1) :: (7, 2) :: (10, 0) :: (11, 0) :: (12, 0) :: (13, 0) :: (15, 1) :: (16, 1) :: (17, 1) :: (14, 2) :: (18, 0) :: (19, 0) :: (20, 0) :: (21, 0) :: (23, 1) :: (22, 2) :: (24, 2) :: (25, 0) :: (26, 0) :: (27, 0) :: (28, 0) :: (30, 1) :: (29, 2) :: (31, 2) :: (32, 0) :: (33, 0) :: []) (by kernel_rfl) (by kernel_rfl) (by kernel_rfl) (by kernel_rfl) (by kernel_rfl) (by kernel_rfl) Part.all ?_
  refine KD.v0 rfl rfl (Val.move rfl) ?_
  refine KD.v1 rfl rfl (Val.loadA rfl rfl rfl bySeeN) ?_
  refine KD.callc rfl rfl rfl byEvL fun T hT => ?_
  refine (CallV.part (CallV.fn (Used_K ok hn (by omega) hz)) byPart).mono ?_
  rintro _ _ ⟨rfl, rfl⟩
  refine hT _ _ byPart ?_; clear hT; clear T
  refine KD.callc rfl rfl rfl byEvL fun T hT => ?_
  refine (CallV.pure fun w hw => CallV.fn (RUsed_K (hD w (hw.part byPart)) hB)).mono ?_
  rintro _ _ ⟨_, ⟨rfl, rfl⟩, rfl⟩
  rw [e3]
  refine hT _ _ byPart ?_; clear hT; clear T
  refine KD.v0 rfl rfl (Val.isF (Val.neq rfl rfl) byLt) ?_
  refine KD.v0 rfl rfl (Val.move rfl) ?_
  refine KD.y0 rfl rfl rfl rfl (Val.move rfl) ?_
  refine KD.y1 rfl rfl rfl rfl (Val.move rfl) ?_
  refine KD.y1 rfl rfl rfl rfl (Val.lenSl rfl rfl (Sli.own byTakeL (by assumption) byLen)) ?_
  refine KD.callcY rfl rfl rfl rfl rfl byEvL fun T hT => ?_
  refine (CallV.part (CallV.fn (Live_K ok hn (by omega))) byPart).mono ?_
  rintro _ _ ⟨rfl, rfl⟩
  refine hT _ _ byPart ?_; clear hT; clear T
  refine KD.y0 rfl rfl rfl rfl (Val.isF (Val.neq rfl rfl) byLt) ?_
  refine KD.v0 rfl rfl (Val.pickF rfl rfl rfl) ?_
  refine KD.v0 rfl rfl (Val.move rfl) ?_
  refine KD.y0 rfl rfl rfl rfl (Val.move rfl) ?_
  refine KD.y1 rfl rfl rfl rfl (Val.fieldAddr0 (k := 4) rfl rfl) ?_
  refine KD.y1 rfl rfl rfl rfl (Val.loadP rfl rfl (Sees.cell byTake rfl)) ?_
  refine KD.y1 rfl rfl rfl rfl (Val.lenSl rfl rfl bySli) ?_
  refine KD.callcY rfl rfl rfl rfl rfl byEvL fun T hT => ?_
  refine (CallV.part (CallV.fn (Minted_K (sm := sm))) byPart).mono ?_
  rintro _ _ ⟨rfl, rfl⟩
  rw [hmt]
  refine hT _ _ byPart ?_; clear hT; clear T
  refine KD.y0 rfl rfl rfl rfl (Val.isF (Val.neq rfl rfl) byLt) ?_
  refine KD.v0 rfl rfl (Val.pickF rfl rfl rfl) ?_
  refine KD.v0 rfl rfl (Val.move rfl) ?_
  refine KD.y0 rfl rfl rfl rfl (Val.move rfl) ?_
  refine KD.y1 rfl rfl rfl rfl (Val.move rfl) ?_
  refine KD.callcY rfl rfl rfl rfl rfl byEvL fun T hT => ?_
  refine (CallV.part (CallV.fn (Handles_K ok hn (by omega))) byPart).mono ?_
  rintro _ _ ⟨o1, ok1, rfl, rfl⟩
  refine hT _ _ byPart ?_; clear hT; clear T
  refine KD.callcY rfl rfl rfl rfl rfl byEvL fun T hT => ?_
  refine (CallV.pure fun w hw => CallV.fn (Same_K (Sli.own byTakeL ok1 rfl w hw) (Sli.own byTakeL okL rfl w hw))).mono ?_
  rintro _ _ ⟨_, ⟨rfl, rfl⟩, rfl⟩
  rw [decide_eq_true rfl]
  refine hT _ _ byPart ?_; clear hT; clear T
  refine KD.y0 rfl rfl rfl rfl (Val.notT rfl) ?_
  refine KD.v0 rfl rfl (Val.pickF rfl rfl rfl) ?_
  refine KD.v0 rfl rfl (Val.move rfl) ?_
  refine KD.y0 rfl rfl rfl rfl (Val.move rfl) ?_
  refine KD.y1 rfl rfl rfl rfl (Val.move rfl) ?_
  refine KD.callcY rfl rfl rfl rfl rfl byEvL fun T hT => ?_
  refine (CallV.part (CallV.fn (Objects_K ok hn (by omega))) byPart).mono ?_
  rintro _ _ ⟨o2, ok2, rfl, rfl⟩
  refine hT _ _ byPart ?_; clear hT; clear T
  refine KD.callcY rfl rfl rfl rfl rfl byEvL fun T hT => ?_
  refine (CallV.pure fun w hw => CallV.fn (Same_K (Sli.own byTakeL ok2 rfl w hw) (Sli.own byTakeL okO rfl w hw))).mono ?_
  rintro _ _ ⟨_, ⟨rfl, rfl⟩, rfl⟩
  rw [decide_eq_true rfl]
  refine hT _ _ byPart ?_; clear hT; clear T
  refine KD.y0 rfl rfl rfl rfl (Val.notT rfl) ?_
  refine KD.v0 rfl rfl (Val.pickF rfl rfl rfl) ?_
  refine KD.nil ?_
  refine KE.next ?_
  refine K.condF rfl ?_
  refine K.skip ?_
  refine KE.next ?_
  refine K.seq ?_
  refine K.seq ?_
  refine K.region ?_
  (refine KL.v rfl (Val.assign rfl) ?_)
  refine KL.nil ?_
  refine KE.next ?_
  refine K.block ?_
  refine K.loopT (σ := Nat) [(0, _), (3, _), (5, _), (6, _)] (fun s kp_ => (7, .int .i64 (s : Nat)) :: kp_) (fun s => oH iE 3 (handsP sm.st) oL ++ (oH iE 3 (objsP sm.st) oO ++ ((b3, cells [d.vc, .int .i64 Q.quota, .int .i64 Q.caps, d.vt, d.vh] 35) :: (smH sm ++ F)))) (fun s => s ≤ (handsP sm.st).length) (fun s => (handsP sm.st).length - s) (0) bySub byPart (by omega) ?_
  rintro k hk
  by_cases hlt : k < (handsP sm.st).length
  · obtain ⟨x, hx⟩ := get_of_lt hlt
    obtain ⟨i, hi⟩ := Option.isSome_iff_exists.1 ((hands_mem hn).1 (List.mem_of_getElem? hx))
    have hnp : namesP sm.st x = (i, 0) := by unfold namesP; rw [hi]
    have hnd : namesD Q x = i := by rw [sim_names hB.ok hS, hi]; rfl
    refine K.seq ?_
    refine K.seq ?_
    refine K.region ?_
    (refine KL.v rfl (Val.move rfl) ?_)
    (refine KL.v rfl (Val.move rfl) ?_)
    (refine KL.v rfl (Val.lenSl rfl rfl (Sli.own byTakeL (by assumption) byLen)) ?_)
    (refine KL.v rfl (Val.isT (Val.lss rfl rfl) byLt) ?_)
    refine KL.nil ?_
    refine KE.next ?_
    refine K.condT rfl ?_
    refine K.skip ?_
    refine KE.next ?_
    refine K.seq ?_
    refine K.block ?_
    refine K.seq ?_
    refine K.region ?_
    (refine KL.v rfl (Val.move rfl) ?_)
    (refine KL.v rfl (Val.move rfl) ?_)
    (refine KL.v rfl (Val.move rfl) ?_)
    (refine KL.v rfl (Val.idxSl rfl rfl rfl (Sli.own byTakeL (by assumption) byLen) rfl byLt) ?_)
    (refine KL.v rfl (Val.loadP rfl rfl (Sees.sl0 (Sli.own byTakeL (by assumption) byLen) (by assumption) rfl)) ?_)
    (refine KL.callc rfl rfl byEvL fun T hT => ?_)
    refine (CallV.part (CallV.fn (NamesS_K (sm := sm) (h := x))) byPart).mono ?_
    rintro _ _ ⟨rfl, rfl⟩
    rw [hnp]
    dsimp only
    refine hT _ _ ?_; clear hT; clear T
    (refine KL.v rfl (Val.move rfl) ?_)
    (refine KL.v rfl (Val.extract rfl rfl) ?_)
    (refine KL.v rfl (Val.extract rfl rfl) ?_)
    (refine KL.v rfl (Val.assign rfl) ?_)
    (refine KL.v rfl (Val.assign rfl) ?_)
    refine KL.nil ?_
    refine KE.next ?_
    refine K.seq ?_
    refine K.drawn _ [(0, 0), (1, 0), (2, 0), (3, 1), (4, 0), (5, 0), (6, 0), (7, 0), (8, 0), (9, 2), (10, 0), (11, 0)] (by kernel_rfl) (by kernel_rfl) (by kernel_rfl) (by kernel_rfl) (by kernel_rfl) (by kernel_rfl) Part.all ?_
    refine KD.v0 rfl rfl (Val.move rfl) ?_
    refine KD.v0 rfl rfl (Val.isF (Val.neq rfl rfl) byLt) ?_
    refine KD.v0 rfl rfl (Val.move rfl) ?_
    refine KD.y1 rfl rfl rfl rfl (Val.move rfl) ?_
    refine KD.y0 rfl rfl rfl rfl (Val.loadA rfl rfl rfl bySeeN) ?_
    refine KD.y0 rfl rfl rfl rfl (Val.move rfl) ?_
    refine KD.y0 rfl rfl rfl rfl (Val.move rfl) ?_
    refine KD.y0 rfl rfl rfl rfl (Val.idxSl rfl rfl rfl (Sli.own byTakeL (by assumption) byLen) rfl byLt) ?_
    refine KD.y0 rfl rfl rfl rfl (Val.loadP rfl rfl (Sees.sl0 (Sli.own byTakeL (by assumption) byLen) (by assumption) rfl)) ?_
    refine KD.callcY rfl rfl rfl rfl rfl byEvL fun T hT => ?_
    refine (CallV.pure fun w hw => CallV.fn (RNames_K (h := x) (hD w (hw.part byPart)) hB)).mono ?_
    rintro _ _ ⟨_, ⟨rfl, rfl⟩, rfl⟩
    rw [hnd]
    refine hT _ _ byPart ?_; clear hT; clear T
    refine KD.y0 rfl rfl rfl rfl (Val.isF (Val.neq rfl rfl) byLt) ?_
    refine KD.v0 rfl rfl (Val.pickF rfl rfl rfl) ?_
    refine KD.nil ?_
    refine KE.next ?_
    refine K.condF rfl ?_
    refine K.skip ?_
    refine KE.blkN ?_
    refine KE.next ?_
    refine K.region ?_
    (refine KL.v rfl (Val.move rfl) ?_)
    (refine KL.v rfl (Val.add rfl rfl (by simp only [Go.Proofs.YthamkgghnjenhaaGreat.lo, Go.Proofs.YthamkgghnjenhaaGreat.hi]; omega)) ?_)
    (refine KL.v rfl (Val.assign rfl) ?_)
    refine KL.nil ?_
    exact KE.again (k + 1) bySub byPart (by omega) (by omega)
  refine K.seq ?_
  refine K.seq ?_
  refine K.region ?_
  (refine KL.v rfl (Val.move rfl) ?_)
  (refine KL.v rfl (Val.move rfl) ?_)
  (refine KL.v rfl (Val.lenSl rfl rfl (Sli.own byTakeL (by assumption) byLen)) ?_)
  (refine KL.v rfl (Val.isF (Val.lss rfl rfl) byLt) ?_)
  refine KL.nil ?_
  refine KE.next ?_
  refine K.condF rfl ?_
  refine K.exit ?_
  refine KE.passX ?_
  refine KE.passX ?_
  refine KE.blkX ?_
  refine KE.next ?_
  refine K.seq ?_
  refine K.seq ?_
  refine K.region ?_
  (refine KL.v rfl (Val.assign rfl) ?_)
  refine KL.nil ?_
  refine KE.next ?_
  refine K.block ?_
  refine K.loopT (σ := Nat) [(0, _), (3, _), (6, _)] (fun s kp_ => (10, .int .i64 (s : Nat)) :: kp_) (fun s => oH iE 3 (objsP sm.st) oO ++ ((b3, cells [d.vc, .int .i64 Q.quota, .int .i64 Q.caps, d.vt, d.vh] 35) :: (smH sm ++ F))) (fun s => s ≤ (objsP sm.st).length) (fun s => (objsP sm.st).length - s) (0) bySub byPart (by omega) ?_
  rintro k hk
  by_cases hlt : k < (objsP sm.st).length
  · obtain ⟨i, hi⟩ := get_of_lt hlt
    obtain ⟨x, hx⟩ := Option.isSome_iff_exists.1 ((objs_mem hn).1 (List.mem_of_getElem? hi))
    obtain ⟨hi1, hq⟩ := all_T.1 ((hS.T i x).1 hx).1
    have hql := lt_of_get hq
    have hgt : (d.T.map (·.x))[(i - 1).toNat]? = some x := by rw [hTx]; exact hq
    rw [List.getElem?_map] at hgt
    obtain ⟨t, htg, rfl⟩ := Option.map_eq_some_iff.1 hgt
    have htm := List.mem_of_getElem? htg
    have htl' := lt_of_get htg
    have hr1 : Sli w0 (smH sm ++ F) iE (.slice t.r.a t.r.n t.r.c) t.x.refs := fun w hw => (hD w hw).r t htm
    have hr2 : Sli w0 (smH sm ++ F) uE (.slice t.w.a t.w.n t.w.c) t.x.words := fun w hw => (hD w hw).u t htm
    have hxo := hB.x t.x (List.mem_of_getElem? hq)
    have hob : i ≤ 100 := by omega
    refine K.seq ?_
    refine K.seq ?_
    refine K.region ?_
    (refine KL.v rfl (Val.move rfl) ?_)
    (refine KL.v rfl (Val.move rfl) ?_)
    (refine KL.v rfl (Val.lenSl rfl rfl (Sli.own byTakeL (by assumption) byLen)) ?_)
    (refine KL.v rfl (Val.isT (Val.lss rfl rfl) byLt) ?_)
    refine KL.nil ?_
    refine KE.next ?_
    refine K.condT rfl ?_
    refine K.skip ?_
    refine KE.next ?_
    refine K.seq ?_
    refine K.block ?_
    refine K.seq ?_
    refine K.region ?_
    (refine KL.v rfl (Val.move rfl) ?_)
    (refine KL.v rfl (Val.move rfl) ?_)
    (refine KL.v rfl (Val.move rfl) ?_)
    (refine KL.v rfl (Val.idxSl rfl rfl rfl (Sli.own byTakeL (by assumption) byLen) rfl byLt) ?_)
    (refine KL.v rfl (Val.loadP rfl rfl (Sees.sl0 (Sli.own byTakeL (by assumption) byLen) (by assumption) rfl)) ?_)
    (refine KL.callc rfl rfl byEvL fun T hT => ?_)
    refine (CallV.part (CallV.fn (ObjectY_K ok hx (hrl _ _ hx))) byPart).mono ?_
    rintro _ _ ⟨p1, p2, pk1, pk2, rfl, rfl⟩
    unfold tV
    refine hT _ _ ?_; clear hT; clear T
    (refine KL.v rfl (Val.move rfl) ?_)
    (refine KL.v rfl (Val.extract rfl rfl) ?_)
    (refine KL.v rfl (Val.extract rfl rfl) ?_)
    (refine KL.e rfl (Eff.alloc rfl) ?_; rintro _ _ ⟨b11, rfl, rfl⟩)
    (refine KL.eN (Eff.storeAL rfl rfl rfl byTake byLay byOnes) ?_; rintro _ _ rfl)
    (refine KL.v rfl (Val.assign rfl) ?_)
    refine KL.nil ?_
    refine KE.next ?_
    refine K.seq ?_
    refine K.drawn [] [(0, 0), (1, 0), (2, 0), (3, 0), (4, 0), (5, 0), (6, 0), (7, 0), (8, 0), (9, 0), (10, 0), (11, 0), (12, 0), (13, 2), (14, 0), (15, 0)] (by kernel_rfl) (by kernel_rfl) (by kernel_rfl) (by kernel_rfl) (by kernel_rfl) (by kernel_rfl) Part.nil ?_
    refine KD.v0 rfl rfl (Val.move rfl) ?_
    refine KD.v0 rfl rfl (Val.isF (Val.neq rfl rfl) byLt) ?_
    refine KD.v0 rfl rfl (Val.move rfl) ?_
    refine KD.y0 rfl rfl rfl rfl (Val.loadA rfl rfl rfl bySeeN) ?_
    refine KD.y0 rfl rfl rfl rfl (Val.fieldAddr0 (k := 3) rfl rfl) ?_
    refine KD.y0 rfl rfl rfl rfl (Val.loadP rfl rfl (Sees.cell byTake rfl)) ?_
    refine KD.y0 rfl rfl rfl rfl (Val.move rfl) ?_
    refine KD.y0 rfl rfl rfl rfl (Val.move rfl) ?_
    refine KD.y0 rfl rfl rfl rfl (Val.idxSl rfl rfl rfl (Sli.own byTakeL (by assumption) byLen) rfl byLt) ?_
    refine KD.y0 rfl rfl rfl rfl (Val.loadP rfl rfl (Sees.sl0 (Sli.own byTakeL (by assumption) byLen) (by assumption) rfl)) ?_
    refine KD.y0 rfl rfl rfl rfl (Val.sub rfl rfl (by simp only [Go.Proofs.YthamkgghnjenhaaGreat.lo, Go.Proofs.YthamkgghnjenhaaGreat.hi]; omega)) ?_
    refine KD.y0 rfl rfl rfl rfl (Val.idxSlZ rfl rfl rfl bySli rfl (by omega)) ?_
    refine KD.y0 rfl rfl rfl rfl (Val.loadAP rfl rfl rfl bySeeA) ?_
    refine KD.callcY rfl rfl rfl rfl rfl byEvL fun T hT => ?_
    refine (CallV.fn (SameV_K (x := t.x) (Sli.own byTakeL pk1 rfl) (Sli.own byTakeL pk2 rfl) (hr1.part byPart) (hr2.part byPart) (oV_one _ _) (oV_one _ _) rfl rfl (hrl _ _ hx).2)).mono ?_
    rintro _ _ ⟨rfl, rfl⟩
    refine hT _ _ byPart ?_; clear hT; clear T
    refine KD.y0 rfl rfl rfl rfl (Val.notT rfl) ?_
    refine KD.v0 rfl rfl (Val.pickF rfl rfl rfl) ?_
    refine KD.nil ?_
    refine KE.next ?_
    refine K.condF rfl ?_
    refine K.skip ?_
    refine KE.blkN ?_
    refine KE.next ?_
    refine K.region ?_
    (refine KL.v rfl (Val.move rfl) ?_)
    (refine KL.v rfl (Val.add rfl rfl (by simp only [Go.Proofs.YthamkgghnjenhaaGreat.lo, Go.Proofs.YthamkgghnjenhaaGreat.hi]; omega)) ?_)
    (refine KL.v rfl (Val.assign rfl) ?_)
    refine KL.nil ?_
    exact KE.again (k + 1) bySub byPart (by omega) (by omega)
  · refine K.seq ?_
    refine K.seq ?_
    refine K.region ?_
    (refine KL.v rfl (Val.move rfl) ?_)
    (refine KL.v rfl (Val.move rfl) ?_)
    (refine KL.v rfl (Val.lenSl rfl rfl (Sli.own byTakeL (by assumption) byLen)) ?_)
    (refine KL.v rfl (Val.isF (Val.lss rfl rfl) byLt) ?_)
    refine KL.nil ?_
    refine KE.next ?_
    refine K.condF rfl ?_
    refine K.exit ?_
    refine KE.passX ?_
    refine KE.passX ?_
    refine KE.blkX ?_
    refine KE.next ?_
    refine K.seq ?_
    refine K.region ?_
    (refine KL.v rfl (Val.assign rfl) ?_)
    refine KL.nil ?_
    refine KE.next ?_
    refine K.ret ?_
    exact KE.fin byMarks rfl byRes byPart ⟨rfl, rfl⟩
end Go.Proofs.YthamkgghnjenhaaGreat
