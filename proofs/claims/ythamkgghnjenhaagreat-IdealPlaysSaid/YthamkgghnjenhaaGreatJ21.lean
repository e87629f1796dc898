/- Ideal: Do. Ideal: New, Copy. Ideal: what every operation keeps. Ideal: what can come of an operation. Ideal: states that can be reckoned; awake. -/
import Derived.Test.YthamkgghnjenhaaGreatJ20
namespace Go.Proofs.YthamkgghnjenhaaGreat
open Go.RowKit
set_option linter.unusedVariables false
set_option linter.unusedSimpArgs false
set_option maxRecDepth 10000

structure ThOk (x : Th) : Prop where
  sz : (x.refs.length : Int) + x.words.length + 1 ≤ x.size ∧ x.size ≤ 64
  pins : 0 ≤ x.pins ∧ x.pins ≤ 255
  ws : ∀ w ∈ x.words, 0 ≤ w ∧ w < 18446744073709551616
structure StOk (S : St) : Prop where
  closed : Closed S
  tx : ∀ i x, S.T i = some x → ThOk x
  cl : classP S.cl = true
  quota : 0 ≤ S.quota ∧ S.quota ≤ 4096
abbrev fnV (f : FuncId) : Value := .func (.func f) #[] #[]
def opsL : List Value := [.nilFunc, fnV 47, fnV 48, fnV 49, fnV 50, fnV 51, fnV 52, fnV 53]
theorem operations_K {w0 : World} {H : Heap} : Call Tryz.prog w0 28 [] H (fun r H' => r = .agg opsL.toArray ∧ H' = H) := by
  refine Call.enter0 (n := 2) (by kernel_rfl) Tryz.func28 rfl rfl rfl ?_
  refine K.seq ?_
  refine K.region ?_
  (refine KL.e rfl (Eff.alloc rfl) ?_; rintro _ _ ⟨b0, rfl, rfl⟩)
  refine KL.nil ?_
  refine KE.next ?_
  refine K.seq ?_
  refine K.region ?_
  (refine KL.v rfl (Val.build byParts rfl rfl byFill) ?_)
  (refine KL.eN (Eff.storeAL rfl rfl rfl byTake byLay byOnes) ?_; rintro _ _ rfl)
  refine KL.nil ?_
  refine KE.next ?_
  refine K.ret ?_
  exact KE.fin byMarks rfl byRes byPart ⟨rfl, rfl⟩
theorem do_stay {S S' : St} {op : OpP} {p : St × Sd} (h : stepP S op = stay p) (hs : S' = p.1) : DoR S op S' (stepP S op).2.1 := by
  unfold DoR; rw [h]; exact ⟨rfl, hs⟩
set_option maxHeartbeats 4000000 in
theorem Do_K {w0 : World} {F : Heap} {sm : SM} {op : OpP} (ok : SOk sm) (hS : StOk sm.st) (hm : sm.made ≤ 100) (hmi : sm.minted ≤ 1000) (hc : 0 ≤ op.code ∧ op.code ≤ 255) :
    Call Tryz.prog w0 11 [.pointer (some ⟨sm.b, 0, none⟩), opV op] (smH sm ++ F)
      (fun r H' => ∃ sm', SOk sm' ∧ sm'.b = sm.b ∧ DoR sm.st op sm'.st (stepP sm.st op).2.1 ∧ r = sdV (stepP sm.st op).2.1 ∧ H' = smH sm' ++ F) := by
  have hC := hS.closed
  have hrl : ∀ i x, tf sm.ts i = some x → x.refs.length ≤ 1000 ∧ x.words.length ≤ 1000 := fun i x hx => by
    have := (hS.tx i x hx).sz; omega
  have hopv : opV op = .agg [.int .u8 op.code, .int .i64 op.h, .int .i64 op.a, .int .i64 op.b, .int .u64 op.v, .int .i64 op.to].toArray := rfl
  rw [hopv]
  refine Call.enter2 (n := 49) (by kernel_rfl) Tryz.func11 rfl rfl rfl ?_
  refine K.seq ?_
  refine K.region ?_
  (refine KL.e rfl (Eff.box rfl rfl) ?_; rintro _ _ ⟨b3, rfl, rfl⟩)
  (refine KL.e rfl (Eff.alloc rfl) ?_; rintro _ _ ⟨b4, rfl, rfl⟩)
  refine KL.nil ?_
  refine KE.next ?_
  refine K.seq ?_
  refine K.region ?_
  (refine KL.callc rfl rfl byEvL fun T hT => ?_)
  refine (CallV.fn (operations_K)).mono ?_
  rintro _ _ ⟨rfl, rfl⟩
  refine hT _ _ ?_; clear hT; clear T
  unfold opsL
  by_cases hb : op.code < 1 ∨ op.code > 7
  · have hp : stepP sm.st op = (sm.st, ⟨250, 0, 0⟩, false) := by unfold stepP; rw [if_pos hb]
    have hD : DoR sm.st op sm.st (stepP sm.st op).2.1 := by rw [hp]; unfold DoR; rw [hp]; exact ⟨rfl, rfl⟩
    rw [hp] at hD
    rcases hb with hb | hb
    · have h0 : op.code = 0 := by omega
      rw [h0]
      (refine KL.e rfl (Eff.alloc rfl) ?_; rintro _ _ ⟨b5, rfl, rfl⟩)
      (refine KL.eN (Eff.storeAL rfl rfl rfl byTake byLay byOnes) ?_; rintro _ _ rfl)
      refine KL.nil ?_
      refine KE.next ?_
      refine K.seq ?_
      refine K.block ?_
      refine K.seq ?_
      refine K.region ?_
      (refine KL.v rfl (Val.move rfl) ?_)
      (refine KL.callc rfl rfl byEvL fun T hT => ?_)
      (refine (CallV.fn (noneR_K (bt := some _) (Sees.cell byTake rfl))).mono ?_; rintro _ _ ⟨rfl, rfl⟩)
      (refine hT _ _ ?_; clear hT; clear T)
      (refine KL.v rfl (Val.assign rfl) ?_)
      refine KL.nil ?_
      refine KE.next ?_
      refine K.condF rfl ?_
      refine K.seq ?_
      refine K.region ?_
      (refine KL.v rfl (Val.fieldAddr0 (k := 0) rfl rfl) ?_)
      (refine KL.v rfl (Val.loadP rfl rfl (Sees.cell byTake rfl)) ?_)
      (refine KL.v rfl (Val.conv rfl rfl rfl (by simp only [Go.Proofs.YthamkgghnjenhaaGreat.lo, Go.Proofs.YthamkgghnjenhaaGreat.hi]; omega)) ?_)
      (refine KL.v rfl (Val.isF (Val.geq rfl rfl) byLt) ?_)
      (refine KL.v rfl (Val.move rfl) ?_)
      (refine KL.yes rfl rfl ?_; refine KL.v rfl (Val.fieldAddr0 (k := 0) rfl rfl) ?_)
      (refine KL.yes rfl rfl ?_; refine KL.v rfl (Val.loadP rfl rfl (Sees.cell byTake rfl)) ?_)
      (refine KL.yes rfl rfl ?_; refine KL.v rfl (Val.indexA rfl rfl rfl rfl (by omega)) ?_)
      (refine KL.yes rfl rfl ?_; refine KL.v rfl (Val.loadP rfl rfl (Sees.cell byTake rfl)) ?_)
      (refine KL.yes rfl rfl ?_; refine KL.v rfl (Val.eqlFN rfl rfl rfl) ?_)
      (refine KL.v rfl (Val.pickF rfl rfl rfl) ?_)
      (refine KL.v rfl (Val.assign rfl) ?_)
      refine KL.nil ?_
      refine KE.next ?_
      refine K.condT rfl ?_
      refine K.seq ?_
      refine K.region ?_
      (refine KL.v rfl (Val.build byParts rfl rfl byFill) ?_)
      (refine KL.eN (Eff.storeAL rfl rfl rfl byTake byLay byOnes) ?_; rintro _ _ rfl)
      refine KL.nil ?_
      refine KE.next ?_
      refine K.ret ?_
      refine KE.blkR ?_
      refine KE.passR ?_
      exact KE.fin byMarks rfl byRes byPart ⟨sm, ok, rfl, by rw [hp]; exact hD, by rw [hp]; rfl, rfl⟩
    · by_cases h8 : op.code ≥ 8
      · (refine KL.e rfl (Eff.alloc rfl) ?_; rintro _ _ ⟨b5, rfl, rfl⟩)
        (refine KL.eN (Eff.storeAL rfl rfl rfl byTake byLay byOnes) ?_; rintro _ _ rfl)
        refine KL.nil ?_
        refine KE.next ?_
        refine K.seq ?_
        refine K.block ?_
        refine K.seq ?_
        refine K.region ?_
        (refine KL.v rfl (Val.move rfl) ?_)
        (refine KL.callc rfl rfl byEvL fun T hT => ?_)
        (refine (CallV.fn (noneR_K (bt := some _) (Sees.cell byTake rfl))).mono ?_; rintro _ _ ⟨rfl, rfl⟩)
        (refine hT _ _ ?_; clear hT; clear T)
        (refine KL.v rfl (Val.assign rfl) ?_)
        refine KL.nil ?_
        refine KE.next ?_
        refine K.condF rfl ?_
        refine K.seq ?_
        refine K.region ?_
        (refine KL.v rfl (Val.fieldAddr0 (k := 0) rfl rfl) ?_)
        (refine KL.v rfl (Val.loadP rfl rfl (Sees.cell byTake rfl)) ?_)
        (refine KL.v rfl (Val.conv rfl rfl rfl (by simp only [Go.Proofs.YthamkgghnjenhaaGreat.lo, Go.Proofs.YthamkgghnjenhaaGreat.hi]; omega)) ?_)
        (refine KL.v rfl (Val.isT (Val.geq rfl rfl) byLt) ?_)
        (refine KL.v rfl (Val.move rfl) ?_)
        refine KL.skipG rfl rfl rfl ?_
        refine KL.skipG rfl rfl rfl ?_
        refine KL.skipG rfl rfl rfl ?_
        refine KL.skipG rfl rfl rfl ?_
        refine KL.skipG rfl rfl rfl ?_
        (refine KL.v rfl (Val.pickT rfl rfl rfl) ?_)
        (refine KL.v rfl (Val.assign rfl) ?_)
        refine KL.nil ?_
        refine KE.next ?_
        refine K.condT rfl ?_
        refine K.seq ?_
        refine K.region ?_
        (refine KL.v rfl (Val.build byParts rfl rfl byFill) ?_)
        (refine KL.eN (Eff.storeAL rfl rfl rfl byTake byLay byOnes) ?_; rintro _ _ rfl)
        refine KL.nil ?_
        refine KE.next ?_
        refine K.ret ?_
        refine KE.blkR ?_
        refine KE.passR ?_
        exact KE.fin byMarks rfl byRes byPart ⟨sm, ok, rfl, by rw [hp]; exact hD, by rw [hp]; rfl, rfl⟩
      · omega
  have hcs : op.code = 1 ∨ op.code = 2 ∨ op.code = 3 ∨ op.code = 4 ∨ op.code = 5 ∨ op.code = 6 ∨ op.code = 7 := by omega
  obtain ⟨code, hh, oa, ob, ov, oto⟩ := op
  dsimp only at hcs hb hc ⊢
  by_cases h1 : code = 1
  · subst h1
    have hp : stepP sm.st ⟨1, hh, oa, ob, ov, oto⟩ = stay (allocP sm.st ⟨1, hh, oa, ob, ov, oto⟩) := rfl
    obtain ⟨ne, hne⟩ : ∃ ne, (namesP sm.st hh).2 = ne := ⟨_, rfl⟩
    (refine KL.e rfl (Eff.alloc rfl) ?_; rintro _ _ ⟨b5, rfl, rfl⟩)
    (refine KL.eN (Eff.storeAL rfl rfl rfl byTake byLay byOnes) ?_; rintro _ _ rfl)
    refine KL.nil ?_
    refine KE.next ?_
    refine K.seq ?_
    refine K.block ?_
    refine K.seq ?_
    refine K.region ?_
    (refine KL.v rfl (Val.move rfl) ?_)
    (refine KL.callc rfl rfl byEvL fun T hT => ?_)
    (refine (CallV.fn (noneR_K (bt := some _) (Sees.cell byTake rfl))).mono ?_; rintro _ _ ⟨rfl, rfl⟩)
    (refine hT _ _ ?_; clear hT; clear T)
    (refine KL.v rfl (Val.assign rfl) ?_)
    refine KL.nil ?_
    refine KE.next ?_
    refine K.condF rfl ?_
    refine K.seq ?_
    refine K.region ?_
    (refine KL.v rfl (Val.fieldAddr0 (k := 0) rfl rfl) ?_)
    (refine KL.v rfl (Val.loadP rfl rfl (Sees.cell byTake rfl)) ?_)
    (refine KL.v rfl (Val.conv rfl rfl rfl (by simp only [Go.Proofs.YthamkgghnjenhaaGreat.lo, Go.Proofs.YthamkgghnjenhaaGreat.hi]; omega)) ?_)
    (refine KL.v rfl (Val.isF (Val.geq rfl rfl) byLt) ?_)
    (refine KL.v rfl (Val.move rfl) ?_)
    (refine KL.yes rfl rfl ?_; refine KL.v rfl (Val.fieldAddr0 (k := 0) rfl rfl) ?_)
    (refine KL.yes rfl rfl ?_; refine KL.v rfl (Val.loadP rfl rfl (Sees.cell byTake rfl)) ?_)
    (refine KL.yes rfl rfl ?_; refine KL.v rfl (Val.indexA rfl rfl rfl rfl (by omega)) ?_)
    (refine KL.yes rfl rfl ?_; refine KL.v rfl (Val.loadP rfl rfl (Sees.cell byTake rfl)) ?_)
    (refine KL.yes rfl rfl ?_; refine KL.v rfl (Val.eqlFF rfl rfl rfl) ?_)
    (refine KL.v rfl (Val.pickF rfl rfl rfl) ?_)
    (refine KL.v rfl (Val.assign rfl) ?_)
    refine KL.nil ?_
    refine KE.next ?_
    refine K.condF rfl ?_
    refine K.skip ?_
    refine KE.blkN ?_
    refine KE.next ?_
    refine K.seq ?_
    refine K.seq ?_
    refine K.region ?_
    (refine KL.v rfl (Val.move rfl) ?_)
    (refine KL.v rfl (Val.fieldAddr0 (k := 1) rfl rfl) ?_)
    (refine KL.v rfl (Val.loadP rfl rfl (Sees.cell byTake rfl)) ?_)
    (refine KL.callc rfl rfl byEvL fun T hT => ?_)
    refine (CallV.part (CallV.fn (NamesS_K (h := hh))) byPart).mono ?_
    rintro _ _ ⟨rfl, rfl⟩
    refine hT _ _ ?_; clear hT; clear T
    rw [hne]
    by_cases hne0 : ne ≠ 0
    · (refine KL.v rfl (Val.move rfl) ?_)
      (refine KL.v rfl (Val.extract rfl rfl) ?_)
      (refine KL.v rfl (Val.extract rfl rfl) ?_)
      (refine KL.v rfl (Val.assign rfl) ?_)
      (refine KL.v rfl (Val.assign rfl) ?_)
      refine KL.nil ?_
      refine KE.next ?_
      refine K.seq ?_
      refine K.region ?_
      (refine KL.v rfl (Val.move rfl) ?_)
      (refine KL.v rfl (Val.isT (Val.neq rfl rfl) byLt) ?_)
      (refine KL.v rfl (Val.move rfl) ?_)
      (refine KL.yes rfl rfl ?_; refine KL.v rfl (Val.fieldAddr0 (k := 0) rfl rfl) ?_)
      (refine KL.yes rfl rfl ?_; refine KL.v rfl (Val.loadP rfl rfl (Sees.cell byTake rfl)) ?_)
      (refine KL.yes rfl rfl ?_; refine KL.v rfl (Val.isF (Val.neq rfl rfl) byLt) ?_)
      (refine KL.v rfl (Val.pickT rfl rfl rfl) ?_)
      refine KL.nil ?_
      refine KE.next ?_
      refine K.condF rfl ?_
      refine K.skip ?_
      refine KE.next ?_
      refine K.seq ?_
      refine K.drawn [] [(0, 0), (1, 0), (2, 0), (3, 0), (4, 0), (5, 0), (6, 2), (7, 2)] (by kernel_rfl) (by kernel_rfl) (by kernel_rfl) (by kernel_rfl) (by kernel_rfl) (by kernel_rfl) Part.nil ?_
      refine KD.v0 rfl rfl (Val.fieldAddr0 (k := 0) rfl rfl) ?_
      refine KD.v0 rfl rfl (Val.loadP rfl rfl (Sees.cell byTake rfl)) ?_
      refine KD.v0 rfl rfl (Val.indexA rfl rfl rfl rfl (by omega)) ?_
      refine KD.v0 rfl rfl (Val.loadP rfl rfl (Sees.cell byTake rfl)) ?_
      refine KD.v0 rfl rfl (Val.move rfl) ?_
      refine KD.v0 rfl rfl (Val.loadA rfl rfl rfl bySeeN) ?_
      refine KD.callc rfl rfl rfl byEvL fun T hT => ?_
      refine (CallV.part (CallV.fn (alloc_K (op := ⟨1, hh, oa, ob, ov, oto⟩) ok hC hm hmi hS.cl (fun i x hx => by have := (hS.tx i x hx).sz; omega) hS.quota.2)) byPart).mono ?_
      rintro _ _ ⟨sm', ok', hb', hst', rfl, rfl⟩
      unfold sdV
      refine hT _ _ byPart ?_; clear hT; clear T
      (refine KD.eN rfl (Eff.storeAL rfl rfl rfl byTake byLay byOnes) ?_; rintro _ _ rfl; refine ⟨byPart, ?_⟩)
      refine KD.nil ?_
      refine KE.next ?_
      refine K.ret ?_
      exact KE.fin byMarks rfl byRes byPart ⟨sm', ok', hb', do_stay hp hst', by rw [hp]; rfl, rfl⟩
    · (refine KL.v rfl (Val.move rfl) ?_)
      (refine KL.v rfl (Val.extract rfl rfl) ?_)
      (refine KL.v rfl (Val.extract rfl rfl) ?_)
      (refine KL.v rfl (Val.assign rfl) ?_)
      (refine KL.v rfl (Val.assign rfl) ?_)
      refine KL.nil ?_
      refine KE.next ?_
      refine K.seq ?_
      refine K.region ?_
      (refine KL.v rfl (Val.move rfl) ?_)
      (refine KL.v rfl (Val.isF (Val.neq rfl rfl) byLt) ?_)
      (refine KL.v rfl (Val.move rfl) ?_)
      refine KL.skipG rfl rfl rfl ?_
      refine KL.skipG rfl rfl rfl ?_
      refine KL.skipG rfl rfl rfl ?_
      (refine KL.v rfl (Val.pickF rfl rfl rfl) ?_)
      refine KL.nil ?_
      refine KE.next ?_
      refine K.condF rfl ?_
      refine K.skip ?_
      refine KE.next ?_
      refine K.seq ?_
      refine K.drawn [] [(0, 0), (1, 0), (2, 0), (3, 0), (4, 0), (5, 0), (6, 2), (7, 2)] (by kernel_rfl) (by kernel_rfl) (by kernel_rfl) (by kernel_rfl) (by kernel_rfl) (by kernel_rfl) Part.nil ?_
      refine KD.v0 rfl rfl (Val.fieldAddr0 (k := 0) rfl rfl) ?_
      refine KD.v0 rfl rfl (Val.loadP rfl rfl (Sees.cell byTake rfl)) ?_
      refine KD.v0 rfl rfl (Val.indexA rfl rfl rfl rfl (by omega)) ?_
      refine KD.v0 rfl rfl (Val.loadP rfl rfl (Sees.cell byTake rfl)) ?_
      refine KD.v0 rfl rfl (Val.move rfl) ?_
      refine KD.v0 rfl rfl (Val.loadA rfl rfl rfl bySeeN) ?_
      refine KD.callc rfl rfl rfl byEvL fun T hT => ?_
      refine (CallV.part (CallV.fn (alloc_K (op := ⟨1, hh, oa, ob, ov, oto⟩) ok hC hm hmi hS.cl (fun i x hx => by have := (hS.tx i x hx).sz; omega) hS.quota.2)) byPart).mono ?_
      rintro _ _ ⟨sm', ok', hb', hst', rfl, rfl⟩
      unfold sdV
      refine hT _ _ byPart ?_; clear hT; clear T
      (refine KD.eN rfl (Eff.storeAL rfl rfl rfl byTake byLay byOnes) ?_; rintro _ _ rfl; refine ⟨byPart, ?_⟩)
      refine KD.nil ?_
      refine KE.next ?_
      refine K.ret ?_
      exact KE.fin byMarks rfl byRes byPart ⟨sm', ok', hb', do_stay hp hst', by rw [hp]; rfl, rfl⟩
  cases hn : sm.st.Hd hh with
  | none =>
    have hnm : namesP sm.st hh = (0, 130) := by unfold namesP; rw [hn]
    have hp : stepP sm.st ⟨code, hh, oa, ob, ov, oto⟩ = (sm.st, ⟨130, 0, 0⟩, false) := by unfold stepP; rw [if_neg hb, if_neg h1]; simp only [hn]
    have hD : DoR sm.st ⟨code, hh, oa, ob, ov, oto⟩ sm.st ⟨130, 0, 0⟩ := by unfold DoR; rw [hp]; exact ⟨rfl, rfl⟩
    rcases hcs with rfl | rfl | rfl | rfl | rfl | rfl | rfl
    · exact absurd rfl h1
    · (refine KL.e rfl (Eff.alloc rfl) ?_; rintro _ _ ⟨b5, rfl, rfl⟩)
      (refine KL.eN (Eff.storeAL rfl rfl rfl byTake byLay byOnes) ?_; rintro _ _ rfl)
      refine KL.nil ?_
      refine KE.next ?_
      refine K.seq ?_
      refine K.block ?_
      refine K.seq ?_
      refine K.region ?_
      (refine KL.v rfl (Val.move rfl) ?_)
      (refine KL.callc rfl rfl byEvL fun T hT => ?_)
      (refine (CallV.fn (noneR_K (bt := some _) (Sees.cell byTake rfl))).mono ?_; rintro _ _ ⟨rfl, rfl⟩)
      (refine hT _ _ ?_; clear hT; clear T)
      (refine KL.v rfl (Val.assign rfl) ?_)
      refine KL.nil ?_
      refine KE.next ?_
      refine K.condF rfl ?_
      refine K.seq ?_
      refine K.region ?_
      (refine KL.v rfl (Val.fieldAddr0 (k := 0) rfl rfl) ?_)
      (refine KL.v rfl (Val.loadP rfl rfl (Sees.cell byTake rfl)) ?_)
      (refine KL.v rfl (Val.conv rfl rfl rfl (by simp only [Go.Proofs.YthamkgghnjenhaaGreat.lo, Go.Proofs.YthamkgghnjenhaaGreat.hi]; omega)) ?_)
      (refine KL.v rfl (Val.isF (Val.geq rfl rfl) byLt) ?_)
      (refine KL.v rfl (Val.move rfl) ?_)
      (refine KL.yes rfl rfl ?_; refine KL.v rfl (Val.fieldAddr0 (k := 0) rfl rfl) ?_)
      (refine KL.yes rfl rfl ?_; refine KL.v rfl (Val.loadP rfl rfl (Sees.cell byTake rfl)) ?_)
      (refine KL.yes rfl rfl ?_; refine KL.v rfl (Val.indexA rfl rfl rfl rfl (by omega)) ?_)
      (refine KL.yes rfl rfl ?_; refine KL.v rfl (Val.loadP rfl rfl (Sees.cell byTake rfl)) ?_)
      (refine KL.yes rfl rfl ?_; refine KL.v rfl (Val.eqlFF rfl rfl rfl) ?_)
      (refine KL.v rfl (Val.pickF rfl rfl rfl) ?_)
      (refine KL.v rfl (Val.assign rfl) ?_)
      refine KL.nil ?_
      refine KE.next ?_
      refine K.condF rfl ?_
      refine K.skip ?_
      refine KE.blkN ?_
      refine KE.next ?_
      refine K.seq ?_
      refine K.seq ?_
      refine K.region ?_
      (refine KL.v rfl (Val.move rfl) ?_)
      (refine KL.v rfl (Val.fieldAddr0 (k := 1) rfl rfl) ?_)
      (refine KL.v rfl (Val.loadP rfl rfl (Sees.cell byTake rfl)) ?_)
      (refine KL.callc rfl rfl byEvL fun T hT => ?_)
      refine (CallV.part (CallV.fn (NamesS_K (h := hh))) byPart).mono ?_
      rintro _ _ ⟨rfl, rfl⟩
      refine hT _ _ ?_; clear hT; clear T
      rw [hnm]
      (refine KL.v rfl (Val.move rfl) ?_)
      (refine KL.v rfl (Val.extract rfl rfl) ?_)
      (refine KL.v rfl (Val.extract rfl rfl) ?_)
      (refine KL.v rfl (Val.assign rfl) ?_)
      (refine KL.v rfl (Val.assign rfl) ?_)
      refine KL.nil ?_
      refine KE.next ?_
      refine K.seq ?_
      refine K.region ?_
      (refine KL.v rfl (Val.move rfl) ?_)
      (refine KL.v rfl (Val.isT (Val.neq rfl rfl) byLt) ?_)
      (refine KL.v rfl (Val.move rfl) ?_)
      (refine KL.yes rfl rfl ?_; refine KL.v rfl (Val.fieldAddr0 (k := 0) rfl rfl) ?_)
      (refine KL.yes rfl rfl ?_; refine KL.v rfl (Val.loadP rfl rfl (Sees.cell byTake rfl)) ?_)
      (refine KL.yes rfl rfl ?_; refine KL.v rfl (Val.isT (Val.neq rfl rfl) byLt) ?_)
      (refine KL.v rfl (Val.pickT rfl rfl rfl) ?_)
      refine KL.nil ?_
      refine KE.next ?_
      refine K.condT rfl ?_
      refine K.seq ?_
      refine K.region ?_
      (refine KL.v rfl (Val.move rfl) ?_)
      (refine KL.v rfl (Val.build byParts rfl rfl byFill) ?_)
      (refine KL.eN (Eff.storeAL rfl rfl rfl byTake byLay byOnes) ?_; rintro _ _ rfl)
      refine KL.nil ?_
      refine KE.next ?_
      refine K.ret ?_
      refine KE.passR ?_
      exact KE.fin byMarks rfl byRes byPart ⟨sm, ok, rfl, by rw [hp]; exact hD, by rw [hp]; rfl, rfl⟩
    · (refine KL.e rfl (Eff.alloc rfl) ?_; rintro _ _ ⟨b5, rfl, rfl⟩)
      (refine KL.eN (Eff.storeAL rfl rfl rfl byTake byLay byOnes) ?_; rintro _ _ rfl)
      refine KL.nil ?_
      refine KE.next ?_
      refine K.seq ?_
      refine K.block ?_
      refine K.seq ?_
      refine K.region ?_
      (refine KL.v rfl (Val.move rfl) ?_)
      (refine KL.callc rfl rfl byEvL fun T hT => ?_)
      (refine (CallV.fn (noneR_K (bt := some _) (Sees.cell byTake rfl))).mono ?_; rintro _ _ ⟨rfl, rfl⟩)
      (refine hT _ _ ?_; clear hT; clear T)
      (refine KL.v rfl (Val.assign rfl) ?_)
      refine KL.nil ?_
      refine KE.next ?_
      refine K.condF rfl ?_
      refine K.seq ?_
      refine K.region ?_
      (refine KL.v rfl (Val.fieldAddr0 (k := 0) rfl rfl) ?_)
      (refine KL.v rfl (Val.loadP rfl rfl (Sees.cell byTake rfl)) ?_)
      (refine KL.v rfl (Val.conv rfl rfl rfl (by simp only [Go.Proofs.YthamkgghnjenhaaGreat.lo, Go.Proofs.YthamkgghnjenhaaGreat.hi]; omega)) ?_)
      (refine KL.v rfl (Val.isF (Val.geq rfl rfl) byLt) ?_)
      (refine KL.v rfl (Val.move rfl) ?_)
      (refine KL.yes rfl rfl ?_; refine KL.v rfl (Val.fieldAddr0 (k := 0) rfl rfl) ?_)
      (refine KL.yes rfl rfl ?_; refine KL.v rfl (Val.loadP rfl rfl (Sees.cell byTake rfl)) ?_)
      (refine KL.yes rfl rfl ?_; refine KL.v rfl (Val.indexA rfl rfl rfl rfl (by omega)) ?_)
      (refine KL.yes rfl rfl ?_; refine KL.v rfl (Val.loadP rfl rfl (Sees.cell byTake rfl)) ?_)
      (refine KL.yes rfl rfl ?_; refine KL.v rfl (Val.eqlFF rfl rfl rfl) ?_)
      (refine KL.v rfl (Val.pickF rfl rfl rfl) ?_)
      (refine KL.v rfl (Val.assign rfl) ?_)
      refine KL.nil ?_
      refine KE.next ?_
      refine K.condF rfl ?_
      refine K.skip ?_
      refine KE.blkN ?_
      refine KE.next ?_
      refine K.seq ?_
      refine K.seq ?_
      refine K.region ?_
      (refine KL.v rfl (Val.move rfl) ?_)
      (refine KL.v rfl (Val.fieldAddr0 (k := 1) rfl rfl) ?_)
      (refine KL.v rfl (Val.loadP rfl rfl (Sees.cell byTake rfl)) ?_)
      (refine KL.callc rfl rfl byEvL fun T hT => ?_)
      refine (CallV.part (CallV.fn (NamesS_K (h := hh))) byPart).mono ?_
      rintro _ _ ⟨rfl, rfl⟩
      refine hT _ _ ?_; clear hT; clear T
      rw [hnm]
      (refine KL.v rfl (Val.move rfl) ?_)
      (refine KL.v rfl (Val.extract rfl rfl) ?_)
      (refine KL.v rfl (Val.extract rfl rfl) ?_)
      (refine KL.v rfl (Val.assign rfl) ?_)
      (refine KL.v rfl (Val.assign rfl) ?_)
      refine KL.nil ?_
      refine KE.next ?_
      refine K.seq ?_
      refine K.region ?_
      (refine KL.v rfl (Val.move rfl) ?_)
      (refine KL.v rfl (Val.isT (Val.neq rfl rfl) byLt) ?_)
      (refine KL.v rfl (Val.move rfl) ?_)
      (refine KL.yes rfl rfl ?_; refine KL.v rfl (Val.fieldAddr0 (k := 0) rfl rfl) ?_)
      (refine KL.yes rfl rfl ?_; refine KL.v rfl (Val.loadP rfl rfl (Sees.cell byTake rfl)) ?_)
      (refine KL.yes rfl rfl ?_; refine KL.v rfl (Val.isT (Val.neq rfl rfl) byLt) ?_)
      (refine KL.v rfl (Val.pickT rfl rfl rfl) ?_)
      refine KL.nil ?_
      refine KE.next ?_
      refine K.condT rfl ?_
      refine K.seq ?_
      refine K.region ?_
      (refine KL.v rfl (Val.move rfl) ?_)
      (refine KL.v rfl (Val.build byParts rfl rfl byFill) ?_)
      (refine KL.eN (Eff.storeAL rfl rfl rfl byTake byLay byOnes) ?_; rintro _ _ rfl)
      refine KL.nil ?_
      refine KE.next ?_
      refine K.ret ?_
      refine KE.passR ?_
      exact KE.fin byMarks rfl byRes byPart ⟨sm, ok, rfl, by rw [hp]; exact hD, by rw [hp]; rfl, rfl⟩
    · (refine KL.e rfl (Eff.alloc rfl) ?_; rintro _ _ ⟨b5, rfl, rfl⟩)
      (refine KL.eN (Eff.storeAL rfl rfl rfl byTake byLay byOnes) ?_; rintro _ _ rfl)
      refine KL.nil ?_
      refine KE.next ?_
      refine K.seq ?_
      refine K.block ?_
      refine K.seq ?_
      refine K.region ?_
      (refine KL.v rfl (Val.move rfl) ?_)
      (refine KL.callc rfl rfl byEvL fun T hT => ?_)
      (refine (CallV.fn (noneR_K (bt := some _) (Sees.cell byTake rfl))).mono ?_; rintro _ _ ⟨rfl, rfl⟩)
      (refine hT _ _ ?_; clear hT; clear T)
      (refine KL.v rfl (Val.assign rfl) ?_)
      refine KL.nil ?_
      refine KE.next ?_
      refine K.condF rfl ?_
      refine K.seq ?_
      refine K.region ?_
      (refine KL.v rfl (Val.fieldAddr0 (k := 0) rfl rfl) ?_)
      (refine KL.v rfl (Val.loadP rfl rfl (Sees.cell byTake rfl)) ?_)
      (refine KL.v rfl (Val.conv rfl rfl rfl (by simp only [Go.Proofs.YthamkgghnjenhaaGreat.lo, Go.Proofs.YthamkgghnjenhaaGreat.hi]; omega)) ?_)
      (refine KL.v rfl (Val.isF (Val.geq rfl rfl) byLt) ?_)
      (refine KL.v rfl (Val.move rfl) ?_)
      (refine KL.yes rfl rfl ?_; refine KL.v rfl (Val.fieldAddr0 (k := 0) rfl rfl) ?_)
      (refine KL.yes rfl rfl ?_; refine KL.v rfl (Val.loadP rfl rfl (Sees.cell byTake rfl)) ?_)
      (refine KL.yes rfl rfl ?_; refine KL.v rfl (Val.indexA rfl rfl rfl rfl (by omega)) ?_)
      (refine KL.yes rfl rfl ?_; refine KL.v rfl (Val.loadP rfl rfl (Sees.cell byTake rfl)) ?_)
      (refine KL.yes rfl rfl ?_; refine KL.v rfl (Val.eqlFF rfl rfl rfl) ?_)
      (refine KL.v rfl (Val.pickF rfl rfl rfl) ?_)
      (refine KL.v rfl (Val.assign rfl) ?_)
      refine KL.nil ?_
      refine KE.next ?_
      refine K.condF rfl ?_
      refine K.skip ?_
      refine KE.blkN ?_
      refine KE.next ?_
      refine K.seq ?_
      refine K.seq ?_
      refine K.region ?_
      (refine KL.v rfl (Val.move rfl) ?_)
      (refine KL.v rfl (Val.fieldAddr0 (k := 1) rfl rfl) ?_)
      (refine KL.v rfl (Val.loadP rfl rfl (Sees.cell byTake rfl)) ?_)
      (refine KL.callc rfl rfl byEvL fun T hT => ?_)
      refine (CallV.part (CallV.fn (NamesS_K (h := hh))) byPart).mono ?_
      rintro _ _ ⟨rfl, rfl⟩
      refine hT _ _ ?_; clear hT; clear T
      rw [hnm]
      (refine KL.v rfl (Val.move rfl) ?_)
      (refine KL.v rfl (Val.extract rfl rfl) ?_)
      (refine KL.v rfl (Val.extract rfl rfl) ?_)
      (refine KL.v rfl (Val.assign rfl) ?_)
      (refine KL.v rfl (Val.assign rfl) ?_)
      refine KL.nil ?_
      refine KE.next ?_
      refine K.seq ?_
      refine K.region ?_
      (refine KL.v rfl (Val.move rfl) ?_)
      (refine KL.v rfl (Val.isT (Val.neq rfl rfl) byLt) ?_)
      (refine KL.v rfl (Val.move rfl) ?_)
      (refine KL.yes rfl rfl ?_; refine KL.v rfl (Val.fieldAddr0 (k := 0) rfl rfl) ?_)
      (refine KL.yes rfl rfl ?_; refine KL.v rfl (Val.loadP rfl rfl (Sees.cell byTake rfl)) ?_)
      (refine KL.yes rfl rfl ?_; refine KL.v rfl (Val.isT (Val.neq rfl rfl) byLt) ?_)
      (refine KL.v rfl (Val.pickT rfl rfl rfl) ?_)
      refine KL.nil ?_
      refine KE.next ?_
      refine K.condT rfl ?_
      refine K.seq ?_
      refine K.region ?_
      (refine KL.v rfl (Val.move rfl) ?_)
      (refine KL.v rfl (Val.build byParts rfl rfl byFill) ?_)
      (refine KL.eN (Eff.storeAL rfl rfl rfl byTake byLay byOnes) ?_; rintro _ _ rfl)
      refine KL.nil ?_
      refine KE.next ?_
      refine K.ret ?_
      refine KE.passR ?_
      exact KE.fin byMarks rfl byRes byPart ⟨sm, ok, rfl, by rw [hp]; exact hD, by rw [hp]; rfl, rfl⟩
    · (refine KL.e rfl (Eff.alloc rfl) ?_; rintro _ _ ⟨b5, rfl, rfl⟩)
      (refine KL.eN (Eff.storeAL rfl rfl rfl byTake byLay byOnes) ?_; rintro _ _ rfl)
      refine KL.nil ?_
      refine KE.next ?_
      refine K.seq ?_
      refine K.block ?_
      refine K.seq ?_
      refine K.region ?_
      (refine KL.v rfl (Val.move rfl) ?_)
      (refine KL.callc rfl rfl byEvL fun T hT => ?_)
      (refine (CallV.fn (noneR_K (bt := some _) (Sees.cell byTake rfl))).mono ?_; rintro _ _ ⟨rfl, rfl⟩)
      (refine hT _ _ ?_; clear hT; clear T)
      (refine KL.v rfl (Val.assign rfl) ?_)
      refine KL.nil ?_
      refine KE.next ?_
      refine K.condF rfl ?_
      refine K.seq ?_
      refine K.region ?_
      (refine KL.v rfl (Val.fieldAddr0 (k := 0) rfl rfl) ?_)
      (refine KL.v rfl (Val.loadP rfl rfl (Sees.cell byTake rfl)) ?_)
      (refine KL.v rfl (Val.conv rfl rfl rfl (by simp only [Go.Proofs.YthamkgghnjenhaaGreat.lo, Go.Proofs.YthamkgghnjenhaaGreat.hi]; omega)) ?_)
      (refine KL.v rfl (Val.isF (Val.geq rfl rfl) byLt) ?_)
      (refine KL.v rfl (Val.move rfl) ?_)
      (refine KL.yes rfl rfl ?_; refine KL.v rfl (Val.fieldAddr0 (k := 0) rfl rfl) ?_)
      (refine KL.yes rfl rfl ?_; refine KL.v rfl (Val.loadP rfl rfl (Sees.cell byTake rfl)) ?_)
      (refine KL.yes rfl rfl ?_; refine KL.v rfl (Val.indexA rfl rfl rfl rfl (by omega)) ?_)
      (refine KL.yes rfl rfl ?_; refine KL.v rfl (Val.loadP rfl rfl (Sees.cell byTake rfl)) ?_)
      (refine KL.yes rfl rfl ?_; refine KL.v rfl (Val.eqlFF rfl rfl rfl) ?_)
      (refine KL.v rfl (Val.pickF rfl rfl rfl) ?_)
      (refine KL.v rfl (Val.assign rfl) ?_)
      refine KL.nil ?_
      refine KE.next ?_
      refine K.condF rfl ?_
      refine K.skip ?_
      refine KE.blkN ?_
      refine KE.next ?_
      refine K.seq ?_
      refine K.seq ?_
      refine K.region ?_
      (refine KL.v rfl (Val.move rfl) ?_)
      (refine KL.v rfl (Val.fieldAddr0 (k := 1) rfl rfl) ?_)
      (refine KL.v rfl (Val.loadP rfl rfl (Sees.cell byTake rfl)) ?_)
      (refine KL.callc rfl rfl byEvL fun T hT => ?_)
      refine (CallV.part (CallV.fn (NamesS_K (h := hh))) byPart).mono ?_
      rintro _ _ ⟨rfl, rfl⟩
      refine hT _ _ ?_; clear hT; clear T
      rw [hnm]
      (refine KL.v rfl (Val.move rfl) ?_)
      (refine KL.v rfl (Val.extract rfl rfl) ?_)
      (refine KL.v rfl (Val.extract rfl rfl) ?_)
      (refine KL.v rfl (Val.assign rfl) ?_)
      (refine KL.v rfl (Val.assign rfl) ?_)
      refine KL.nil ?_
      refine KE.next ?_
      refine K.seq ?_
      refine K.region ?_
      (refine KL.v rfl (Val.move rfl) ?_)
      (refine KL.v rfl (Val.isT (Val.neq rfl rfl) byLt) ?_)
      (refine KL.v rfl (Val.move rfl) ?_)
      (refine KL.yes rfl rfl ?_; refine KL.v rfl (Val.fieldAddr0 (k := 0) rfl rfl) ?_)
      (refine KL.yes rfl rfl ?_; refine KL.v rfl (Val.loadP rfl rfl (Sees.cell byTake rfl)) ?_)
      (refine KL.yes rfl rfl ?_; refine KL.v rfl (Val.isT (Val.neq rfl rfl) byLt) ?_)
      (refine KL.v rfl (Val.pickT rfl rfl rfl) ?_)
      refine KL.nil ?_
      refine KE.next ?_
      refine K.condT rfl ?_
      refine K.seq ?_
      refine K.region ?_
      (refine KL.v rfl (Val.move rfl) ?_)
      (refine KL.v rfl (Val.build byParts rfl rfl byFill) ?_)
      (refine KL.eN (Eff.storeAL rfl rfl rfl byTake byLay byOnes) ?_; rintro _ _ rfl)
      refine KL.nil ?_
      refine KE.next ?_
      refine K.ret ?_
      refine KE.passR ?_
      exact KE.fin byMarks rfl byRes byPart ⟨sm, ok, rfl, by rw [hp]; exact hD, by rw [hp]; rfl, rfl⟩
    · (refine KL.e rfl (Eff.alloc rfl) ?_; rintro _ _ ⟨b5, rfl, rfl⟩)
      (refine KL.eN (Eff.storeAL rfl rfl rfl byTake byLay byOnes) ?_; rintro _ _ rfl)
      refine KL.nil ?_
      refine KE.next ?_
      refine K.seq ?_
      refine K.block ?_
      refine K.seq ?_
      refine K.region ?_
      (refine KL.v rfl (Val.move rfl) ?_)
      (refine KL.callc rfl rfl byEvL fun T hT => ?_)
      (refine (CallV.fn (noneR_K (bt := some _) (Sees.cell byTake rfl))).mono ?_; rintro _ _ ⟨rfl, rfl⟩)
      (refine hT _ _ ?_; clear hT; clear T)
      (refine KL.v rfl (Val.assign rfl) ?_)
      refine KL.nil ?_
      refine KE.next ?_
      refine K.condF rfl ?_
      refine K.seq ?_
      refine K.region ?_
      (refine KL.v rfl (Val.fieldAddr0 (k := 0) rfl rfl) ?_)
      (refine KL.v rfl (Val.loadP rfl rfl (Sees.cell byTake rfl)) ?_)
      (refine KL.v rfl (Val.conv rfl rfl rfl (by simp only [Go.Proofs.YthamkgghnjenhaaGreat.lo, Go.Proofs.YthamkgghnjenhaaGreat.hi]; omega)) ?_)
      (refine KL.v rfl (Val.isF (Val.geq rfl rfl) byLt) ?_)
      (refine KL.v rfl (Val.move rfl) ?_)
      (refine KL.yes rfl rfl ?_; refine KL.v rfl (Val.fieldAddr0 (k := 0) rfl rfl) ?_)
      (refine KL.yes rfl rfl ?_; refine KL.v rfl (Val.loadP rfl rfl (Sees.cell byTake rfl)) ?_)
      (refine KL.yes rfl rfl ?_; refine KL.v rfl (Val.indexA rfl rfl rfl rfl (by omega)) ?_)
      (refine KL.yes rfl rfl ?_; refine KL.v rfl (Val.loadP rfl rfl (Sees.cell byTake rfl)) ?_)
      (refine KL.yes rfl rfl ?_; refine KL.v rfl (Val.eqlFF rfl rfl rfl) ?_)
      (refine KL.v rfl (Val.pickF rfl rfl rfl) ?_)
      (refine KL.v rfl (Val.assign rfl) ?_)
      refine KL.nil ?_
      refine KE.next ?_
      refine K.condF rfl ?_
      refine K.skip ?_
      refine KE.blkN ?_
      refine KE.next ?_
      refine K.seq ?_
      refine K.seq ?_
      refine K.region ?_
      (refine KL.v rfl (Val.move rfl) ?_)
      (refine KL.v rfl (Val.fieldAddr0 (k := 1) rfl rfl) ?_)
      (refine KL.v rfl (Val.loadP rfl rfl (Sees.cell byTake rfl)) ?_)
      (refine KL.callc rfl rfl byEvL fun T hT => ?_)
      refine (CallV.part (CallV.fn (NamesS_K (h := hh))) byPart).mono ?_
      rintro _ _ ⟨rfl, rfl⟩
      refine hT _ _ ?_; clear hT; clear T
      rw [hnm]
      (refine KL.v rfl (Val.move rfl) ?_)
      (refine KL.v rfl (Val.extract rfl rfl) ?_)
      (refine KL.v rfl (Val.extract rfl rfl) ?_)
      (refine KL.v rfl (Val.assign rfl) ?_)
      (refine KL.v rfl (Val.assign rfl) ?_)
      refine KL.nil ?_
      refine KE.next ?_
      refine K.seq ?_
      refine K.region ?_
      (refine KL.v rfl (Val.move rfl) ?_)
      (refine KL.v rfl (Val.isT (Val.neq rfl rfl) byLt) ?_)
      (refine KL.v rfl (Val.move rfl) ?_)
      (refine KL.yes rfl rfl ?_; refine KL.v rfl (Val.fieldAddr0 (k := 0) rfl rfl) ?_)
      (refine KL.yes rfl rfl ?_; refine KL.v rfl (Val.loadP rfl rfl (Sees.cell byTake rfl)) ?_)
      (refine KL.yes rfl rfl ?_; refine KL.v rfl (Val.isT (Val.neq rfl rfl) byLt) ?_)
      (refine KL.v rfl (Val.pickT rfl rfl rfl) ?_)
      refine KL.nil ?_
      refine KE.next ?_
      refine K.condT rfl ?_
      refine K.seq ?_
      refine K.region ?_
      (refine KL.v rfl (Val.move rfl) ?_)
      (refine KL.v rfl (Val.build byParts rfl rfl byFill) ?_)
      (refine KL.eN (Eff.storeAL rfl rfl rfl byTake byLay byOnes) ?_; rintro _ _ rfl)
      refine KL.nil ?_
      refine KE.next ?_
      refine K.ret ?_
      refine KE.passR ?_
      exact KE.fin byMarks rfl byRes byPart ⟨sm, ok, rfl, by rw [hp]; exact hD, by rw [hp]; rfl, rfl⟩
    · (refine KL.e rfl (Eff.alloc rfl) ?_; rintro _ _ ⟨b5, rfl, rfl⟩)
      (refine KL.eN (Eff.storeAL rfl rfl rfl byTake byLay byOnes) ?_; rintro _ _ rfl)
      refine KL.nil ?_
      refine KE.next ?_
      refine K.seq ?_
      refine K.block ?_
      refine K.seq ?_
      refine K.region ?_
      (refine KL.v rfl (Val.move rfl) ?_)
      (refine KL.callc rfl rfl byEvL fun T hT => ?_)
      (refine (CallV.fn (noneR_K (bt := some _) (Sees.cell byTake rfl))).mono ?_; rintro _ _ ⟨rfl, rfl⟩)
      (refine hT _ _ ?_; clear hT; clear T)
      (refine KL.v rfl (Val.assign rfl) ?_)
      refine KL.nil ?_
      refine KE.next ?_
      refine K.condF rfl ?_
      refine K.seq ?_
      refine K.region ?_
      (refine KL.v rfl (Val.fieldAddr0 (k := 0) rfl rfl) ?_)
      (refine KL.v rfl (Val.loadP rfl rfl (Sees.cell byTake rfl)) ?_)
      (refine KL.v rfl (Val.conv rfl rfl rfl (by simp only [Go.Proofs.YthamkgghnjenhaaGreat.lo, Go.Proofs.YthamkgghnjenhaaGreat.hi]; omega)) ?_)
      (refine KL.v rfl (Val.isF (Val.geq rfl rfl) byLt) ?_)
      (refine KL.v rfl (Val.move rfl) ?_)
      (refine KL.yes rfl rfl ?_; refine KL.v rfl (Val.fieldAddr0 (k := 0) rfl rfl) ?_)
      (refine KL.yes rfl rfl ?_; refine KL.v rfl (Val.loadP rfl rfl (Sees.cell byTake rfl)) ?_)
      (refine KL.yes rfl rfl ?_; refine KL.v rfl (Val.indexA rfl rfl rfl rfl (by omega)) ?_)
      (refine KL.yes rfl rfl ?_; refine KL.v rfl (Val.loadP rfl rfl (Sees.cell byTake rfl)) ?_)
      (refine KL.yes rfl rfl ?_; refine KL.v rfl (Val.eqlFF rfl rfl rfl) ?_)
      (refine KL.v rfl (Val.pickF rfl rfl rfl) ?_)
      (refine KL.v rfl (Val.assign rfl) ?_)
      refine KL.nil ?_
      refine KE.next ?_
      refine K.condF rfl ?_
      refine K.skip ?_
      refine KE.blkN ?_
      refine KE.next ?_
      refine K.seq ?_
      refine K.seq ?_
      refine K.region ?_
      (refine KL.v rfl (Val.move rfl) ?_)
      (refine KL.v rfl (Val.fieldAddr0 (k := 1) rfl rfl) ?_)
      (refine KL.v rfl (Val.loadP rfl rfl (Sees.cell byTake rfl)) ?_)
      (refine KL.callc rfl rfl byEvL fun T hT => ?_)
      refine (CallV.part (CallV.fn (NamesS_K (h := hh))) byPart).mono ?_
      rintro _ _ ⟨rfl, rfl⟩
      refine hT _ _ ?_; clear hT; clear T
      rw [hnm]
      (refine KL.v rfl (Val.move rfl) ?_)
      (refine KL.v rfl (Val.extract rfl rfl) ?_)
      (refine KL.v rfl (Val.extract rfl rfl) ?_)
      (refine KL.v rfl (Val.assign rfl) ?_)
      (refine KL.v rfl (Val.assign rfl) ?_)
      refine KL.nil ?_
      refine KE.next ?_
      refine K.seq ?_
      refine K.region ?_
      (refine KL.v rfl (Val.move rfl) ?_)
      (refine KL.v rfl (Val.isT (Val.neq rfl rfl) byLt) ?_)
      (refine KL.v rfl (Val.move rfl) ?_)
      (refine KL.yes rfl rfl ?_; refine KL.v rfl (Val.fieldAddr0 (k := 0) rfl rfl) ?_)
      (refine KL.yes rfl rfl ?_; refine KL.v rfl (Val.loadP rfl rfl (Sees.cell byTake rfl)) ?_)
      (refine KL.yes rfl rfl ?_; refine KL.v rfl (Val.isT (Val.neq rfl rfl) byLt) ?_)
      (refine KL.v rfl (Val.pickT rfl rfl rfl) ?_)
      refine KL.nil ?_
      refine KE.next ?_
      refine K.condT rfl ?_
      refine K.seq ?_
      refine K.region ?_
      (refine KL.v rfl (Val.move rfl) ?_)
      (refine KL.v rfl (Val.build byParts rfl rfl byFill) ?_)
      (refine KL.eN (Eff.storeAL rfl rfl rfl byTake byLay byOnes) ?_; rintro _ _ rfl)
      refine KL.nil ?_
      refine KE.next ?_
      refine K.ret ?_
      refine KE.passR ?_
      exact KE.fin byMarks rfl byRes byPart ⟨sm, ok, rfl, by rw [hp]; exact hD, by rw [hp]; rfl, rfl⟩
  | some id =>
    have hnm : namesP sm.st hh = (id, 0) := by unfold namesP; rw [hn]
    obtain ⟨x, hx⟩ := Option.isSome_iff_exists.1 (hC.hr hh id hn)
    rcases hcs with rfl | rfl | rfl | rfl | rfl | rfl | rfl
    · exact absurd rfl h1
    · have hp : stepP sm.st ⟨2, hh, oa, ob, ov, oto⟩ = stay (readP sm.st x ⟨2, hh, oa, ob, ov, oto⟩) := by unfold stepP; simp only [hn, hx]; rfl
      (refine KL.e rfl (Eff.alloc rfl) ?_; rintro _ _ ⟨b5, rfl, rfl⟩)
      (refine KL.eN (Eff.storeAL rfl rfl rfl byTake byLay byOnes) ?_; rintro _ _ rfl)
      refine KL.nil ?_
      refine KE.next ?_
      refine K.seq ?_
      refine K.block ?_
      refine K.seq ?_
      refine K.region ?_
      (refine KL.v rfl (Val.move rfl) ?_)
      (refine KL.callc rfl rfl byEvL fun T hT => ?_)
      (refine (CallV.fn (noneR_K (bt := some _) (Sees.cell byTake rfl))).mono ?_; rintro _ _ ⟨rfl, rfl⟩)
      (refine hT _ _ ?_; clear hT; clear T)
      (refine KL.v rfl (Val.assign rfl) ?_)
      refine KL.nil ?_
      refine KE.next ?_
      refine K.condF rfl ?_
      refine K.seq ?_
      refine K.region ?_
      (refine KL.v rfl (Val.fieldAddr0 (k := 0) rfl rfl) ?_)
      (refine KL.v rfl (Val.loadP rfl rfl (Sees.cell byTake rfl)) ?_)
      (refine KL.v rfl (Val.conv rfl rfl rfl (by simp only [Go.Proofs.YthamkgghnjenhaaGreat.lo, Go.Proofs.YthamkgghnjenhaaGreat.hi]; omega)) ?_)
      (refine KL.v rfl (Val.isF (Val.geq rfl rfl) byLt) ?_)
      (refine KL.v rfl (Val.move rfl) ?_)
      (refine KL.yes rfl rfl ?_; refine KL.v rfl (Val.fieldAddr0 (k := 0) rfl rfl) ?_)
      (refine KL.yes rfl rfl ?_; refine KL.v rfl (Val.loadP rfl rfl (Sees.cell byTake rfl)) ?_)
      (refine KL.yes rfl rfl ?_; refine KL.v rfl (Val.indexA rfl rfl rfl rfl (by omega)) ?_)
      (refine KL.yes rfl rfl ?_; refine KL.v rfl (Val.loadP rfl rfl (Sees.cell byTake rfl)) ?_)
      (refine KL.yes rfl rfl ?_; refine KL.v rfl (Val.eqlFF rfl rfl rfl) ?_)
      (refine KL.v rfl (Val.pickF rfl rfl rfl) ?_)
      (refine KL.v rfl (Val.assign rfl) ?_)
      refine KL.nil ?_
      refine KE.next ?_
      refine K.condF rfl ?_
      refine K.skip ?_
      refine KE.blkN ?_
      refine KE.next ?_
      refine K.seq ?_
      refine K.seq ?_
      refine K.region ?_
      (refine KL.v rfl (Val.move rfl) ?_)
      (refine KL.v rfl (Val.fieldAddr0 (k := 1) rfl rfl) ?_)
      (refine KL.v rfl (Val.loadP rfl rfl (Sees.cell byTake rfl)) ?_)
      (refine KL.callc rfl rfl byEvL fun T hT => ?_)
      refine (CallV.part (CallV.fn (NamesS_K (h := hh))) byPart).mono ?_
      rintro _ _ ⟨rfl, rfl⟩
      refine hT _ _ ?_; clear hT; clear T
      rw [hnm]
      (refine KL.v rfl (Val.move rfl) ?_)
      (refine KL.v rfl (Val.extract rfl rfl) ?_)
      (refine KL.v rfl (Val.extract rfl rfl) ?_)
      (refine KL.v rfl (Val.assign rfl) ?_)
      (refine KL.v rfl (Val.assign rfl) ?_)
      refine KL.nil ?_
      refine KE.next ?_
      refine K.seq ?_
      refine K.region ?_
      (refine KL.v rfl (Val.move rfl) ?_)
      (refine KL.v rfl (Val.isF (Val.neq rfl rfl) byLt) ?_)
      (refine KL.v rfl (Val.move rfl) ?_)
      refine KL.skipG rfl rfl rfl ?_
      refine KL.skipG rfl rfl rfl ?_
      refine KL.skipG rfl rfl rfl ?_
      (refine KL.v rfl (Val.pickF rfl rfl rfl) ?_)
      refine KL.nil ?_
      refine KE.next ?_
      refine K.condF rfl ?_
      refine K.skip ?_
      refine KE.next ?_
      refine K.seq ?_
      refine K.drawn [] [(0, 0), (1, 0), (2, 0), (3, 0), (4, 0), (5, 0), (6, 2), (7, 2)] (by kernel_rfl) (by kernel_rfl) (by kernel_rfl) (by kernel_rfl) (by kernel_rfl) (by kernel_rfl) Part.nil ?_
      refine KD.v0 rfl rfl (Val.fieldAddr0 (k := 0) rfl rfl) ?_
      refine KD.v0 rfl rfl (Val.loadP rfl rfl (Sees.cell byTake rfl)) ?_
      refine KD.v0 rfl rfl (Val.indexA rfl rfl rfl rfl (by omega)) ?_
      refine KD.v0 rfl rfl (Val.loadP rfl rfl (Sees.cell byTake rfl)) ?_
      refine KD.v0 rfl rfl (Val.move rfl) ?_
      refine KD.v0 rfl rfl (Val.loadA rfl rfl rfl bySeeN) ?_
      refine KD.callc rfl rfl rfl byEvL fun T hT => ?_
      refine (CallV.part (CallV.fn (read_K (op := ⟨2, hh, oa, ob, ov, oto⟩) ok hC.nums hmi hn hx (hrl _ _ hx))) byPart).mono ?_
      rintro _ _ ⟨sm', ok', hb', hst', rfl, rfl⟩
      unfold sdV
      refine hT _ _ byPart ?_; clear hT; clear T
      (refine KD.eN rfl (Eff.storeAL rfl rfl rfl byTake byLay byOnes) ?_; rintro _ _ rfl; refine ⟨byPart, ?_⟩)
      refine KD.nil ?_
      refine KE.next ?_
      refine K.ret ?_
      exact KE.fin byMarks rfl byRes byPart ⟨sm', ok', hb', do_stay hp hst', by rw [hp]; rfl, rfl⟩
    · have hp : stepP sm.st ⟨3, hh, oa, ob, ov, oto⟩ = writeP sm.st id x ⟨3, hh, oa, ob, ov, oto⟩ := by unfold stepP; simp only [hn, hx]; rfl
      (refine KL.e rfl (Eff.alloc rfl) ?_; rintro _ _ ⟨b5, rfl, rfl⟩)
      (refine KL.eN (Eff.storeAL rfl rfl rfl byTake byLay byOnes) ?_; rintro _ _ rfl)
      refine KL.nil ?_
      refine KE.next ?_
      refine K.seq ?_
      refine K.block ?_
      refine K.seq ?_
      refine K.region ?_
      (refine KL.v rfl (Val.move rfl) ?_)
      (refine KL.callc rfl rfl byEvL fun T hT => ?_)
      (refine (CallV.fn (noneR_K (bt := some _) (Sees.cell byTake rfl))).mono ?_; rintro _ _ ⟨rfl, rfl⟩)
      (refine hT _ _ ?_; clear hT; clear T)
      (refine KL.v rfl (Val.assign rfl) ?_)
      refine KL.nil ?_
      refine KE.next ?_
      refine K.condF rfl ?_
      refine K.seq ?_
      refine K.region ?_
      (refine KL.v rfl (Val.fieldAddr0 (k := 0) rfl rfl) ?_)
      (refine KL.v rfl (Val.loadP rfl rfl (Sees.cell byTake rfl)) ?_)
      (refine KL.v rfl (Val.conv rfl rfl rfl (by simp only [Go.Proofs.YthamkgghnjenhaaGreat.lo, Go.Proofs.YthamkgghnjenhaaGreat.hi]; omega)) ?_)
      (refine KL.v rfl (Val.isF (Val.geq rfl rfl) byLt) ?_)
      (refine KL.v rfl (Val.move rfl) ?_)
      (refine KL.yes rfl rfl ?_; refine KL.v rfl (Val.fieldAddr0 (k := 0) rfl rfl) ?_)
      (refine KL.yes rfl rfl ?_; refine KL.v rfl (Val.loadP rfl rfl (Sees.cell byTake rfl)) ?_)
      (refine KL.yes rfl rfl ?_; refine KL.v rfl (Val.indexA rfl rfl rfl rfl (by omega)) ?_)
      (refine KL.yes rfl rfl ?_; refine KL.v rfl (Val.loadP rfl rfl (Sees.cell byTake rfl)) ?_)
      (refine KL.yes rfl rfl ?_; refine KL.v rfl (Val.eqlFF rfl rfl rfl) ?_)
      (refine KL.v rfl (Val.pickF rfl rfl rfl) ?_)
      (refine KL.v rfl (Val.assign rfl) ?_)
      refine KL.nil ?_
      refine KE.next ?_
      refine K.condF rfl ?_
      refine K.skip ?_
      refine KE.blkN ?_
      refine KE.next ?_
      refine K.seq ?_
      refine K.seq ?_
      refine K.region ?_
      (refine KL.v rfl (Val.move rfl) ?_)
      (refine KL.v rfl (Val.fieldAddr0 (k := 1) rfl rfl) ?_)
      (refine KL.v rfl (Val.loadP rfl rfl (Sees.cell byTake rfl)) ?_)
      (refine KL.callc rfl rfl byEvL fun T hT => ?_)
      refine (CallV.part (CallV.fn (NamesS_K (h := hh))) byPart).mono ?_
      rintro _ _ ⟨rfl, rfl⟩
      refine hT _ _ ?_; clear hT; clear T
      rw [hnm]
      (refine KL.v rfl (Val.move rfl) ?_)
      (refine KL.v rfl (Val.extract rfl rfl) ?_)
      (refine KL.v rfl (Val.extract rfl rfl) ?_)
      (refine KL.v rfl (Val.assign rfl) ?_)
      (refine KL.v rfl (Val.assign rfl) ?_)
      refine KL.nil ?_
      refine KE.next ?_
      refine K.seq ?_
      refine K.region ?_
      (refine KL.v rfl (Val.move rfl) ?_)
      (refine KL.v rfl (Val.isF (Val.neq rfl rfl) byLt) ?_)
      (refine KL.v rfl (Val.move rfl) ?_)
      refine KL.skipG rfl rfl rfl ?_
      refine KL.skipG rfl rfl rfl ?_
      refine KL.skipG rfl rfl rfl ?_
      (refine KL.v rfl (Val.pickF rfl rfl rfl) ?_)
      refine KL.nil ?_
      refine KE.next ?_
      refine K.condF rfl ?_
      refine K.skip ?_
      refine KE.next ?_
      refine K.seq ?_
      refine K.drawn [] [(0, 0), (1, 0), (2, 0), (3, 0), (4, 0), (5, 0), (6, 2), (7, 2)] (by kernel_rfl) (by kernel_rfl) (by kernel_rfl) (by kernel_rfl) (by kernel_rfl) (by kernel_rfl) Part.nil ?_
      refine KD.v0 rfl rfl (Val.fieldAddr0 (k := 0) rfl rfl) ?_
      refine KD.v0 rfl rfl (Val.loadP rfl rfl (Sees.cell byTake rfl)) ?_
      refine KD.v0 rfl rfl (Val.indexA rfl rfl rfl rfl (by omega)) ?_
      refine KD.v0 rfl rfl (Val.loadP rfl rfl (Sees.cell byTake rfl)) ?_
      refine KD.v0 rfl rfl (Val.move rfl) ?_
      refine KD.v0 rfl rfl (Val.loadA rfl rfl rfl bySeeN) ?_
      refine KD.callc rfl rfl rfl byEvL fun T hT => ?_
      refine (CallV.part (CallV.fn (write_K (op := ⟨3, hh, oa, ob, ov, oto⟩) ok hC hm hmi hn hx hrl)) byPart).mono ?_
      rintro _ _ ⟨sm', ok', hb', hst', rfl, rfl⟩
      unfold sdV
      refine hT _ _ byPart ?_; clear hT; clear T
      (refine KD.eN rfl (Eff.storeAL rfl rfl rfl byTake byLay byOnes) ?_; rintro _ _ rfl; refine ⟨byPart, ?_⟩)
      refine KD.nil ?_
      refine KE.next ?_
      refine K.ret ?_
      exact KE.fin byMarks rfl byRes byPart ⟨sm', ok', hb', by unfold DoR; rw [hp]; exact ⟨rfl, hst'⟩, by rw [hp]; rfl, rfl⟩
    · have hp : stepP sm.st ⟨4, hh, oa, ob, ov, oto⟩ = stay (pinP sm.st id x 1) := by unfold stepP; simp only [hn, hx]; rfl
      (refine KL.e rfl (Eff.alloc rfl) ?_; rintro _ _ ⟨b5, rfl, rfl⟩)
      (refine KL.eN (Eff.storeAL rfl rfl rfl byTake byLay byOnes) ?_; rintro _ _ rfl)
      refine KL.nil ?_
      refine KE.next ?_
      refine K.seq ?_
      refine K.block ?_
      refine K.seq ?_
      refine K.region ?_
      (refine KL.v rfl (Val.move rfl) ?_)
      (refine KL.callc rfl rfl byEvL fun T hT => ?_)
      (refine (CallV.fn (noneR_K (bt := some _) (Sees.cell byTake rfl))).mono ?_; rintro _ _ ⟨rfl, rfl⟩)
      (refine hT _ _ ?_; clear hT; clear T)
      (refine KL.v rfl (Val.assign rfl) ?_)
      refine KL.nil ?_
      refine KE.next ?_
      refine K.condF rfl ?_
      refine K.seq ?_
      refine K.region ?_
      (refine KL.v rfl (Val.fieldAddr0 (k := 0) rfl rfl) ?_)
      (refine KL.v rfl (Val.loadP rfl rfl (Sees.cell byTake rfl)) ?_)
      (refine KL.v rfl (Val.conv rfl rfl rfl (by simp only [Go.Proofs.YthamkgghnjenhaaGreat.lo, Go.Proofs.YthamkgghnjenhaaGreat.hi]; omega)) ?_)
      (refine KL.v rfl (Val.isF (Val.geq rfl rfl) byLt) ?_)
      (refine KL.v rfl (Val.move rfl) ?_)
      (refine KL.yes rfl rfl ?_; refine KL.v rfl (Val.fieldAddr0 (k := 0) rfl rfl) ?_)
      (refine KL.yes rfl rfl ?_; refine KL.v rfl (Val.loadP rfl rfl (Sees.cell byTake rfl)) ?_)
      (refine KL.yes rfl rfl ?_; refine KL.v rfl (Val.indexA rfl rfl rfl rfl (by omega)) ?_)
      (refine KL.yes rfl rfl ?_; refine KL.v rfl (Val.loadP rfl rfl (Sees.cell byTake rfl)) ?_)
      (refine KL.yes rfl rfl ?_; refine KL.v rfl (Val.eqlFF rfl rfl rfl) ?_)
      (refine KL.v rfl (Val.pickF rfl rfl rfl) ?_)
      (refine KL.v rfl (Val.assign rfl) ?_)
      refine KL.nil ?_
      refine KE.next ?_
      refine K.condF rfl ?_
      refine K.skip ?_
      refine KE.blkN ?_
      refine KE.next ?_
      refine K.seq ?_
      refine K.seq ?_
      refine K.region ?_
      (refine KL.v rfl (Val.move rfl) ?_)
      (refine KL.v rfl (Val.fieldAddr0 (k := 1) rfl rfl) ?_)
      (refine KL.v rfl (Val.loadP rfl rfl (Sees.cell byTake rfl)) ?_)
      (refine KL.callc rfl rfl byEvL fun T hT => ?_)
      refine (CallV.part (CallV.fn (NamesS_K (h := hh))) byPart).mono ?_
      rintro _ _ ⟨rfl, rfl⟩
      refine hT _ _ ?_; clear hT; clear T
      rw [hnm]
      (refine KL.v rfl (Val.move rfl) ?_)
      (refine KL.v rfl (Val.extract rfl rfl) ?_)
      (refine KL.v rfl (Val.extract rfl rfl) ?_)
      (refine KL.v rfl (Val.assign rfl) ?_)
      (refine KL.v rfl (Val.assign rfl) ?_)
      refine KL.nil ?_
      refine KE.next ?_
      refine K.seq ?_
      refine K.region ?_
      (refine KL.v rfl (Val.move rfl) ?_)
      (refine KL.v rfl (Val.isF (Val.neq rfl rfl) byLt) ?_)
      (refine KL.v rfl (Val.move rfl) ?_)
      refine KL.skipG rfl rfl rfl ?_
      refine KL.skipG rfl rfl rfl ?_
      refine KL.skipG rfl rfl rfl ?_
      (refine KL.v rfl (Val.pickF rfl rfl rfl) ?_)
      refine KL.nil ?_
      refine KE.next ?_
      refine K.condF rfl ?_
      refine K.skip ?_
      refine KE.next ?_
      refine K.seq ?_
      refine K.drawn [] [(0, 0), (1, 0), (2, 0), (3, 0), (4, 0), (5, 0), (6, 2), (7, 2)] (by kernel_rfl) (by kernel_rfl) (by kernel_rfl) (by kernel_rfl) (by kernel_rfl) (by kernel_rfl) Part.nil ?_
      refine KD.v0 rfl rfl (Val.fieldAddr0 (k := 0) rfl rfl) ?_
      refine KD.v0 rfl rfl (Val.loadP rfl rfl (Sees.cell byTake rfl)) ?_
      refine KD.v0 rfl rfl (Val.indexA rfl rfl rfl rfl (by omega)) ?_
      refine KD.v0 rfl rfl (Val.loadP rfl rfl (Sees.cell byTake rfl)) ?_
      refine KD.v0 rfl rfl (Val.move rfl) ?_
      refine KD.v0 rfl rfl (Val.loadA rfl rfl rfl bySeeN) ?_
      refine KD.callc rfl rfl rfl byEvL fun T hT => ?_
      refine (CallV.part (CallV.fn (root_K (op := ⟨4, hh, oa, ob, ov, oto⟩) ok hn hx (hS.tx _ _ hx).pins)) byPart).mono ?_
      rintro _ _ ⟨sm', ok', hb', hst', rfl, rfl⟩
      unfold sdV
      refine hT _ _ byPart ?_; clear hT; clear T
      (refine KD.eN rfl (Eff.storeAL rfl rfl rfl byTake byLay byOnes) ?_; rintro _ _ rfl; refine ⟨byPart, ?_⟩)
      refine KD.nil ?_
      refine KE.next ?_
      refine K.ret ?_
      exact KE.fin byMarks rfl byRes byPart ⟨sm', ok', hb', do_stay hp hst', by rw [hp]; rfl, rfl⟩
    · have hp : stepP sm.st ⟨5, hh, oa, ob, ov, oto⟩ = stay (pinP sm.st id x (-1)) := by unfold stepP; simp only [hn, hx]; rfl
      (refine KL.e rfl (Eff.alloc rfl) ?_; rintro _ _ ⟨b5, rfl, rfl⟩)
      (refine KL.eN (Eff.storeAL rfl rfl rfl byTake byLay byOnes) ?_; rintro _ _ rfl)
      refine KL.nil ?_
      refine KE.next ?_
      refine K.seq ?_
      refine K.block ?_
      refine K.seq ?_
      refine K.region ?_
      (refine KL.v rfl (Val.move rfl) ?_)
      (refine KL.callc rfl rfl byEvL fun T hT => ?_)
      (refine (CallV.fn (noneR_K (bt := some _) (Sees.cell byTake rfl))).mono ?_; rintro _ _ ⟨rfl, rfl⟩)
      (refine hT _ _ ?_; clear hT; clear T)
      (refine KL.v rfl (Val.assign rfl) ?_)
      refine KL.nil ?_
      refine KE.next ?_
      refine K.condF rfl ?_
      refine K.seq ?_
      refine K.region ?_
      (refine KL.v rfl (Val.fieldAddr0 (k := 0) rfl rfl) ?_)
      (refine KL.v rfl (Val.loadP rfl rfl (Sees.cell byTake rfl)) ?_)
      (refine KL.v rfl (Val.conv rfl rfl rfl (by simp only [Go.Proofs.YthamkgghnjenhaaGreat.lo, Go.Proofs.YthamkgghnjenhaaGreat.hi]; omega)) ?_)
      (refine KL.v rfl (Val.isF (Val.geq rfl rfl) byLt) ?_)
      (refine KL.v rfl (Val.move rfl) ?_)
      (refine KL.yes rfl rfl ?_; refine KL.v rfl (Val.fieldAddr0 (k := 0) rfl rfl) ?_)
      (refine KL.yes rfl rfl ?_; refine KL.v rfl (Val.loadP rfl rfl (Sees.cell byTake rfl)) ?_)
      (refine KL.yes rfl rfl ?_; refine KL.v rfl (Val.indexA rfl rfl rfl rfl (by omega)) ?_)
      (refine KL.yes rfl rfl ?_; refine KL.v rfl (Val.loadP rfl rfl (Sees.cell byTake rfl)) ?_)
      (refine KL.yes rfl rfl ?_; refine KL.v rfl (Val.eqlFF rfl rfl rfl) ?_)
      (refine KL.v rfl (Val.pickF rfl rfl rfl) ?_)
      (refine KL.v rfl (Val.assign rfl) ?_)
      refine KL.nil ?_
      refine KE.next ?_
      refine K.condF rfl ?_
      refine K.skip ?_
      refine KE.blkN ?_
      refine KE.next ?_
      refine K.seq ?_
      refine K.seq ?_
      refine K.region ?_
      (refine KL.v rfl (Val.move rfl) ?_)
      (refine KL.v rfl (Val.fieldAddr0 (k := 1) rfl rfl) ?_)
      (refine KL.v rfl (Val.loadP rfl rfl (Sees.cell byTake rfl)) ?_)
      (refine KL.callc rfl rfl byEvL fun T hT => ?_)
      refine (CallV.part (CallV.fn (NamesS_K (h := hh))) byPart).mono ?_
      rintro _ _ ⟨rfl, rfl⟩
      refine hT _ _ ?_; clear hT; clear T
      rw [hnm]
      (refine KL.v rfl (Val.move rfl) ?_)
      (refine KL.v rfl (Val.extract rfl rfl) ?_)
      (refine KL.v rfl (Val.extract rfl rfl) ?_)
      (refine KL.v rfl (Val.assign rfl) ?_)
      (refine KL.v rfl (Val.assign rfl) ?_)
      refine KL.nil ?_
      refine KE.next ?_
      refine K.seq ?_
      refine K.region ?_
      (refine KL.v rfl (Val.move rfl) ?_)
      (refine KL.v rfl (Val.isF (Val.neq rfl rfl) byLt) ?_)
      (refine KL.v rfl (Val.move rfl) ?_)
      refine KL.skipG rfl rfl rfl ?_
      refine KL.skipG rfl rfl rfl ?_
      refine KL.skipG rfl rfl rfl ?_
      (refine KL.v rfl (Val.pickF rfl rfl rfl) ?_)
      refine KL.nil ?_
      refine KE.next ?_
      refine K.condF rfl ?_
      refine K.skip ?_
      refine KE.next ?_
      refine K.seq ?_
      refine K.drawn [] [(0, 0), (1, 0), (2, 0), (3, 0), (4, 0), (5, 0), (6, 2), (7, 2)] (by kernel_rfl) (by kernel_rfl) (by kernel_rfl) (by kernel_rfl) (by kernel_rfl) (by kernel_rfl) Part.nil ?_
      refine KD.v0 rfl rfl (Val.fieldAddr0 (k := 0) rfl rfl) ?_
      refine KD.v0 rfl rfl (Val.loadP rfl rfl (Sees.cell byTake rfl)) ?_
      refine KD.v0 rfl rfl (Val.indexA rfl rfl rfl rfl (by omega)) ?_
      refine KD.v0 rfl rfl (Val.loadP rfl rfl (Sees.cell byTake rfl)) ?_
      refine KD.v0 rfl rfl (Val.move rfl) ?_
      refine KD.v0 rfl rfl (Val.loadA rfl rfl rfl bySeeN) ?_
      refine KD.callc rfl rfl rfl byEvL fun T hT => ?_
      refine (CallV.part (CallV.fn (unroot_K (op := ⟨5, hh, oa, ob, ov, oto⟩) ok hn hx (hS.tx _ _ hx).pins)) byPart).mono ?_
      rintro _ _ ⟨sm', ok', hb', hst', rfl, rfl⟩
      unfold sdV
      refine hT _ _ byPart ?_; clear hT; clear T
      (refine KD.eN rfl (Eff.storeAL rfl rfl rfl byTake byLay byOnes) ?_; rintro _ _ rfl; refine ⟨byPart, ?_⟩)
      refine KD.nil ?_
      refine KE.next ?_
      refine K.ret ?_
      exact KE.fin byMarks rfl byRes byPart ⟨sm', ok', hb', do_stay hp hst', by rw [hp]; rfl, rfl⟩
    · have hp : stepP sm.st ⟨6, hh, oa, ob, ov, oto⟩ = (dropP sm.st hh, ⟨0, 0, 0⟩, true) := by unfold stepP; simp only [hn, hx]; rfl
      (refine KL.e rfl (Eff.alloc rfl) ?_; rintro _ _ ⟨b5, rfl, rfl⟩)
      (refine KL.eN (Eff.storeAL rfl rfl rfl byTake byLay byOnes) ?_; rintro _ _ rfl)
      refine KL.nil ?_
      refine KE.next ?_
      refine K.seq ?_
      refine K.block ?_
      refine K.seq ?_
      refine K.region ?_
      (refine KL.v rfl (Val.move rfl) ?_)
      (refine KL.callc rfl rfl byEvL fun T hT => ?_)
      (refine (CallV.fn (noneR_K (bt := some _) (Sees.cell byTake rfl))).mono ?_; rintro _ _ ⟨rfl, rfl⟩)
      (refine hT _ _ ?_; clear hT; clear T)
      (refine KL.v rfl (Val.assign rfl) ?_)
      refine KL.nil ?_
      refine KE.next ?_
      refine K.condF rfl ?_
      refine K.seq ?_
      refine K.region ?_
      (refine KL.v rfl (Val.fieldAddr0 (k := 0) rfl rfl) ?_)
      (refine KL.v rfl (Val.loadP rfl rfl (Sees.cell byTake rfl)) ?_)
      (refine KL.v rfl (Val.conv rfl rfl rfl (by simp only [Go.Proofs.YthamkgghnjenhaaGreat.lo, Go.Proofs.YthamkgghnjenhaaGreat.hi]; omega)) ?_)
      (refine KL.v rfl (Val.isF (Val.geq rfl rfl) byLt) ?_)
      (refine KL.v rfl (Val.move rfl) ?_)
      (refine KL.yes rfl rfl ?_; refine KL.v rfl (Val.fieldAddr0 (k := 0) rfl rfl) ?_)
      (refine KL.yes rfl rfl ?_; refine KL.v rfl (Val.loadP rfl rfl (Sees.cell byTake rfl)) ?_)
      (refine KL.yes rfl rfl ?_; refine KL.v rfl (Val.indexA rfl rfl rfl rfl (by omega)) ?_)
      (refine KL.yes rfl rfl ?_; refine KL.v rfl (Val.loadP rfl rfl (Sees.cell byTake rfl)) ?_)
      (refine KL.yes rfl rfl ?_; refine KL.v rfl (Val.eqlFF rfl rfl rfl) ?_)
      (refine KL.v rfl (Val.pickF rfl rfl rfl) ?_)
      (refine KL.v rfl (Val.assign rfl) ?_)
      refine KL.nil ?_
      refine KE.next ?_
      refine K.condF rfl ?_
      refine K.skip ?_
      refine KE.blkN ?_
      refine KE.next ?_
      refine K.seq ?_
      refine K.seq ?_
      refine K.region ?_
      (refine KL.v rfl (Val.move rfl) ?_)
      (refine KL.v rfl (Val.fieldAddr0 (k := 1) rfl rfl) ?_)
      (refine KL.v rfl (Val.loadP rfl rfl (Sees.cell byTake rfl)) ?_)
      (refine KL.callc rfl rfl byEvL fun T hT => ?_)
      refine (CallV.part (CallV.fn (NamesS_K (h := hh))) byPart).mono ?_
      rintro _ _ ⟨rfl, rfl⟩
      refine hT _ _ ?_; clear hT; clear T
      rw [hnm]
      (refine KL.v rfl (Val.move rfl) ?_)
      (refine KL.v rfl (Val.extract rfl rfl) ?_)
      (refine KL.v rfl (Val.extract rfl rfl) ?_)
      (refine KL.v rfl (Val.assign rfl) ?_)
      (refine KL.v rfl (Val.assign rfl) ?_)
      refine KL.nil ?_
      refine KE.next ?_
      refine K.seq ?_
      refine K.region ?_
      (refine KL.v rfl (Val.move rfl) ?_)
      (refine KL.v rfl (Val.isF (Val.neq rfl rfl) byLt) ?_)
      (refine KL.v rfl (Val.move rfl) ?_)
      refine KL.skipG rfl rfl rfl ?_
      refine KL.skipG rfl rfl rfl ?_
      refine KL.skipG rfl rfl rfl ?_
      (refine KL.v rfl (Val.pickF rfl rfl rfl) ?_)
      refine KL.nil ?_
      refine KE.next ?_
      refine K.condF rfl ?_
      refine K.skip ?_
      refine KE.next ?_
      refine K.seq ?_
      refine K.drawn [] [(0, 0), (1, 0), (2, 0), (3, 0), (4, 0), (5, 0), (6, 2), (7, 2)] (by kernel_rfl) (by kernel_rfl) (by kernel_rfl) (by kernel_rfl) (by kernel_rfl) (by kernel_rfl) Part.nil ?_
      refine KD.v0 rfl rfl (Val.fieldAddr0 (k := 0) rfl rfl) ?_
      refine KD.v0 rfl rfl (Val.loadP rfl rfl (Sees.cell byTake rfl)) ?_
      refine KD.v0 rfl rfl (Val.indexA rfl rfl rfl rfl (by omega)) ?_
      refine KD.v0 rfl rfl (Val.loadP rfl rfl (Sees.cell byTake rfl)) ?_
      refine KD.v0 rfl rfl (Val.move rfl) ?_
      refine KD.v0 rfl rfl (Val.loadA rfl rfl rfl bySeeN) ?_
      refine KD.callc rfl rfl rfl byEvL fun T hT => ?_
      refine (CallV.part (CallV.fn (drop_K (op := ⟨6, hh, oa, ob, ov, oto⟩) ok hC hm hmi hrl)) byPart).mono ?_
      rintro _ _ ⟨sm', ok', hb', hsw, rfl, rfl⟩
      unfold sdV
      refine hT _ _ byPart ?_; clear hT; clear T
      (refine KD.eN rfl (Eff.storeAL rfl rfl rfl byTake byLay byOnes) ?_; rintro _ _ rfl; refine ⟨byPart, ?_⟩)
      refine KD.nil ?_
      refine KE.next ?_
      refine K.ret ?_
      exact KE.fin byMarks rfl byRes byPart ⟨sm', ok', hb', by unfold DoR; rw [hp]; exact ⟨rfl, hsw⟩, by rw [hp]; rfl, rfl⟩
    · have hp : stepP sm.st ⟨7, hh, oa, ob, ov, oto⟩ = (sm.st, ⟨0, 0, sumP x.words⟩, false) := by unfold stepP; simp only [hn, hx]; rfl
      (refine KL.e rfl (Eff.alloc rfl) ?_; rintro _ _ ⟨b5, rfl, rfl⟩)
      (refine KL.eN (Eff.storeAL rfl rfl rfl byTake byLay byOnes) ?_; rintro _ _ rfl)
      refine KL.nil ?_
      refine KE.next ?_
      refine K.seq ?_
      refine K.block ?_
      refine K.seq ?_
      refine K.region ?_
      (refine KL.v rfl (Val.move rfl) ?_)
      (refine KL.callc rfl rfl byEvL fun T hT => ?_)
      (refine (CallV.fn (noneR_K (bt := some _) (Sees.cell byTake rfl))).mono ?_; rintro _ _ ⟨rfl, rfl⟩)
      (refine hT _ _ ?_; clear hT; clear T)
      (refine KL.v rfl (Val.assign rfl) ?_)
      refine KL.nil ?_
      refine KE.next ?_
      refine K.condF rfl ?_
      refine K.seq ?_
      refine K.region ?_
      (refine KL.v rfl (Val.fieldAddr0 (k := 0) rfl rfl) ?_)
      (refine KL.v rfl (Val.loadP rfl rfl (Sees.cell byTake rfl)) ?_)
      (refine KL.v rfl (Val.conv rfl rfl rfl (by simp only [Go.Proofs.YthamkgghnjenhaaGreat.lo, Go.Proofs.YthamkgghnjenhaaGreat.hi]; omega)) ?_)
      (refine KL.v rfl (Val.isF (Val.geq rfl rfl) byLt) ?_)
      (refine KL.v rfl (Val.move rfl) ?_)
      (refine KL.yes rfl rfl ?_; refine KL.v rfl (Val.fieldAddr0 (k := 0) rfl rfl) ?_)
      (refine KL.yes rfl rfl ?_; refine KL.v rfl (Val.loadP rfl rfl (Sees.cell byTake rfl)) ?_)
      (refine KL.yes rfl rfl ?_; refine KL.v rfl (Val.indexA rfl rfl rfl rfl (by omega)) ?_)
      (refine KL.yes rfl rfl ?_; refine KL.v rfl (Val.loadP rfl rfl (Sees.cell byTake rfl)) ?_)
      (refine KL.yes rfl rfl ?_; refine KL.v rfl (Val.eqlFF rfl rfl rfl) ?_)
      (refine KL.v rfl (Val.pickF rfl rfl rfl) ?_)
      (refine KL.v rfl (Val.assign rfl) ?_)
      refine KL.nil ?_
      refine KE.next ?_
      refine K.condF rfl ?_
      refine K.skip ?_
      refine KE.blkN ?_
      refine KE.next ?_
      refine K.seq ?_
      refine K.seq ?_
      refine K.region ?_
      (refine KL.v rfl (Val.move rfl) ?_)
      (refine KL.v rfl (Val.fieldAddr0 (k := 1) rfl rfl) ?_)
      (refine KL.v rfl (Val.loadP rfl rfl (Sees.cell byTake rfl)) ?_)
      (refine KL.callc rfl rfl byEvL fun T hT => ?_)
      refine (CallV.part (CallV.fn (NamesS_K (h := hh))) byPart).mono ?_
      rintro _ _ ⟨rfl, rfl⟩
      refine hT _ _ ?_; clear hT; clear T
      rw [hnm]
      (refine KL.v rfl (Val.move rfl) ?_)
      (refine KL.v rfl (Val.extract rfl rfl) ?_)
      (refine KL.v rfl (Val.extract rfl rfl) ?_)
      (refine KL.v rfl (Val.assign rfl) ?_)
      (refine KL.v rfl (Val.assign rfl) ?_)
      refine KL.nil ?_
      refine KE.next ?_
      refine K.seq ?_
      refine K.region ?_
      (refine KL.v rfl (Val.move rfl) ?_)
      (refine KL.v rfl (Val.isF (Val.neq rfl rfl) byLt) ?_)
      (refine KL.v rfl (Val.move rfl) ?_)
      refine KL.skipG rfl rfl rfl ?_
      refine KL.skipG rfl rfl rfl ?_
      refine KL.skipG rfl rfl rfl ?_
      (refine KL.v rfl (Val.pickF rfl rfl rfl) ?_)
      refine KL.nil ?_
      refine KE.next ?_
      refine K.condF rfl ?_
      refine K.skip ?_
      refine KE.next ?_
      refine K.seq ?_
      refine K.drawn [] [(0, 0), (1, 0), (2, 0), (3, 0), (4, 0), (5, 0), (6, 2), (7, 2)] (by kernel_rfl) (by kernel_rfl) (by kernel_rfl) (by kernel_rfl) (by kernel_rfl) (by kernel_rfl) Part.nil ?_
      refine KD.v0 rfl rfl (Val.fieldAddr0 (k := 0) rfl rfl) ?_
      refine KD.v0 rfl rfl (Val.loadP rfl rfl (Sees.cell byTake rfl)) ?_
      refine KD.v0 rfl rfl (Val.indexA rfl rfl rfl rfl (by omega)) ?_
      refine KD.v0 rfl rfl (Val.loadP rfl rfl (Sees.cell byTake rfl)) ?_
      refine KD.v0 rfl rfl (Val.move rfl) ?_
      refine KD.v0 rfl rfl (Val.loadA rfl rfl rfl bySeeN) ?_
      refine KD.callc rfl rfl rfl byEvL fun T hT => ?_
      refine (CallV.part (CallV.fn (fold_K (op := ⟨7, hh, oa, ob, ov, oto⟩) ok hn hx (hrl _ _ hx))) byPart).mono ?_
      rintro _ _ ⟨rfl, rfl⟩
      unfold sdV
      refine hT _ _ byPart ?_; clear hT; clear T
      (refine KD.eN rfl (Eff.storeAL rfl rfl rfl byTake byLay byOnes) ?_; rintro _ _ rfl; refine ⟨byPart, ?_⟩)
      refine KD.nil ?_
      refine KE.next ?_
      refine K.ret ?_
      exact KE.fin byMarks rfl byRes byPart ⟨sm, ok, rfl, by unfold DoR; rw [hp]; exact ⟨rfl, rfl⟩, by rw [hp]; rfl, rfl⟩
end Go.Proofs.YthamkgghnjenhaaGreat
namespace Go.Proofs.YthamkgghnjenhaaGreat
open Go.RowKit
set_option linter.unusedVariables false
set_option linter.unusedSimpArgs false
set_option maxRecDepth 100000

def newOk (cl : List Int) (quota caps : Int) : Prop := classP cl = true ∧ (0 ≤ quota ∧ quota ≤ 4096) ∧ (0 ≤ caps ∧ caps ≤ 1024)
def newM (b bt bh : Nat) (cl : List Int) (oc : Own) (quota caps : Int) : SM := ⟨b, bt, bh, cl, oc, quota, caps, [], 0, [], 0, 0, 0⟩
def newS (cl : List Int) (quota caps : Int) : St := ⟨cl, quota, caps, fun _ => none, fun _ => none, 0, 0⟩
theorem newM_st (b bt bh : Nat) (cl : List Int) (oc : Own) (quota caps : Int) : (newM b bt bh cl oc quota caps).st = newS cl quota caps := rfl
theorem newM_ok {b bt bh : Nat} {cl : List Int} {oc : Own} {quota caps : Int} (h : oOk iE cl oc) : SOk (newM b bt bh cl oc quota caps) := ⟨MOk.nil, MOk.nil, h, by intro t ht; cases ht⟩
set_option maxHeartbeats 2000000 in
theorem New_K {w0 : World} {v : Value} {cl : List Int} {quota caps : Int} (hS : SlW w0 iE v cl) (hl : cl.length ≤ 1000) :
    Call Tryz.prog w0 6 [v, .int .i64 quota, .int .i64 caps] []
      (fun r H' => (newOk cl quota caps ∧ ∃ sm, SOk sm ∧ sm.st = newS cl quota caps ∧ r = .tuple [.pointer (some ⟨sm.b, 0, none⟩), .int .i64 0].toArray ∧ H' = smH sm) ∨ (¬ newOk cl quota caps ∧ r = .tuple [.pointer none, .int .i64 2].toArray ∧ H' = [])) := by
  refine Call.enter3 (n := 34) (by kernel_rfl) Tryz.func6 rfl rfl rfl ?_
  refine K.seq ?_
  refine K.region ?_
  (refine KL.v rfl (Val.assign rfl) ?_)
  (refine KL.v rfl (Val.assign rfl) ?_)
  refine KL.nil ?_
  refine KE.next ?_
  refine K.seq ?_
  refine K.region ?_
  (refine KL.v rfl (Val.move rfl) ?_)
  (refine KL.callc rfl rfl byEvL fun T hT => ?_)
  refine (CallV.fn (Clone_K hS (by omega))).mono ?_
  rintro _ _ ⟨o, oko, rfl, rfl⟩
  refine hT _ _ ?_; clear hT; clear T
  (refine KL.v rfl (Val.move rfl) ?_)
  (refine KL.e rfl (Eff.makeMap) ?_; rintro _ _ ⟨b12, rfl, rfl⟩)
  (refine KL.e rfl (Eff.makeMap) ?_; rintro _ _ ⟨b13, rfl, rfl⟩)
  (refine KL.v rfl (Val.build byParts rfl rfl byFill) ?_)
  (refine KL.e rfl (Eff.box rfl rfl) ?_; rintro _ _ ⟨b15, rfl, rfl⟩)
  (refine KL.v rfl (Val.assign rfl) ?_)
  refine KL.nil ?_
  refine KE.next ?_
  refine K.seq ?_
  refine K.seq ?_
  refine K.region ?_
  (refine KL.v rfl (Val.move rfl) ?_)
  (refine KL.callc rfl rfl byEvL fun T hT => ?_)
  refine (CallV.pure fun w hw => CallV.fn (Check_K (Sli.old (hS.only hw.old)) (by omega))).mono ?_
  rintro _ _ ⟨_, ⟨rfl, rfl⟩, rfl⟩
  rw [List.nil_append]
  refine hT _ _ ?_; clear hT; clear T
  cases hc : classP cl with
  | false =>
    simp only [errB, Bool.false_eq_true, if_false]
    (refine KL.v rfl (Val.isT (Val.neq rfl rfl) byLt) ?_)
    (refine KL.v rfl (Val.move rfl) ?_)
    refine KL.skipG rfl rfl rfl ?_
    refine KL.skipG rfl rfl rfl ?_
    (refine KL.v rfl (Val.pickT rfl rfl rfl) ?_)
    (refine KL.v rfl (Val.move rfl) ?_)
    refine KL.skipG rfl rfl rfl ?_
    refine KL.skipG rfl rfl rfl ?_
    (refine KL.v rfl (Val.pickT rfl rfl rfl) ?_)
    (refine KL.v rfl (Val.move rfl) ?_)
    refine KL.skipG rfl rfl rfl ?_
    refine KL.skipG rfl rfl rfl ?_
    refine KL.skipG rfl rfl rfl ?_
    refine KL.skipG rfl rfl rfl ?_
    (refine KL.v rfl (Val.pickT rfl rfl rfl) ?_)
    refine KL.nil ?_
    refine KE.next ?_
    refine K.condT rfl ?_
    refine K.seq ?_
    refine K.region ?_
    (refine KL.v rfl (Val.assign rfl) ?_)
    (refine KL.v rfl (Val.assign rfl) ?_)
    refine KL.nil ?_
    refine KE.next ?_
    refine K.ret ?_
    refine KE.passR ?_
    exact KE.fin byMarks rfl byRes byPart (.inr ⟨(by rintro ⟨h, _⟩; rw [hc] at h; exact absurd h (by simp)), rfl, rfl⟩)
  | true =>
    simp only [errB, if_true]
    by_cases h1 : quota < 0
    · (refine KL.v rfl (Val.isF (Val.neq rfl rfl) byLt) ?_)
      (refine KL.v rfl (Val.move rfl) ?_)
      (refine KL.yes rfl rfl ?_; refine KL.v rfl (Val.move rfl) ?_)
      (refine KL.yes rfl rfl ?_; refine KL.v rfl (Val.isT (Val.lss rfl rfl) byLt) ?_)
      (refine KL.v rfl (Val.pickF rfl rfl rfl) ?_)
      (refine KL.v rfl (Val.move rfl) ?_)
      refine KL.skipG rfl rfl rfl ?_
      refine KL.skipG rfl rfl rfl ?_
      (refine KL.v rfl (Val.pickT rfl rfl rfl) ?_)
      (refine KL.v rfl (Val.move rfl) ?_)
      refine KL.skipG rfl rfl rfl ?_
      refine KL.skipG rfl rfl rfl ?_
      refine KL.skipG rfl rfl rfl ?_
      refine KL.skipG rfl rfl rfl ?_
      (refine KL.v rfl (Val.pickT rfl rfl rfl) ?_)
      refine KL.nil ?_
      refine KE.next ?_
      refine K.condT rfl ?_
      refine K.seq ?_
      refine K.region ?_
      (refine KL.v rfl (Val.assign rfl) ?_)
      (refine KL.v rfl (Val.assign rfl) ?_)
      refine KL.nil ?_
      refine KE.next ?_
      refine K.ret ?_
      refine KE.passR ?_
      exact KE.fin byMarks rfl byRes byPart (.inr ⟨by rintro ⟨_, h, _⟩; omega, rfl, rfl⟩)
    by_cases h2 : quota > 4096
    · (refine KL.v rfl (Val.isF (Val.neq rfl rfl) byLt) ?_)
      (refine KL.v rfl (Val.move rfl) ?_)
      (refine KL.yes rfl rfl ?_; refine KL.v rfl (Val.move rfl) ?_)
      (refine KL.yes rfl rfl ?_; refine KL.v rfl (Val.isF (Val.lss rfl rfl) byLt) ?_)
      (refine KL.v rfl (Val.pickF rfl rfl rfl) ?_)
      (refine KL.v rfl (Val.move rfl) ?_)
      (refine KL.yes rfl rfl ?_; refine KL.v rfl (Val.move rfl) ?_)
      (refine KL.yes rfl rfl ?_; refine KL.v rfl (Val.isT (Val.gtr rfl rfl) byLt) ?_)
      (refine KL.v rfl (Val.pickF rfl rfl rfl) ?_)
      (refine KL.v rfl (Val.move rfl) ?_)
      refine KL.skipG rfl rfl rfl ?_
      refine KL.skipG rfl rfl rfl ?_
      refine KL.skipG rfl rfl rfl ?_
      refine KL.skipG rfl rfl rfl ?_
      (refine KL.v rfl (Val.pickT rfl rfl rfl) ?_)
      refine KL.nil ?_
      refine KE.next ?_
      refine K.condT rfl ?_
      refine K.seq ?_
      refine K.region ?_
      (refine KL.v rfl (Val.assign rfl) ?_)
      (refine KL.v rfl (Val.assign rfl) ?_)
      refine KL.nil ?_
      refine KE.next ?_
      refine K.ret ?_
      refine KE.passR ?_
      exact KE.fin byMarks rfl byRes byPart (.inr ⟨by rintro ⟨_, h, _⟩; omega, rfl, rfl⟩)
    (refine KL.v rfl (Val.isF (Val.neq rfl rfl) byLt) ?_)
    (refine KL.v rfl (Val.move rfl) ?_)
    (refine KL.yes rfl rfl ?_; refine KL.v rfl (Val.move rfl) ?_)
    (refine KL.yes rfl rfl ?_; refine KL.v rfl (Val.isF (Val.lss rfl rfl) byLt) ?_)
    (refine KL.v rfl (Val.pickF rfl rfl rfl) ?_)
    (refine KL.v rfl (Val.move rfl) ?_)
    (refine KL.yes rfl rfl ?_; refine KL.v rfl (Val.move rfl) ?_)
    (refine KL.yes rfl rfl ?_; refine KL.v rfl (Val.isF (Val.gtr rfl rfl) byLt) ?_)
    (refine KL.v rfl (Val.pickF rfl rfl rfl) ?_)
    (refine KL.v rfl (Val.move rfl) ?_)
    (refine KL.yes rfl rfl ?_; refine KL.v rfl (Val.move rfl) ?_)
    (refine KL.yes rfl rfl ?_; refine KL.v rfl (Val.move rfl) ?_)
    (refine KL.yes rfl rfl ?_; refine KL.callc rfl rfl byEvL fun T hT => ?_)
    refine (CallV.part (CallV.fn (SetCaps_K (sm := newM b15 b12 b13 cl o quota 0) (F := []) (n := caps))) (by rw [smH_app]; exact byPart)).mono ?_
    rintro _ _ (⟨h3, rfl, rfl⟩ | ⟨h3, rfl, rfl⟩)
    · refine hT _ _ ?_; clear hT; clear T
      (refine KL.yes rfl rfl ?_; refine KL.v rfl (Val.isF (Val.neq rfl rfl) byLt) ?_)
      (refine KL.v rfl (Val.pickF rfl rfl rfl) ?_)
      refine KL.nil ?_
      refine KE.next ?_
      refine K.condF rfl ?_
      refine K.skip ?_
      refine KE.next ?_
      refine K.seq ?_
      refine K.region ?_
      (refine KL.v rfl (Val.move rfl) ?_)
      (refine KL.v rfl (Val.assign rfl) ?_)
      (refine KL.v rfl (Val.assign rfl) ?_)
      refine KL.nil ?_
      refine KE.next ?_
      refine K.ret ?_
      exact KE.fin byMarks rfl byRes byPart (.inl ⟨⟨hc, by omega, h3⟩, newM b15 b12 b13 cl o quota caps, newM_ok oko, newM_st _ _ _ _ _ _ _, rfl, List.append_nil _⟩)
    · refine hT _ _ ?_; clear hT; clear T
      (refine KL.yes rfl rfl ?_; refine KL.v rfl (Val.isT (Val.neq rfl rfl) byLt) ?_)
      (refine KL.v rfl (Val.pickF rfl rfl rfl) ?_)
      refine KL.nil ?_
      refine KE.next ?_
      refine K.condT rfl ?_
      refine K.seq ?_
      refine K.region ?_
      (refine KL.v rfl (Val.assign rfl) ?_)
      (refine KL.v rfl (Val.assign rfl) ?_)
      refine KL.nil ?_
      refine KE.next ?_
      refine K.ret ?_
      refine KE.passR ?_
      exact KE.fin byMarks rfl byRes byPart (.inr ⟨by rintro ⟨_, _, h⟩; exact h3 h, rfl, rfl⟩)
/-- an object in memory, copied -/
def copT (t : ThS) (k : Nat) (o1 o2 : Own) : ThS := ⟨t.k, t.x, o1, o2, k⟩
structure CpS where
  bt : Nat
  bh : Nat
  oc : Own
structure CpL where
  pk : List ThS
  ts : List ThS
  ct : Nat
def copM (sm : SM) (b : Nat) (s : CpS) (ts : List ThS) (ct : Nat) : SM := ⟨b, s.bt, s.bh, sm.cl, s.oc, sm.quota, sm.caps, ts, ct, sm.hs, sm.ch, sm.made, sm.minted⟩
theorem mapsClone_K {w0 : World} {H F : Heap} {ms : List ME} {c b : Nat} (hTk : Take (b, mobj ms c) H F) :
    Call Tryz.prog w0 20 [.map (some b)] H (fun r H' => ∃ b', r = .map (some b') ∧ H' = (b', mobj ms c) :: H) := by
  refine Call.enter1 (n := 9) (by kernel_rfl) Tryz.func20 rfl rfl rfl ?_
  refine K.seq ?_
  refine K.region ?_
  (refine KL.v rfl (Val.assign rfl) ?_)
  refine KL.nil ?_
  refine KE.next ?_
  refine K.seq ?_
  refine K.seq ?_
  refine K.region ?_
  (refine KL.v rfl (Val.move rfl) ?_)
  (refine KL.v rfl (Val.eqlMN rfl rfl rfl) ?_)
  refine KL.nil ?_
  refine KE.next ?_
  refine K.condF rfl ?_
  refine K.skip ?_
  refine KE.next ?_
  refine K.seq ?_
  refine K.region ?_
  (refine KL.v rfl (Val.move rfl) ?_)
  (refine KL.v rfl (Val.mkIface rfl rfl) ?_)
  (refine KL.callc rfl rfl byEvL fun T hT => ?_)
  refine (CallV.cloneM Tryz.func40 (by kernel_rfl) (by kernel_rfl) (by kernel_rfl) (by kernel_rfl) hTk).mono ?_
  rintro _ _ ⟨b', rfl, rfl⟩
  refine hT _ _ ?_; clear hT; clear T
  (refine KL.v rfl (Val.assertM rfl rfl) ?_)
  (refine KL.v rfl (Val.assign rfl) ?_)
  refine KL.nil ?_
  refine KE.next ?_
  refine K.ret ?_
  exact KE.fin byMarks rfl byRes byPart ⟨b', rfl, rfl⟩
theorem stamp_inj {ms : List ME} {c : Nat} (ok : MOk ms c) {a b : ME} (ha : a ∈ ms) (hb : b ∈ ms) (h : a.n = b.n) : a = b := by
  obtain ⟨i, hi⟩ := List.getElem?_of_mem ha
  obtain ⟨j, hj⟩ := List.getElem?_of_mem hb
  have hi1 : (ms.map (·.n))[i]? = some b.n := by rw [List.getElem?_map, hi]; simp [h]
  have hj1 : (ms.map (·.n))[j]? = some b.n := by rw [List.getElem?_map, hj]; rfl
  have hij := (List.getElem?_inj (List.getElem?_eq_some_iff.1 hi1).1 ok.nd).1 (hi1.trans hj1.symm)
  subst hij
  rw [hi] at hj; exact Option.some.inj hj
theorem key_inj {ms : List ME} {c : Nat} (ok : MOk ms c) {a b : ME} (ha : a ∈ ms) (hb : b ∈ ms) (h : a.k = b.k) : a = b := by
  obtain ⟨i, hi⟩ := List.getElem?_of_mem ha
  obtain ⟨j, hj⟩ := List.getElem?_of_mem hb
  have hi1 : (ms.map (·.k))[i]? = some b.k := by rw [List.getElem?_map, hi]; simp [h]
  have hj1 : (ms.map (·.k))[j]? = some b.k := by rw [List.getElem?_map, hj]; rfl
  have hij := (List.getElem?_inj (List.getElem?_eq_some_iff.1 hi1).1 ok.kd).1 (hi1.trans hj1.symm)
  subst hij
  rw [hi] at hj; exact Option.some.inj hj
theorem tf_mem {sm : SM} (ok : SOk sm) {t : ThS} (ht : t ∈ sm.ts) : tf sm.ts t.k = some t.x := by
  cases h : tf sm.ts t.k with
  | none => exact absurd rfl (tf_none.1 h t ht)
  | some x =>
    obtain ⟨A, t', B, hts, hk, hx, _⟩ := tf_split h
    have ht' : t' ∈ sm.ts := by rw [hts]; simp
    obtain ⟨i, hi⟩ := List.getElem?_of_mem ht
    obtain ⟨j, hj⟩ := List.getElem?_of_mem ht'
    have hi1 : (sm.ts.map (·.k))[i]? = some t.k := by rw [List.getElem?_map, hi]; rfl
    have hj1 : (sm.ts.map (·.k))[j]? = some t.k := by rw [List.getElem?_map, hj]; simp [hk]
    have hij := (List.getElem?_inj (List.getElem?_eq_some_iff.1 hi1).1 (keys_nd ok)).1 (hi1.trans hj1.symm)
    subst hij
    rw [hi] at hj
    rw [← hx, Option.some.inj hj]
set_option maxHeartbeats 4000000 in
theorem Copy_K {w0 : World} {F : Heap} {sm : SM} (ok : SOk sm) (hr : ∀ i x, tf sm.ts i = some x → x.refs.length ≤ 1000 ∧ x.words.length ≤ 1000) (hcl : sm.cl.length ≤ 1000) :
    Call Tryz.prog w0 9 [.pointer (some ⟨sm.b, 0, none⟩)] (smH sm ++ F)
      (fun r H' => ∃ sm', SOk sm' ∧ sm'.st = sm.st ∧ r = .pointer (some ⟨sm'.b, 0, none⟩) ∧ H' = smH sm' ++ (smH sm ++ F)) := by
  refine Call.enter1 (n := 40) (by kernel_rfl) Tryz.func9 rfl rfl rfl ?_
  (rw [smH_app (sm := sm)])
  refine K.seq ?_
  refine K.region ?_
  (refine KL.v rfl (Val.assign rfl) ?_)
  refine KL.nil ?_
  refine KE.next ?_
  refine K.seq ?_
  refine K.seq ?_
  refine K.region ?_
  (refine KL.v rfl (Val.move rfl) ?_)
  (refine KL.callc rfl rfl byEvL fun T hT => ?_)
  (refine (CallV.fn (noneR_K (bt := some _) (Sees.cell byTake rfl))).mono ?_; rintro _ _ ⟨rfl, rfl⟩)
  (refine hT _ _ ?_; clear hT; clear T)
  refine KL.nil ?_
  refine KE.next ?_
  refine K.condF rfl ?_
  refine K.skip ?_
  refine KE.next ?_
  refine K.seq ?_
  refine K.region ?_
  (refine KL.v rfl (Val.move rfl) ?_)
  (refine KL.v rfl (Val.nilCheck rfl) ?_)
  (refine KL.v rfl (Val.loadA rfl rfl rfl bySeeN) ?_)
  (refine KL.e rfl (Eff.alloc rfl) ?_; rintro _ _ ⟨b3, rfl, rfl⟩)
  (refine KL.eN (Eff.storeAL rfl rfl rfl byTake byLay byOnes) ?_; rintro _ _ rfl)
  refine KL.nil ?_
  refine KE.next ?_
  refine K.cutT (σ := CpS) [(3, _)] bySub (fun s kp_ => (0, .pointer (some ⟨sm.b, 0, none⟩)) :: kp_) (fun s => (b3, cells [oV s.oc sm.cl.length, .int .i64 sm.quota, .int .i64 sm.caps, .map (some s.bt), .map (some s.bh), .int .i64 sm.made, .int .i64 sm.minted] 57) :: (s.bt, mobj [] 0) :: (s.bh, mobj (sm.hs.map hE) sm.ch) :: (oH iE 3 sm.cl s.oc ++ (smH sm ++ F))) (fun s => oOk iE sm.cl s.oc) ?_ ?_
  · skip
    refine byCodeD ?_
    refine K.drawn ((sm.b, cells [oV sm.oc sm.cl.length, .int .i64 sm.quota, .int .i64 sm.caps, .map (some sm.bt), .map (some sm.bh), .int .i64 sm.made, .int .i64 sm.minted] 57) :: []) [(0, 1), (1, 1), (2, 1), (3, 1), (5, 1), (6, 1), (7, 1), (8, 1), (4, 3), (9, 3), (11, 1), (10, 3), (12, 2), (13, 1), (14, 2), (15, 1), (16, 2)] (by kernel_rfl) (by kernel_rfl) (by kernel_rfl) (by kernel_rfl) (by kernel_rfl) (by kernel_rfl) byPart ?_
    refine KD.v1 rfl rfl (Val.move rfl) ?_
    (first | refine KD.v1 rfl rfl (Val.nilCheck rfl) ?_ | refine KD.v1 rfl rfl (Val.nilCheckF rfl) ?_ | refine KD.v1 rfl rfl (Val.nilCheckY rfl) ?_)
    (first | refine KD.v1 rfl rfl (Val.fieldSl (k := 0) rfl rfl) ?_ | refine KD.v1 rfl rfl (Val.fieldAddr0 (k := 0) rfl rfl) ?_ | refine KD.v1 rfl rfl (Val.fieldAddrZ rfl rfl) ?_ | refine KD.v1 rfl rfl (Val.fieldAddr (k := 0) rfl rfl) ?_)
    refine KD.v1 rfl rfl (Val.loadP rfl rfl bySee) ?_
    refine KD.v1 rfl rfl (Val.move rfl) ?_
    (first | refine KD.v1 rfl rfl (Val.nilCheck rfl) ?_ | refine KD.v1 rfl rfl (Val.nilCheckF rfl) ?_ | refine KD.v1 rfl rfl (Val.nilCheckY rfl) ?_)
    (first | refine KD.v1 rfl rfl (Val.fieldSl (k := 4) rfl rfl) ?_ | refine KD.v1 rfl rfl (Val.fieldAddr0 (k := 4) rfl rfl) ?_ | refine KD.v1 rfl rfl (Val.fieldAddrZ rfl rfl) ?_ | refine KD.v1 rfl rfl (Val.fieldAddr (k := 4) rfl rfl) ?_)
    refine KD.v1 rfl rfl (Val.loadP rfl rfl bySee) ?_
    refine KD.fork2 (x := 4) (y := 10) (o1 := [(9, 3), (11, 1), (10, 3), (12, 2), (13, 1), (14, 2), (15, 1), (16, 2)]) (o2 := [(4, 2), (9, 2), (11, 1), (12, 2), (13, 1), (14, 2), (15, 1), (16, 2)]) (by kernel_rfl) rfl rfl (by kernel_rfl) (by kernel_rfl) ?_ ?_
    · refine ActK.callc rfl rfl byEvL fun T hT => ?_
      refine (CallV.pure fun w hw => CallV.fn (Clone_K (Sli.own byTakeL ok.oc rfl w hw) (by omega))).mono ?_
      rintro _ _ ⟨_, ⟨o1, ok1, rfl, rfl⟩, rfl⟩
      refine hT _ _ byPart ?_; clear hT; clear T
      refine KD.fork2 (x := 9) (y := 10) (o1 := [(11, 1), (10, 3), (12, 2), (13, 1), (14, 2), (15, 1), (16, 2)]) (o2 := [(9, 2), (11, 1), (12, 2), (13, 1), (14, 2), (15, 1), (16, 2)]) (by kernel_rfl) rfl rfl (by kernel_rfl) (by kernel_rfl) ?_ ?_
      · refine ActK.callc rfl rfl byEvL fun T hT => ?_
        refine (CallV.fn (mapsClone_K byTake)).mono ?_
        rintro _ _ ⟨b9, rfl, rfl⟩
        refine hT _ _ byPart ?_; clear hT; clear T
        (first | refine KD.v1 rfl rfl (Val.fieldSl (k := 0) rfl rfl) ?_ | refine KD.v1 rfl rfl (Val.fieldAddr0 (k := 0) rfl rfl) ?_ | refine KD.v1 rfl rfl (Val.fieldAddrZ rfl rfl) ?_ | refine KD.v1 rfl rfl (Val.fieldAddr (k := 0) rfl rfl) ?_)
        refine KD.fork2 (x := 10) (y := 12) (o1 := [(12, 2), (13, 1), (14, 2), (15, 1), (16, 2)]) (o2 := [(13, 1), (10, 3), (14, 2), (15, 1), (16, 2)]) (by kernel_rfl) rfl rfl (by kernel_rfl) (by kernel_rfl) ?_ ?_
        · (refine ActK.e rfl (Eff.makeMap) ?_; rintro _ _ ⟨b21, rfl, rfl⟩; refine ⟨byPart, ?_⟩)
          (first | (refine KD.eN rfl (Eff.storeL rfl rfl byOne rfl byTake bySetAt) ?_; rintro _ _ rfl; refine ⟨byPart, ?_⟩) | (refine KD.eN rfl (Eff.stSl rfl rfl rfl rfl byTakeL (by assumption) (by assumption) rfl rfl) ?_; rintro _ _ rfl; refine ⟨byPart, ?_⟩) | (refine KD.eN rfl (Eff.stSl0 rfl rfl rfl rfl byTakeL (by assumption) (by assumption) rfl rfl) ?_; rintro _ _ rfl; refine ⟨byPart, ?_⟩))
          (first | refine KD.v1 rfl rfl (Val.fieldSl (k := 4) rfl rfl) ?_ | refine KD.v1 rfl rfl (Val.fieldAddr0 (k := 4) rfl rfl) ?_ | refine KD.v1 rfl rfl (Val.fieldAddrZ rfl rfl) ?_ | refine KD.v1 rfl rfl (Val.fieldAddr (k := 4) rfl rfl) ?_)
          (first | (refine KD.eN rfl (Eff.storeL rfl rfl byOne rfl byTake bySetAt) ?_; rintro _ _ rfl; refine ⟨byPart, ?_⟩) | (refine KD.eN rfl (Eff.stSl rfl rfl rfl rfl byTakeL (by assumption) (by assumption) rfl rfl) ?_; rintro _ _ rfl; refine ⟨byPart, ?_⟩) | (refine KD.eN rfl (Eff.stSl0 rfl rfl rfl rfl byTakeL (by assumption) (by assumption) rfl rfl) ?_; rintro _ _ rfl; refine ⟨byPart, ?_⟩))
          (first | refine KD.v1 rfl rfl (Val.fieldSl (k := 3) rfl rfl) ?_ | refine KD.v1 rfl rfl (Val.fieldAddr0 (k := 3) rfl rfl) ?_ | refine KD.v1 rfl rfl (Val.fieldAddrZ rfl rfl) ?_ | refine KD.v1 rfl rfl (Val.fieldAddr (k := 3) rfl rfl) ?_)
          (first | (refine KD.eN rfl (Eff.storeL rfl rfl byOne rfl byTake bySetAt) ?_; rintro _ _ rfl; refine ⟨byPart, ?_⟩) | (refine KD.eN rfl (Eff.stSl rfl rfl rfl rfl byTakeL (by assumption) (by assumption) rfl rfl) ?_; rintro _ _ rfl; refine ⟨byPart, ?_⟩) | (refine KD.eN rfl (Eff.stSl0 rfl rfl rfl rfl byTakeL (by assumption) (by assumption) rfl rfl) ?_; rintro _ _ rfl; refine ⟨byPart, ?_⟩))
          refine KD.nil ?_
          exact KE.meet ⟨b21, b9, o1⟩ bySub (by rw [smH_app (sm := sm)]; exact byPart) ok1
        · (first | (refine ActK.eN (Eff.storeL rfl rfl byOne rfl byTake bySetAt) ?_; rintro _ _ rfl; refine ⟨byPart, ?_⟩) | (refine ActK.eN (Eff.stSl rfl rfl rfl rfl byTakeL (by assumption) (by assumption) rfl rfl) ?_; rintro _ _ rfl; refine ⟨byPart, ?_⟩) | (refine ActK.eN (Eff.stSl0 rfl rfl rfl rfl byTakeL (by assumption) (by assumption) rfl rfl) ?_; rintro _ _ rfl; refine ⟨byPart, ?_⟩))
          (first | refine KD.v1 rfl rfl (Val.fieldSl (k := 4) rfl rfl) ?_ | refine KD.v1 rfl rfl (Val.fieldAddr0 (k := 4) rfl rfl) ?_ | refine KD.v1 rfl rfl (Val.fieldAddrZ rfl rfl) ?_ | refine KD.v1 rfl rfl (Val.fieldAddr (k := 4) rfl rfl) ?_)
          refine KD.fork2 (x := 10) (y := 14) (o1 := [(14, 2), (15, 1), (16, 2)]) (o2 := [(10, 2), (15, 1), (16, 2)]) (by kernel_rfl) rfl rfl (by kernel_rfl) (by kernel_rfl) ?_ ?_
          · (refine ActK.e rfl (Eff.makeMap) ?_; rintro _ _ ⟨b21, rfl, rfl⟩; refine ⟨byPart, ?_⟩)
            (first | (refine KD.eN rfl (Eff.storeL rfl rfl byOne rfl byTake bySetAt) ?_; rintro _ _ rfl; refine ⟨byPart, ?_⟩) | (refine KD.eN rfl (Eff.stSl rfl rfl rfl rfl byTakeL (by assumption) (by assumption) rfl rfl) ?_; rintro _ _ rfl; refine ⟨byPart, ?_⟩) | (refine KD.eN rfl (Eff.stSl0 rfl rfl rfl rfl byTakeL (by assumption) (by assumption) rfl rfl) ?_; rintro _ _ rfl; refine ⟨byPart, ?_⟩))
            (first | refine KD.v1 rfl rfl (Val.fieldSl (k := 3) rfl rfl) ?_ | refine KD.v1 rfl rfl (Val.fieldAddr0 (k := 3) rfl rfl) ?_ | refine KD.v1 rfl rfl (Val.fieldAddrZ rfl rfl) ?_ | refine KD.v1 rfl rfl (Val.fieldAddr (k := 3) rfl rfl) ?_)
            (first | (refine KD.eN rfl (Eff.storeL rfl rfl byOne rfl byTake bySetAt) ?_; rintro _ _ rfl; refine ⟨byPart, ?_⟩) | (refine KD.eN rfl (Eff.stSl rfl rfl rfl rfl byTakeL (by assumption) (by assumption) rfl rfl) ?_; rintro _ _ rfl; refine ⟨byPart, ?_⟩) | (refine KD.eN rfl (Eff.stSl0 rfl rfl rfl rfl byTakeL (by assumption) (by assumption) rfl rfl) ?_; rintro _ _ rfl; refine ⟨byPart, ?_⟩))
            refine KD.nil ?_
            exact KE.meet ⟨b21, b9, o1⟩ bySub (by rw [smH_app (sm := sm)]; exact byPart) ok1
          · (first | (refine ActK.eN (Eff.storeL rfl rfl byOne rfl byTake bySetAt) ?_; rintro _ _ rfl; refine ⟨byPart, ?_⟩) | (refine ActK.eN (Eff.stSl rfl rfl rfl rfl byTakeL (by assumption) (by assumption) rfl rfl) ?_; rintro _ _ rfl; refine ⟨byPart, ?_⟩) | (refine ActK.eN (Eff.stSl0 rfl rfl rfl rfl byTakeL (by assumption) (by assumption) rfl rfl) ?_; rintro _ _ rfl; refine ⟨byPart, ?_⟩))
            (refine KD.e rfl rfl (Eff.makeMap) ?_; rintro _ _ ⟨b21, rfl, rfl⟩; refine ⟨byPart, ?_⟩)
            (first | refine KD.v1 rfl rfl (Val.fieldSl (k := 3) rfl rfl) ?_ | refine KD.v1 rfl rfl (Val.fieldAddr0 (k := 3) rfl rfl) ?_ | refine KD.v1 rfl rfl (Val.fieldAddrZ rfl rfl) ?_ | refine KD.v1 rfl rfl (Val.fieldAddr (k := 3) rfl rfl) ?_)
            (first | (refine KD.eN rfl (Eff.storeL rfl rfl byOne rfl byTake bySetAt) ?_; rintro _ _ rfl; refine ⟨byPart, ?_⟩) | (refine KD.eN rfl (Eff.stSl rfl rfl rfl rfl byTakeL (by assumption) (by assumption) rfl rfl) ?_; rintro _ _ rfl; refine ⟨byPart, ?_⟩) | (refine KD.eN rfl (Eff.stSl0 rfl rfl rfl rfl byTakeL (by assumption) (by assumption) rfl rfl) ?_; rintro _ _ rfl; refine ⟨byPart, ?_⟩))
            refine KD.nil ?_
            exact KE.meet ⟨b21, b9, o1⟩ bySub (by rw [smH_app (sm := sm)]; exact byPart) ok1
      · (refine ActK.e rfl (Eff.makeMap) ?_; rintro _ _ ⟨b21, rfl, rfl⟩; refine ⟨byPart, ?_⟩)
        refine KD.callc rfl rfl rfl byEvL fun T hT => ?_
        refine (CallV.fn (mapsClone_K byTake)).mono ?_
        rintro _ _ ⟨b9, rfl, rfl⟩
        refine hT _ _ byPart ?_; clear hT; clear T
        (first | refine KD.v1 rfl rfl (Val.fieldSl (k := 0) rfl rfl) ?_ | refine KD.v1 rfl rfl (Val.fieldAddr0 (k := 0) rfl rfl) ?_ | refine KD.v1 rfl rfl (Val.fieldAddrZ rfl rfl) ?_ | refine KD.v1 rfl rfl (Val.fieldAddr (k := 0) rfl rfl) ?_)
        (first | (refine KD.eN rfl (Eff.storeL rfl rfl byOne rfl byTake bySetAt) ?_; rintro _ _ rfl; refine ⟨byPart, ?_⟩) | (refine KD.eN rfl (Eff.stSl rfl rfl rfl rfl byTakeL (by assumption) (by assumption) rfl rfl) ?_; rintro _ _ rfl; refine ⟨byPart, ?_⟩) | (refine KD.eN rfl (Eff.stSl0 rfl rfl rfl rfl byTakeL (by assumption) (by assumption) rfl rfl) ?_; rintro _ _ rfl; refine ⟨byPart, ?_⟩))
        (first | refine KD.v1 rfl rfl (Val.fieldSl (k := 4) rfl rfl) ?_ | refine KD.v1 rfl rfl (Val.fieldAddr0 (k := 4) rfl rfl) ?_ | refine KD.v1 rfl rfl (Val.fieldAddrZ rfl rfl) ?_ | refine KD.v1 rfl rfl (Val.fieldAddr (k := 4) rfl rfl) ?_)
        (first | (refine KD.eN rfl (Eff.storeL rfl rfl byOne rfl byTake bySetAt) ?_; rintro _ _ rfl; refine ⟨byPart, ?_⟩) | (refine KD.eN rfl (Eff.stSl rfl rfl rfl rfl byTakeL (by assumption) (by assumption) rfl rfl) ?_; rintro _ _ rfl; refine ⟨byPart, ?_⟩) | (refine KD.eN rfl (Eff.stSl0 rfl rfl rfl rfl byTakeL (by assumption) (by assumption) rfl rfl) ?_; rintro _ _ rfl; refine ⟨byPart, ?_⟩))
        (first | refine KD.v1 rfl rfl (Val.fieldSl (k := 3) rfl rfl) ?_ | refine KD.v1 rfl rfl (Val.fieldAddr0 (k := 3) rfl rfl) ?_ | refine KD.v1 rfl rfl (Val.fieldAddrZ rfl rfl) ?_ | refine KD.v1 rfl rfl (Val.fieldAddr (k := 3) rfl rfl) ?_)
        (first | (refine KD.eN rfl (Eff.storeL rfl rfl byOne rfl byTake bySetAt) ?_; rintro _ _ rfl; refine ⟨byPart, ?_⟩) | (refine KD.eN rfl (Eff.stSl rfl rfl rfl rfl byTakeL (by assumption) (by assumption) rfl rfl) ?_; rintro _ _ rfl; refine ⟨byPart, ?_⟩) | (refine KD.eN rfl (Eff.stSl0 rfl rfl rfl rfl byTakeL (by assumption) (by assumption) rfl rfl) ?_; rintro _ _ rfl; refine ⟨byPart, ?_⟩))
        refine KD.nil ?_
        exact KE.meet ⟨b21, b9, o1⟩ bySub (by rw [smH_app (sm := sm)]; exact byPart) ok1
    · (refine ActK.e rfl (Eff.makeMap) ?_; rintro _ _ ⟨b21, rfl, rfl⟩; refine ⟨byPart, ?_⟩)
      refine KD.callc rfl rfl rfl byEvL fun T hT => ?_
      refine (CallV.pure fun w hw => CallV.fn (Clone_K (Sli.own byTakeL ok.oc rfl w hw) (by omega))).mono ?_
      rintro _ _ ⟨_, ⟨o1, ok1, rfl, rfl⟩, rfl⟩
      refine hT _ _ byPart ?_; clear hT; clear T
      refine KD.callc rfl rfl rfl byEvL fun T hT => ?_
      refine (CallV.fn (mapsClone_K byTake)).mono ?_
      rintro _ _ ⟨b9, rfl, rfl⟩
      refine hT _ _ byPart ?_; clear hT; clear T
      (first | refine KD.v1 rfl rfl (Val.fieldSl (k := 0) rfl rfl) ?_ | refine KD.v1 rfl rfl (Val.fieldAddr0 (k := 0) rfl rfl) ?_ | refine KD.v1 rfl rfl (Val.fieldAddrZ rfl rfl) ?_ | refine KD.v1 rfl rfl (Val.fieldAddr (k := 0) rfl rfl) ?_)
      (first | (refine KD.eN rfl (Eff.storeL rfl rfl byOne rfl byTake bySetAt) ?_; rintro _ _ rfl; refine ⟨byPart, ?_⟩) | (refine KD.eN rfl (Eff.stSl rfl rfl rfl rfl byTakeL (by assumption) (by assumption) rfl rfl) ?_; rintro _ _ rfl; refine ⟨byPart, ?_⟩) | (refine KD.eN rfl (Eff.stSl0 rfl rfl rfl rfl byTakeL (by assumption) (by assumption) rfl rfl) ?_; rintro _ _ rfl; refine ⟨byPart, ?_⟩))
      (first | refine KD.v1 rfl rfl (Val.fieldSl (k := 4) rfl rfl) ?_ | refine KD.v1 rfl rfl (Val.fieldAddr0 (k := 4) rfl rfl) ?_ | refine KD.v1 rfl rfl (Val.fieldAddrZ rfl rfl) ?_ | refine KD.v1 rfl rfl (Val.fieldAddr (k := 4) rfl rfl) ?_)
      (first | (refine KD.eN rfl (Eff.storeL rfl rfl byOne rfl byTake bySetAt) ?_; rintro _ _ rfl; refine ⟨byPart, ?_⟩) | (refine KD.eN rfl (Eff.stSl rfl rfl rfl rfl byTakeL (by assumption) (by assumption) rfl rfl) ?_; rintro _ _ rfl; refine ⟨byPart, ?_⟩) | (refine KD.eN rfl (Eff.stSl0 rfl rfl rfl rfl byTakeL (by assumption) (by assumption) rfl rfl) ?_; rintro _ _ rfl; refine ⟨byPart, ?_⟩))
      (first | refine KD.v1 rfl rfl (Val.fieldSl (k := 3) rfl rfl) ?_ | refine KD.v1 rfl rfl (Val.fieldAddr0 (k := 3) rfl rfl) ?_ | refine KD.v1 rfl rfl (Val.fieldAddrZ rfl rfl) ?_ | refine KD.v1 rfl rfl (Val.fieldAddr (k := 3) rfl rfl) ?_)
      (first | (refine KD.eN rfl (Eff.storeL rfl rfl byOne rfl byTake bySetAt) ?_; rintro _ _ rfl; refine ⟨byPart, ?_⟩) | (refine KD.eN rfl (Eff.stSl rfl rfl rfl rfl byTakeL (by assumption) (by assumption) rfl rfl) ?_; rintro _ _ rfl; refine ⟨byPart, ?_⟩) | (refine KD.eN rfl (Eff.stSl0 rfl rfl rfl rfl byTakeL (by assumption) (by assumption) rfl rfl) ?_; rintro _ _ rfl; refine ⟨byPart, ?_⟩))
      refine KD.nil ?_
      exact KE.meet ⟨b21, b9, o1⟩ bySub (by rw [smH_app (sm := sm)]; exact byPart) ok1
  · rintro ⟨bt, bh, oc⟩ okc
    dsimp only at okc ⊢
    have hmt := ok.mt
    (rw [smH_app (sm := sm)])
    refine K.seq ?_
    refine K.seq ?_
    refine K.region ?_
    (refine KL.v rfl (Val.move rfl) ?_)
    (refine KL.v rfl (Val.nilCheck rfl) ?_)
    (refine KL.v rfl (Val.fieldAddr0 (k := 3) rfl rfl) ?_)
    (refine KL.v rfl (Val.loadP rfl rfl (Sees.cell byTake rfl)) ?_)
    (refine KL.e rfl (Eff.rangeM rfl rfl byTake) ?_; rintro _ _ ⟨b29, rfl, rfl⟩)
    refine KL.nil ?_
    refine KE.next ?_
    refine K.block ?_
    refine K.loopT (σ := CpL) [(3, _), (29, _)] (fun s kp_ => (0, .pointer (some ⟨sm.b, 0, none⟩)) :: kp_) (fun s => (b29, itO sm.bt sm.ct (s.pk.map tE)) :: (smH (copM sm b3 ⟨bt, bh, oc⟩ s.ts s.ct) ++ (smH sm ++ F))) (fun s => (∀ t ∈ s.pk, t ∈ sm.ts) ∧ SOk (copM sm b3 ⟨bt, bh, oc⟩ s.ts s.ct) ∧ (∀ i x, tf s.ts i = some x ↔ ∃ t ∈ s.pk, t.k = i ∧ t.x = x)) (fun s => (mleft (sm.ts.map tE) (s.pk.map tE)).length) (⟨[], [], 0⟩) bySub (by rw [smH_app (sm := sm), smH_app (sm := copM sm b3 ⟨bt, bh, oc⟩ [] 0)]; exact byPart) (⟨by simp, ⟨MOk.nil, ok.mh, okc, by intro t ht; cases ht⟩, by intro i x; simp [tf]⟩) ?_
    rintro ⟨pk, ts, ct⟩ ⟨hpk, hok, htf⟩
    dsimp only at hpk hok htf ⊢
    (rw [smH_app (sm := sm)])
    refine byCode ?_
    refine KL.e rfl (Eff.nextM rfl byTake byTake hmt) ?_
    rintro _ _ (⟨rfl, hall, rfl⟩ | ⟨e, he, hn', rfl, rfl⟩)
    · have hst : (copM sm b3 ⟨bt, bh, oc⟩ ts ct).st = sm.st := by
        have e : tf ts = tf sm.ts := by
          funext i
          apply Option.ext
          intro x
          rw [htf]
          constructor
          · rintro ⟨t, ht, rfl, rfl⟩; exact tf_mem ok (hpk t ht)
          · intro h
            obtain ⟨A, t, B, hts, hk, hx, _⟩ := tf_split h
            have ht : t ∈ sm.ts := by rw [hts]; simp
            have := hall (tE t) (List.mem_map_of_mem ht)
            obtain ⟨e', he', hn'⟩ := List.mem_map.1 this
            obtain ⟨t', ht', rfl⟩ := List.mem_map.1 he'
            have e1 := stamp_inj hmt (List.mem_map_of_mem (hpk t' ht')) (List.mem_map_of_mem ht) hn'
            have hkk : t'.k = t.k := congrArg ME.k e1
            refine ⟨t', ht', by rw [hkk, hk], ?_⟩
            have h1 := tf_mem ok (hpk t' ht')
            rw [hkk, hk, h] at h1
            exact (Option.some.inj h1).symm
        show (⟨sm.cl, sm.quota, sm.caps, tf ts, hf sm.hs, sm.made, sm.minted⟩ : St) = _
        rw [e]; rfl
      (refine KL.v rfl (Val.extract rfl rfl) ?_)
      refine KL.nil ?_
      refine KE.next ?_
      refine K.seq ?_
      refine K.condF rfl ?_
      refine K.exit ?_
      refine KE.passX ?_
      refine KE.passX ?_
      refine KE.blkX ?_
      refine KE.next ?_
      refine K.seq ?_
      refine K.region ?_
      (refine KL.v rfl (Val.assign rfl) ?_)
      refine KL.nil ?_
      refine KE.next ?_
      refine K.ret ?_
      exact KE.fin byMarks rfl byRes (by first | exact byPart | (rw [smH_app (sm := sm)]; exact byPart)) ⟨copM sm b3 ⟨bt, bh, oc⟩ ts ct, hok, hst, rfl, rfl⟩
    · obtain ⟨t, ht, rfl⟩ := List.mem_map.1 he
      have hlt := mleft_lt he hn'
      have htx := tf_mem ok ht
      have hrl := hr _ _ htx
      have hto := ok.ts t ht
      obtain ⟨A, B, hts⟩ := List.append_of_mem ht
      have htH : tsH sm.ts = tsH A ++ (oH iE 3 t.x.refs t.o1 ++ (oH uE 40 t.x.words t.o2 ++ tsH B)) := by rw [hts, tsH_app]; simp only [tsH, tH, List.append_assoc]
      have hnew : tf ts t.k = none := by
        cases h : tf ts t.k with
        | none => rfl
        | some y =>
          obtain ⟨t', ht', hk', _⟩ := (htf _ _).1 h
          have e1 := key_inj hmt (List.mem_map_of_mem (hpk t' ht')) he (show (tE t').k = (tE t).k from hk')
          refine absurd ?_ hn'
          rw [← e1]
          exact List.mem_map_of_mem (List.mem_map_of_mem ht')
      have hv : (tE t).v = .agg [oV t.o1 t.x.refs.length, oV t.o2 t.x.words.length, .int .i64 t.x.size, .int .i64 t.x.pins].toArray := rfl
      have hk : (tE t).k = t.k := rfl
      have hsn : ∀ o1 o2, addT (copM sm b3 ⟨bt, bh, oc⟩ ts ct) t.k t.x o1 o2 = copM sm b3 ⟨bt, bh, oc⟩ (ts ++ [⟨t.k, t.x, o1, o2, ct⟩]) (ct + 1) := fun _ _ => rfl
      have hput := fun o1 o2 => addT_put (sm := copM sm b3 ⟨bt, bh, oc⟩ ts ct) (o1 := o1) (o2 := o2) (x := t.x) hnew
      unfold tV at hput
      rw [smH_app (sm := copM sm b3 ⟨bt, bh, oc⟩ ts ct), htH]
      simp only [List.append_assoc]
      (refine KL.v rfl (Val.extract rfl rfl) ?_)
      refine KL.nil ?_
      refine KE.next ?_
      refine K.seq ?_
      refine K.condT rfl ?_
      refine K.skip ?_
      refine KE.next ?_
      refine K.block ?_
      refine K.seq ?_
      refine K.region ?_
      (refine KL.v rfl (Val.entryM rfl byTake byTake (by assumption) (by assumption)) ?_)
      (refine KL.v rfl (Val.extract rfl rfl) ?_)
      (refine KL.v rfl (Val.extract rfl rfl) ?_)
      (refine KL.e rfl (Eff.alloc rfl) ?_; rintro _ _ ⟨b5, rfl, rfl⟩)
      (refine KL.v rfl (Val.assign rfl) ?_)
      (refine KL.eN (Eff.storeAL rfl rfl rfl byTake byLay byOnes) ?_; rintro _ _ rfl)
      refine KL.nil ?_
      refine KE.next ?_
      refine byCodeD ?_
      (first | refine K.seq (K.drawn ((b3, cells [oV oc sm.cl.length, .int .i64 sm.quota, .int .i64 sm.caps, .map (some bt), .map (some bh), .int .i64 sm.made, .int .i64 sm.minted] 57) :: []) [(0, 1), (1, 1), (2, 1), (3, 0), (4, 2), (5, 2)] (by kernel_rfl) (by kernel_rfl) (by kernel_rfl) (by kernel_rfl) (by kernel_rfl) (by kernel_rfl) byPart ?_) | refine K.seq (K.seq (K.drawn ((b3, cells [oV oc sm.cl.length, .int .i64 sm.quota, .int .i64 sm.caps, .map (some bt), .map (some bh), .int .i64 sm.made, .int .i64 sm.minted] 57) :: []) [(0, 1), (1, 1), (2, 1), (3, 0), (4, 2), (5, 2)] (by kernel_rfl) (by kernel_rfl) (by kernel_rfl) (by kernel_rfl) (by kernel_rfl) (by kernel_rfl) byPart ?_)) | refine K.drawn ((b3, cells [oV oc sm.cl.length, .int .i64 sm.quota, .int .i64 sm.caps, .map (some bt), .map (some bh), .int .i64 sm.made, .int .i64 sm.minted] 57) :: []) [(0, 1), (1, 1), (2, 1), (3, 0), (4, 2), (5, 2)] (by kernel_rfl) (by kernel_rfl) (by kernel_rfl) (by kernel_rfl) (by kernel_rfl) (by kernel_rfl) byPart ?_)
      (first | refine KD.v1 rfl rfl (Val.fieldSl (k := 3) rfl rfl) ?_ | refine KD.v1 rfl rfl (Val.fieldAddr0 (k := 3) rfl rfl) ?_ | refine KD.v1 rfl rfl (Val.fieldAddrZ rfl rfl) ?_ | refine KD.v1 rfl rfl (Val.fieldAddr (k := 3) rfl rfl) ?_)
      refine KD.v1 rfl rfl (Val.loadP rfl rfl bySee) ?_
      refine KD.v1 rfl rfl (Val.move rfl) ?_
      (first | refine KD.v0 rfl rfl (Val.loadAP rfl rfl rfl bySeeA) ?_ | refine KD.v0 rfl rfl (Val.loadA rfl rfl rfl bySeeN) ?_)
      refine KD.callc rfl rfl rfl byEvL fun T hT => ?_
      refine (CallV.pure fun w hw => CallV.fn (own_K (Sli.own byTakeL hto.1 rfl w hw) (Sli.own byTakeL hto.2 rfl w hw) (by omega) (by omega))).mono ?_
      rintro _ _ ⟨_, ⟨o1, o2, k1, k2, rfl, rfl⟩, rfl⟩
      simp only [List.append_assoc]
      refine hT _ _ byPart ?_; clear hT; clear T
      (refine KD.eN rfl (Eff.mapUp rfl rfl rfl rfl byTake) ?_; rintro _ _ rfl; refine ⟨byPart, ?_⟩)
      refine KD.nil ?_
      rw [hk, (hput o1 o2).1, (hput o1 o2).2]
      have hok2 := addT_ok hok hnew k1 k2
      rw [hsn] at hok2
      have hts2 : tsH (ts ++ [⟨t.k, t.x, o1, o2, ct⟩]) = tsH ts ++ (oH iE 3 t.x.refs o1 ++ oH uE 40 t.x.words o2) := by rw [tsH_app]; simp only [tsH, tH, List.append_nil]
      refine KE.blkN ?_
      refine KE.again ⟨pk ++ [t], ts ++ [⟨t.k, t.x, o1, o2, ct⟩], ct + 1⟩ bySub (by
        dsimp only
        rw [show (pk ++ [t]).map tE = pk.map tE ++ [tE t] by rw [List.map_append]; rfl, smH_app (sm := copM sm b3 ⟨bt, bh, oc⟩ _ _), show (copM sm b3 ⟨bt, bh, oc⟩ (ts ++ [⟨t.k, t.x, o1, o2, ct⟩]) (ct + 1)).ts = ts ++ [⟨t.k, t.x, o1, o2, ct⟩] from rfl, hts2]
        simp only [List.append_assoc]
        first | exact byPart | (rw [smH_app (sm := sm), htH]; simp only [List.append_assoc]; exact byPart)) ⟨fun e he' => ?_, hok2, fun i x => ?_⟩ (by show (mleft (sm.ts.map tE) ((pk ++ [t]).map tE)).length < _; rw [List.map_append]; exact hlt)
      · rcases List.mem_append.1 he' with h' | h'
        · exact hpk e h'
        · rw [List.mem_singleton.1 h']; exact ht
      · dsimp only
        have e := tf_snoc (t := ⟨t.k, t.x, o1, o2, ct⟩) (tf_none.1 hnew)
        rw [e]
        dsimp only
        constructor
        · intro h
          split at h
          · rename_i h2; cases h; exact ⟨t, by simp, h2.symm, rfl⟩
          · obtain ⟨t', ht', h3⟩ := (htf i x).1 h
            exact ⟨t', List.mem_append_left _ ht', h3⟩
        · rintro ⟨t', ht', hk', hx'⟩
          rcases List.mem_append.1 ht' with h' | h'
          · rw [if_neg (by
              intro h2
              have := (htf i x).2 ⟨t', h', hk', hx'⟩
              rw [h2, hnew] at this; cases this)]
            exact (htf i x).2 ⟨t', h', hk', hx'⟩
          · rw [List.mem_singleton.1 h'] at hk' hx'
            rw [if_pos hk'.symm, hx']
end Go.Proofs.YthamkgghnjenhaaGreat
namespace Go.Proofs.YthamkgghnjenhaaGreat
open Go.RowKit
set_option linter.unusedVariables false
set_option linter.unusedSimpArgs false

structure Inv (S : St) : Prop where
  st : StOk S
  gc : ∀ i, (S.T i).isSome → Rch S i
  us : usedP S ≤ S.quota
  caps : 0 ≤ S.caps ∧ S.caps ≤ 1024
theorem used_all (S : St) : usedP S = ((upTo S.made).map (szP S)).sum := by
  unfold usedP objsP
  induction upTo S.made with
  | nil => rfl
  | cons i l ih =>
    rw [List.filter_cons]
    cases h : S.T i with
    | none =>
      have : szP S i = 0 := by simp [szP, h]
      simp only [Option.isSome_none, Bool.false_eq_true, if_false, List.map_cons, List.sum_cons, this, ih]; omega
    | some x => simp only [Option.isSome_some, if_true, List.map_cons, List.sum_cons, ih]
theorem sum_le {f g : Int → Int} : ∀ {l : List Int}, (∀ i ∈ l, f i ≤ g i) → (l.map f).sum ≤ (l.map g).sum
  | [], _ => by simp
  | i :: l, h => by
    have := sum_le (f := f) (g := g) (l := l) fun j hj => h j (.tail _ hj)
    have := h i (.head _)
    simp only [List.map_cons, List.sum_cons]; omega
theorem sz_some {S : St} {i : Int} {x : Th} (h : S.T i = some x) : szP S i = x.size := by simp [szP, h]
theorem sz_none {S : St} {i : Int} (h : S.T i = none) : szP S i = 0 := by simp [szP, h]
/-- a state that differs in what is reached only by being more -/
theorem rch_mono {S S' : St} (hH : ∀ h i, S.Hd h = some i → Rch S' i) (hT : ∀ i x, S.T i = some x → ∃ x', S'.T i = some x' ∧ (0 < x.pins → Rch S' i) ∧ x'.refs = x.refs) {i : Int} (h : Rch S i) : Rch S' i := by
  induction h with
  | hand h1 => exact hH _ _ h1
  | pin h1 h2 => obtain ⟨x', _, h3, _⟩ := hT _ _ h1; exact h3 h2
  | ref h1 h2 h3 h4 ih => obtain ⟨x', e1, _, e2⟩ := hT _ _ h2; exact .ref ih e1 (by rw [e2]; exact h3) h4
theorem new_T {cl : List Int} {quota caps i : Int} : (newS cl quota caps).T i = none := rfl
theorem new_H {cl : List Int} {quota caps i : Int} : (newS cl quota caps).Hd i = none := rfl
theorem inv_new {cl : List Int} {quota caps : Int} (h : newOk cl quota caps) : Inv (newS cl quota caps) := by
  refine ⟨⟨⟨⟨fun i x hx => ?_, fun h i hh => ?_⟩, fun i x r hx => ?_, fun h i hh => ?_⟩, fun i x hx => ?_, h.1, h.2.1⟩, fun i hx => ?_, ?_, h.2.2⟩
  · rw [new_T] at hx; cases hx
  · rw [new_H] at hh; cases hh
  · rw [new_T] at hx; cases hx
  · rw [new_H] at hh; cases hh
  · rw [new_T] at hx; cases hx
  · rw [new_T] at hx; cases hx
  · rw [used_all]
    show ((upTo 0).map _).sum ≤ quota
    have := h.2.1
    simp [upTo]; omega
theorem inv_mint {S : St} (hI : Inv S) {id : Int} (hid : (S.T id).isSome) : Inv (mintP S id).1 := by
  unfold mintP
  split
  · exact hI
  have hC := hI.st.closed
  obtain ⟨S', hS'⟩ : ∃ S' : St, S' = { S with minted := S.minted + 1, Hd := fun h => if h = (S.minted : Int) + 1 then some id else S.Hd h } := ⟨_, rfl⟩
  show Inv ({ S with minted := S.minted + 1, Hd := fun h => if h = (S.minted : Int) + 1 then some id else S.Hd h } : St)
  rw [← hS']
  have hT : S'.T = S.T := by rw [hS']
  have hH1 : S'.Hd ((S.minted : Int) + 1) = some id := by rw [hS']; show (if _ then _ else _) = _; rw [if_pos rfl]
  have hH2 : ∀ j, j ≠ (S.minted : Int) + 1 → S'.Hd j = S.Hd j := fun j hj => by rw [hS']; show (if _ then _ else _) = _; rw [if_neg hj]
  have hmd : S'.made = S.made := by rw [hS']
  have hmt : S'.minted = S.minted + 1 := by rw [hS']
  have hcl : S'.cl = S.cl := by rw [hS']
  have hqu : S'.quota = S.quota := by rw [hS']
  have hca : S'.caps = S.caps := by rw [hS']
  clear hS'
  refine ⟨⟨⟨⟨by rw [hT, hmd]; exact hC.nums.t, fun h i hh => ?_⟩, by rw [hT]; exact hC.rf, fun h i hh => ?_⟩, by rw [hT]; exact hI.st.tx, by rw [hcl]; exact hI.st.cl, by rw [hqu]; exact hI.st.quota⟩, fun i hi => ?_, ?_, by rw [hca]; exact hI.caps⟩
  · rw [hmt]
    by_cases e : h = (S.minted : Int) + 1
    · omega
    · rw [hH2 h e] at hh; have := hC.nums.h _ _ hh; omega
  · rw [hT]
    by_cases e : h = (S.minted : Int) + 1
    · subst e; rw [hH1] at hh; cases hh; exact hid
    · rw [hH2 h e] at hh; exact hC.hr _ _ hh
  · rw [hT] at hi
    refine rch_mono (S := S) (fun h j hj => .hand (h := h) (by rw [hH2 h (by have := hC.nums.h _ _ hj; omega)]; exact hj)) (fun j x hx => ?_) (hI.gc i hi)
    have hx' : S'.T j = some x := by rw [hT]; exact hx
    exact ⟨x, hx', fun hp => .pin hx' hp, rfl⟩
  · rw [hqu]
    have : usedP S' = usedP S := by
      rw [used_all, used_all, hmd]
      have : szP S' = szP S := by funext i; unfold szP; rw [hT]
      rw [this]
    rw [this]; exact hI.us
theorem mint_made (S : St) (id : Int) : (mintP S id).1.made = S.made ∧ (mintP S id).1.T = S.T ∧ (mintP S id).1.minted ≤ S.minted + 1 ∧ S.minted ≤ (mintP S id).1.minted ∧ (mintP S id).1.cl = S.cl ∧ (mintP S id).1.quota = S.quota ∧ (mintP S id).1.caps = S.caps := by
  unfold mintP; split
  · exact ⟨rfl, rfl, Nat.le_succ _, Nat.le_refl _, rfl, rfl, rfl⟩
  · exact ⟨rfl, rfl, Nat.le_refl _, Nat.le_succ _, rfl, rfl, rfl⟩
theorem set_some {S : St} {i : Int} {x : Th} : (setTP S i x).T i = some x := by show (if i = i then some x else S.T i) = _; rw [if_pos rfl]
theorem set_ne {S : St} {i j : Int} {x : Th} (h : j ≠ i) : (setTP S i x).T j = S.T j := by show (if j = i then some x else S.T j) = _; rw [if_neg h]
/-- an object that is turned in place: words, pins, references -/
theorem stok_set {S : St} (hS : StOk S) {i : Int} {x x' : Th} (hx : S.T i = some x) (ht : ThOk x') (hr : ∀ r ∈ x'.refs, r ≠ 0 → (S.T r).isSome) : StOk (setTP S i x') := by
  refine ⟨closed_set hS.closed hx hr, fun j y hy => ?_, hS.cl, hS.quota⟩
  by_cases e : j = i
  · subst e; rw [set_some] at hy; cases hy; exact ht
  · rw [set_ne e] at hy; exact hS.tx j y hy
theorem used_set {S : St} {i : Int} {x x' : Th} (hx : S.T i = some x) (hs : x'.size = x.size) : usedP (setTP S i x') = usedP S := by
  rw [used_all, used_all]
  show ((upTo S.made).map _).sum = _
  congr 1
  refine List.map_congr_left fun j _ => ?_
  by_cases e : j = i
  · subst e; rw [sz_some set_some, sz_some hx, hs]
  · unfold szP; rw [set_ne e]
theorem inv_set {S : St} (hI : Inv S) {i h : Int} {x x' : Th} (hh : S.Hd h = some i) (hx : S.T i = some x) (ht : ThOk x') (hr : x'.refs = x.refs) (hs : x'.size = x.size) : Inv (setTP S i x') := by
  refine ⟨stok_set hI.st hx ht (fun r hm h0 => hI.st.closed.rf i x r hx (hr ▸ hm) h0), fun j hj => ?_, by rw [used_set hx hs]; exact hI.us, hI.caps⟩
  have hj' : (S.T j).isSome := by
    by_cases e : j = i
    · subst e; rw [hx]; rfl
    · rw [set_ne e] at hj; exact hj
  refine rch_mono (S := S) (fun k l hk => .hand (S := setTP S i x') hk) (fun k y hy => ?_) (hI.gc j hj')
  by_cases e : k = i
  · subst e
    rw [hx] at hy; cases hy
    exact ⟨x', set_some, fun _ => .hand (S := setTP S k x') hh, hr⟩
  · exact ⟨y, by rw [set_ne e]; exact hy, fun hp => .pin (by rw [set_ne e]; exact hy) hp, rfl⟩
/-- behind a sweep -/
theorem swept_inv {S S' : St} (hS : StOk S) (hw : Swept S S') (hu : usedP S ≤ S.quota) (hc : 0 ≤ S.caps ∧ S.caps ≤ 1024) : Inv S' := by
  have hC := hS.closed
  have key : ∀ i, Rch S i → Rch S' i := fun i h => by
    induction h with
    | hand h1 => exact .hand (by rw [hw.Hd]; exact h1)
    | pin h1 h2 => exact .pin ((hw.T _ _).2 ⟨h1, .pin h1 h2⟩) h2
    | ref h1 h2 h3 h4 ih => exact .ref ih ((hw.T _ _).2 ⟨h2, h1⟩) h3 h4
  have there : ∀ i, (S.T i).isSome → Rch S i → (S'.T i).isSome := fun i h1 h2 => by
    obtain ⟨x, hx⟩ := Option.isSome_iff_exists.1 h1
    rw [(hw.T i x).2 ⟨hx, h2⟩]; rfl
  refine ⟨⟨⟨⟨fun i x h => ?_, fun h i hh => ?_⟩, fun i x r hx hm h0 => ?_, fun h i hh => ?_⟩, fun i x hx => hS.tx i x ((hw.T i x).1 hx).1, by rw [hw.cl]; exact hS.cl, by rw [hw.quota]; exact hS.quota⟩, fun i hi => ?_, ?_, by rw [hw.caps]; exact hc⟩
  · rw [hw.made]; exact hC.nums.t i x ((hw.T i x).1 h).1
  · rw [hw.minted]; rw [hw.Hd] at hh; exact hC.nums.h h i hh
  · obtain ⟨h1, h2⟩ := (hw.T i x).1 hx
    exact there r (hC.rf i x r h1 hm h0) (.ref h2 h1 hm h0)
  · rw [hw.Hd] at hh
    exact there i (hC.hr h i hh) (.hand hh)
  · obtain ⟨x, hx⟩ := Option.isSome_iff_exists.1 hi
    exact key i ((hw.T i x).1 hx).2
  · rw [hw.quota]
    refine Int.le_trans ?_ hu
    rw [used_all, used_all, hw.made]
    refine sum_le fun i _ => ?_
    cases h : S'.T i with
    | none =>
      rw [sz_none h]
      cases h2 : S.T i with
      | none => rw [sz_none h2]; omega
      | some y => rw [sz_some h2]; have := (hS.tx i y h2).sz; omega
    | some x => rw [sz_some h, sz_some ((hw.T i x).1 h).1]; exact Int.le_refl _
theorem new_ok {a b size : Int} (h : mayP 0 a b = true) (hs : a + b + 1 ≤ size ∧ size ≤ 64) : ThOk (newTh a b size) := by
  simp only [mayP, decide_eq_true_eq] at h
  refine ⟨⟨?_, hs.2⟩, ⟨Int.le_refl _, by show (0 : Int) ≤ 255; omega⟩, fun w hw => ?_⟩
  · show ((List.replicate a.toNat (0 : Int)).length : Int) + (List.replicate b.toNat (0 : Int)).length + 1 ≤ size
    rw [List.length_replicate, List.length_replicate]; omega
  · have := List.eq_of_mem_replicate (show w ∈ List.replicate b.toNat (0 : Int) from hw); omega
theorem inv_alloc {S : St} (hI : Inv S) (op : OpP) : Inv (allocP S op).1 := by
  unfold allocP
  split
  · rename_i h0
    have hrb := round_bnd (n := op.a + op.b + 1) hI.st.cl h0.2
    obtain ⟨sz, hsz⟩ : ∃ sz, (roundP S.cl (op.a + op.b + 1)).1 = sz := ⟨_, rfl⟩
    rw [hsz] at hrb ⊢
    split
    · exact hI
    · rename_i hq
      split
      · rename_i he
        have hC := hI.st.closed
        have hmint : mintP S ((S.made : Int) + 1) = ({ S with minted := S.minted + 1, Hd := fun h => if h = (S.minted : Int) + 1 then some ((S.made : Int) + 1) else S.Hd h }, ⟨0, (S.minted : Int) + 1, 0⟩) := by
          unfold mintP at he ⊢
          split
          · rename_i h; rw [if_pos h] at he; simp at he
          · rfl
        rw [hmint]
        have hnone : S.T ((S.made : Int) + 1) = none := by
          cases h : S.T ((S.made : Int) + 1) with
          | none => rfl
          | some y => have := hC.nums.t _ _ h; omega
        have hth := new_ok h0.1 ⟨hrb.2.1, hrb.2.2.2⟩
        obtain ⟨S', hS'⟩ : ∃ S' : St, S' = { S with minted := S.minted + 1, Hd := fun h => if h = (S.minted : Int) + 1 then some ((S.made : Int) + 1) else S.Hd h, made := S.made + 1, T := fun j => if j = (S.made : Int) + 1 then some (newTh op.a op.b sz) else S.T j } := ⟨_, rfl⟩
        have hT1 : S'.T ((S.made : Int) + 1) = some (newTh op.a op.b sz) := by rw [hS']; show (if _ then _ else _) = _; rw [if_pos rfl]
        have hT2 : ∀ j, j ≠ (S.made : Int) + 1 → S'.T j = S.T j := fun j hj => by rw [hS']; show (if _ then _ else _) = _; rw [if_neg hj]
        have hH1 : S'.Hd ((S.minted : Int) + 1) = some ((S.made : Int) + 1) := by rw [hS']; show (if _ then _ else _) = _; rw [if_pos rfl]
        have hH2 : ∀ j, j ≠ (S.minted : Int) + 1 → S'.Hd j = S.Hd j := fun j hj => by rw [hS']; show (if _ then _ else _) = _; rw [if_neg hj]
        have hmd : S'.made = S.made + 1 := by rw [hS']
        have hmt : S'.minted = S.minted + 1 := by rw [hS']
        have hcl : S'.cl = S.cl := by rw [hS']
        have hqu : S'.quota = S.quota := by rw [hS']
        have hca : S'.caps = S.caps := by rw [hS']
        show Inv ({ S with minted := S.minted + 1, Hd := fun h => if h = (S.minted : Int) + 1 then some ((S.made : Int) + 1) else S.Hd h, made := S.made + 1, T := fun j => if j = (S.made : Int) + 1 then some (newTh op.a op.b sz) else S.T j } : St)
        rw [← hS']
        clear hS'
        have hsome : ∀ j, (S.T j).isSome → (S'.T j).isSome := fun j hj => by
          rw [hT2 j (by intro e; subst e; rw [hnone] at hj; cases hj)]; exact hj
        refine ⟨⟨⟨⟨fun i x h => ?_, fun h i hh => ?_⟩, fun i x r hx hm h00 => ?_, fun h i hh => ?_⟩, fun i x hx => ?_, by rw [hcl]; exact hI.st.cl, by rw [hqu]; exact hI.st.quota⟩, fun i hi => ?_, ?_, by rw [hca]; exact hI.caps⟩
        · rw [hmd]
          by_cases e : i = (S.made : Int) + 1
          · omega
          · rw [hT2 i e] at h; have := hC.nums.t _ _ h; omega
        · rw [hmt]
          by_cases e : h = (S.minted : Int) + 1
          · omega
          · rw [hH2 h e] at hh; have := hC.nums.h _ _ hh; omega
        · by_cases e : i = (S.made : Int) + 1
          · subst e; rw [hT1] at hx; cases hx
            exact absurd (List.eq_of_mem_replicate (show r ∈ List.replicate op.a.toNat (0 : Int) from hm)) h00
          · rw [hT2 i e] at hx; exact hsome r (hC.rf i x r hx hm h00)
        · by_cases e : h = (S.minted : Int) + 1
          · subst e; rw [hH1] at hh; cases hh; rw [hT1]; rfl
          · rw [hH2 h e] at hh; exact hsome i (hC.hr _ _ hh)
        · by_cases e : i = (S.made : Int) + 1
          · subst e; rw [hT1] at hx; cases hx; exact hth
          · rw [hT2 i e] at hx; exact hI.st.tx i x hx
        · by_cases e : i = (S.made : Int) + 1
          · subst e; exact .hand hH1
          · rw [hT2 i e] at hi
            refine rch_mono (S := S) (fun h j hj => .hand (h := h) (by rw [hH2 h (by have := hC.nums.h _ _ hj; omega)]; exact hj)) (fun j x hx => ?_) (hI.gc i hi)
            have hx' : S'.T j = some x := by rw [hT2 j (by intro e; subst e; rw [hnone] at hx; cases hx)]; exact hx
            exact ⟨x, hx', fun hp => .pin hx' hp, rfl⟩
        · have hu : usedP S' = usedP S + sz := by
            rw [used_all, used_all, hmd, upTo_succ, List.map_append, List.sum_append]
            have h1 : ([(S.made : Int) + 1].map (szP S')).sum = sz := by simp [sz_some hT1, newTh]
            have h2 : (upTo S.made).map (szP S') = (upTo S.made).map (szP S) := List.map_congr_left fun j hj => by
              have := upTo_mem.1 hj
              unfold szP; rw [hT2 j (by omega)]
            rw [h1, h2]
          rw [hu, hqu]; omega
      · exact hI
  · exact hI
end Go.Proofs.YthamkgghnjenhaaGreat
namespace Go.Proofs.YthamkgghnjenhaaGreat
open Go.RowKit
set_option linter.unusedVariables false
set_option linter.unusedSimpArgs false

def liveN (S : St) : Nat := (handsP S).length
/-- what can come of an operation: the store then, what is said -/
inductive Out (S : St) (op : OpP) : St → Sd → Prop
  | err {e : Int} : e ≠ 0 → (e = 131 → S.caps ≤ (liveN S : Nat)) → (e = 100 → op.code = 1 ∧ mayP 0 op.a op.b = true ∧ (roundP S.cl (op.a + op.b + 1)).2 = 0 ∧ usedP S + (roundP S.cl (op.a + op.b + 1)).1 > S.quota) → Out S op S ⟨e, 0, 0⟩
  | val {w : Int} : op.code ≠ 1 → Out S op S ⟨0, 0, w⟩
  | mint {id : Int} : op.code ≠ 1 → (S.T id).isSome → (liveN S : Int) < S.caps → Out S op (mintP S id).1 ⟨0, (S.minted : Int) + 1, 0⟩
  | alloc {sz : Int} : op.code = 1 → (liveN S : Int) < S.caps → mayP 0 op.a op.b = true → (roundP S.cl (op.a + op.b + 1)).2 = 0 → sz = (roundP S.cl (op.a + op.b + 1)).1 → usedP S + sz ≤ S.quota →
      Out S op { (mintP S ((S.made : Int) + 1)).1 with made := S.made + 1, T := fun j => if j = (S.made : Int) + 1 then some (newTh op.a op.b sz) else S.T j } ⟨0, (S.minted : Int) + 1, 0⟩
  | set {h id : Int} {x x' : Th} : op.code ≠ 1 → S.Hd h = some id → S.T id = some x → ThOk x' → x'.refs = x.refs → x'.size = x.size → Out S op (setTP S id x') ⟨0, 0, 0⟩
  | write {id : Int} {x x' : Th} {S' : St} : op.code ≠ 1 → S.T id = some x → ThOk x' → (∀ r ∈ x'.refs, r ≠ 0 → (S.T r).isSome) → x'.size = x.size → Swept (setTP S id x') S' → Out S op S' ⟨0, 0, 0⟩
  | drop {h : Int} {S' : St} : op.code ≠ 1 → Swept (dropP S h) S' → Out S op S' ⟨0, 0, 0⟩
theorem out_of {S S' : St} {op : OpP} {r : Sd} (hI : Inv S) (hv : 0 ≤ op.v ∧ op.v < 18446744073709551616) (hD : DoR S op S' r) : Out S op S' r := by
  have hC := hI.st.closed
  obtain ⟨h1, h2⟩ := hD
  unfold stepP at h1 h2
  split at h1
  · rename_i hc
    rw [if_pos hc] at h2
    simp only [Bool.false_eq_true, if_false] at h2
    subst h1; subst h2
    exact .err (by decide) (fun h => absurd h (by decide)) (fun h => absurd h (by decide))
  rename_i hc
  rw [if_neg hc] at h2
  split at h1
  · rename_i hc1
    rw [if_pos hc1] at h2
    simp only [stay, Bool.false_eq_true, if_false] at h1 h2
    subst h1; subst h2
    unfold allocP
    split
    · rename_i h0
      split
      · rename_i hq
        exact .err (by decide) (fun h => absurd h (by decide)) (fun _ => ⟨hc1, h0.1, h0.2, hq⟩)
      · rename_i hq
        split
        · rename_i he
          have hlt : (liveN S : Int) < S.caps := by
            unfold mintP at he
            split at he
            · simp at he
            · rename_i hn; unfold liveN; omega
          have hm2 : (mintP S ((S.made : Int) + 1)).2 = ⟨0, (S.minted : Int) + 1, 0⟩ := by
            unfold mintP; unfold liveN at hlt; rw [if_neg (by omega)]
          rw [hm2]
          exact .alloc hc1 hlt h0.1 h0.2 rfl (by omega)
        · rename_i he
          have hge : S.caps ≤ ((handsP S).length : Nat) := by
            by_cases h : ((handsP S).length : Int) < S.caps
            · exfalso; apply he; unfold mintP; rw [if_neg (by omega)]
            · omega
          have hm2 : (mintP S ((S.made : Int) + 1)).2 = ⟨131, 0, 0⟩ := by unfold mintP; rw [if_pos hge]
          rw [hm2]
          exact .err (by decide) (fun _ => hge) (fun h => absurd h (by decide))
    · exact .err (by decide) (fun h => absurd h (by decide)) (fun h => absurd h (by decide))
  rename_i hc1
  rw [if_neg hc1] at h2
  split at h1
  · rename_i hn
    simp only [hn, Bool.false_eq_true, if_false] at h2
    subst h1; subst h2
    exact .err (by decide) (fun h => absurd h (by decide)) (fun h => absurd h (by decide))
  rename_i id hid
  simp only [hid] at h2
  obtain ⟨x, hx⟩ := Option.isSome_iff_exists.1 (hC.hr _ _ hid)
  have hto := hI.st.tx _ _ hx
  simp only [hx] at h1 h2
  split at h1
  · rename_i hc2
    rw [if_pos hc2] at h2
    simp only [stay, Bool.false_eq_true, if_false] at h1 h2
    subst h1; subst h2
    unfold readP
    split
    · rename_i hf
      split
      · rename_i hlt
        split
        · exact .val hc1
        · rename_i h0
          have hf' : 0 ≤ op.a := by
            simp only [fieldP, decide_eq_true_eq] at hf
            exact hf.1
          obtain ⟨y, hy⟩ := get_of_lt (l := x.refs) (k := op.a.toNat) (by omega)
          rw [hy] at h0 ⊢
          simp only [Option.getD_some] at h0 ⊢
          have hys := hC.rf id x y hx (List.mem_of_getElem? hy) h0
          by_cases hcp : S.caps ≤ ((handsP S).length : Nat)
          · have hm : mintP S y = (S, ⟨131, 0, 0⟩) := by unfold mintP; rw [if_pos hcp]
            rw [hm]
            exact .err (by decide) (fun _ => hcp) (fun h => absurd h (by decide))
          · have hm : (mintP S y).2 = ⟨0, (S.minted : Int) + 1, 0⟩ := by unfold mintP; rw [if_neg hcp]
            rw [hm]
            exact .mint hc1 hys (by unfold liveN; omega)
      · exact .val hc1
    · exact .err (by decide) (fun h => absurd h (by decide)) (fun h => absurd h (by decide))
  rename_i hc2
  rw [if_neg hc2] at h2
  split at h1
  · rename_i hc3
    rw [if_pos hc3] at h2
    unfold writeP at h1 h2
    split at h1
    · rename_i hf
      rw [if_pos hf] at h2
      split at h1
      · rename_i hlt
        rw [if_pos hlt] at h2
        split at h1
        · rename_i ht
          rw [if_pos ht] at h2
          simp only [if_true] at h2
          subst h1
          refine .write (x := x) (x' := { x with refs := x.refs.set op.a.toNat 0 }) hc1 hx ⟨by simpa using hto.sz, hto.pins, hto.ws⟩ (fun r hr h0 => ?_) rfl h2
          rcases List.mem_or_eq_of_mem_set hr with h | h
          · exact hC.rf id x r hx h h0
          · exact absurd h h0
        · rename_i ht
          rw [if_neg ht] at h2
          split at h1
          · rename_i z hz
            simp only [hz, if_true] at h2
            subst h1
            refine .write (x := x) (x' := { x with refs := x.refs.set op.a.toNat z }) hc1 hx ⟨by simpa using hto.sz, hto.pins, hto.ws⟩ (fun r hr h0 => ?_) rfl h2
            rcases List.mem_or_eq_of_mem_set hr with h | h
            · exact hC.rf id x r hx h h0
            · rw [h]; exact hC.hr _ _ hz
          · rename_i hz
            simp only [hz, Bool.false_eq_true, if_false] at h2
            subst h1; subst h2
            exact .err (by decide) (fun h => absurd h (by decide)) (fun h => absurd h (by decide))
      · rename_i hlt
        rw [if_neg hlt] at h2
        simp only [Bool.false_eq_true, if_false] at h2
        subst h1; subst h2
        refine .set (x' := { x with words := x.words.set (op.a.toNat - x.refs.length) op.v }) hc1 hid hx ⟨by simpa using hto.sz, hto.pins, fun w hw => ?_⟩ rfl rfl
        rcases List.mem_or_eq_of_mem_set hw with h | h
        · exact hto.ws w h
        · rw [h]; exact hv
    · rename_i hf
      rw [if_neg hf] at h2
      simp only [Bool.false_eq_true, if_false] at h2
      subst h1; subst h2
      exact .err (by decide) (fun h => absurd h (by decide)) (fun h => absurd h (by decide))
  rename_i hc3
  rw [if_neg hc3] at h2
  have hpin : ∀ more, Out S op (pinP S id x more).1 (pinP S id x more).2 := fun more => by
    unfold pinP
    split
    · rename_i hp
      exact .set (x' := { x with pins := x.pins + more }) hc1 hid hx ⟨hto.sz, hp, hto.ws⟩ rfl rfl
    · exact .err (by decide) (fun h => absurd h (by decide)) (fun h => absurd h (by decide))
  split at h1
  · rename_i hc4
    rw [if_pos hc4] at h2
    simp only [stay, Bool.false_eq_true, if_false] at h1 h2
    subst h1; subst h2
    exact hpin 1
  rename_i hc4
  rw [if_neg hc4] at h2
  split at h1
  · rename_i hc5
    rw [if_pos hc5] at h2
    simp only [stay, Bool.false_eq_true, if_false] at h1 h2
    subst h1; subst h2
    exact hpin (-1)
  rename_i hc5
  rw [if_neg hc5] at h2
  split at h1
  · rename_i hc6
    rw [if_pos hc6] at h2
    simp only [if_true] at h2
    subst h1
    exact .drop hc1 h2
  · rename_i hc6
    rw [if_neg hc6] at h2
    simp only [Bool.false_eq_true, if_false] at h2
    subst h1; subst h2
    exact .val hc1
theorem out_inv {S S' : St} {op : OpP} {r : Sd} (hI : Inv S) (h : Out S op S' r) : Inv S' ∧ S'.made ≤ S.made + 1 ∧ S'.minted ≤ S.minted + 1 ∧ S'.quota = S.quota ∧ S'.cl = S.cl ∧ S'.caps = S.caps := by
  cases h with
  | err _ _ _ => exact ⟨hI, Nat.le_succ _, Nat.le_succ _, rfl, rfl, rfl⟩
  | val _ => exact ⟨hI, Nat.le_succ _, Nat.le_succ _, rfl, rfl, rfl⟩
  | @mint id _ hid _ =>
    obtain ⟨h1, h2, h3, h4, h5, h6, h7⟩ := mint_made S id
    exact ⟨inv_mint hI hid, by rw [h1]; exact Nat.le_succ _, h3, h6, h5, h7⟩
  | @alloc sz hc hl h1 h2 h3 h4 =>
    have hm := mint_made S ((S.made : Int) + 1)
    have hal : (allocP S op).1 = { (mintP S ((S.made : Int) + 1)).1 with made := S.made + 1, T := fun j => if j = (S.made : Int) + 1 then some (newTh op.a op.b sz) else S.T j } := by
      unfold allocP
      rw [if_pos ⟨h1, h2⟩, ← h3, if_neg (by omega), if_pos (by unfold mintP; unfold liveN at hl; rw [if_neg (by omega)])]
    have := inv_alloc hI op
    rw [hal] at this
    exact ⟨this, Nat.le_refl _, hm.2.2.1, hm.2.2.2.2.2.1, hm.2.2.2.2.1, hm.2.2.2.2.2.2⟩
  | set _ h1 h2 h3 h4 h5 => exact ⟨inv_set hI h1 h2 h3 h4 h5, Nat.le_succ _, Nat.le_succ _, rfl, rfl, rfl⟩
  | write _ h1 h2 h3 h4 h5 =>
    refine ⟨swept_inv (stok_set hI.st h1 h2 h3) h5 (by rw [used_set h1 h4]; exact hI.us) hI.caps, ?_, ?_, h5.quota, h5.cl, h5.caps⟩
    · rw [h5.made]; exact Nat.le_succ _
    · rw [h5.minted]; exact Nat.le_succ _
  | @drop h _ _ h5 =>
    refine ⟨swept_inv ⟨closed_drop hI.st.closed h, hI.st.tx, hI.st.cl, hI.st.quota⟩ h5 hI.us hI.caps, ?_, ?_, h5.quota, h5.cl, h5.caps⟩
    · rw [h5.made]; exact Nat.le_succ _
    · rw [h5.minted]; exact Nat.le_succ _
end Go.Proofs.YthamkgghnjenhaaGreat
namespace Go.Proofs.YthamkgghnjenhaaGreat
open Go.RowKit
set_option linter.unusedVariables false
set_option linter.unusedSimpArgs false
set_option maxRecDepth 100000

/-- what a sweep leaves, reckoned -/
def frmA (S : St) : List Int := fromA S (objsP S).length ++ (handsP S).map fun h => ((ixP (objsP S) ((S.Hd h).getD 0) : Nat) : Int)
def sweepF (S : St) : St := { S with T := fun i => if keepB S (frmA S) i then S.T i else none }
theorem frmA_roots {S : St} (hn : Nums S) : Roots S (frmA S) := by
  intro z
  unfold frmA
  rw [List.mem_append, fromA_mem]
  refine or_congr Iff.rfl ?_
  simp only [List.mem_map]
  constructor
  · rintro ⟨h, hh, rfl⟩
    obtain ⟨i, hi⟩ := Option.isSome_iff_exists.1 ((hands_mem hn).1 hh)
    exact ⟨h, i, hi, by rw [hi]; rfl⟩
  · rintro ⟨h, i, hi, rfl⟩
    exact ⟨h, (hands_mem hn).2 (by rw [hi]; rfl), by rw [hi]; rfl⟩
theorem swept_fun {S S' : St} (hC : Closed S) (h : Swept S S') : S' = sweepF S := by
  have hT : S'.T = (sweepF S).T := by
    funext i
    apply Option.ext
    intro x
    rw [h.T]
    show _ ↔ (if keepB S (frmA S) i = true then S.T i else none) = some x
    constructor
    · rintro ⟨h1, h2⟩
      rw [if_pos ((keep_iff hC (frmA_roots hC.nums) (by rw [h1]; rfl)).2 h2)]; exact h1
    · intro h1
      split at h1
      · rename_i hk; exact ⟨h1, (keep_iff hC (frmA_roots hC.nums) (by rw [h1]; rfl)).1 hk⟩
      · cases h1
  obtain ⟨h1, h2, h3, h4, h5, h6, h7⟩ := h
  cases S'
  simp only at h1 h2 h3 h4 h5 h6 hT
  subst h1 h2 h3 h4 h5 h6 hT
  rfl
def doF (S : St) (op : OpP) : St := if (stepP S op).2.2 then sweepF (stepP S op).1 else (stepP S op).1
theorem closed_step {S : St} (hI : Inv S) (op : OpP) (hs : (stepP S op).2.2 = true) : Closed (stepP S op).1 := by
  have hC := hI.st.closed
  unfold stepP at hs ⊢
  split at hs
  · cases hs
  rename_i h1
  rw [if_neg h1]
  split at hs
  · cases hs
  rename_i h2
  rw [if_neg h2]
  split at hs
  · cases hs
  rename_i id hid
  try simp only [hid]
  obtain ⟨x, hx⟩ := Option.isSome_iff_exists.1 (hC.hr _ _ hid)
  simp only [hx] at hs ⊢
  split at hs
  · cases hs
  rename_i h3
  rw [if_neg h3]
  split at hs
  · rename_i h4
    rw [if_pos h4]
    unfold writeP at hs ⊢
    split at hs
    · rename_i hf
      rw [if_pos hf]
      split at hs
      · rename_i hl
        rw [if_pos hl]
        split at hs
        · rename_i ht
          rw [if_pos ht]
          refine closed_set hC hx fun r hr h0 => ?_
          rcases List.mem_or_eq_of_mem_set hr with h | h
          · exact hC.rf id x r hx h h0
          · exact absurd h h0
        · rename_i ht
          rw [if_neg ht]
          split at hs
          · rename_i z hz
            try simp only [hz]
            refine closed_set hC hx fun r hr h0 => ?_
            rcases List.mem_or_eq_of_mem_set hr with h | h
            · exact hC.rf id x r hx h h0
            · rw [h]; exact hC.hr _ _ hz
          · cases hs
      · cases hs
    · cases hs
  rename_i h4
  rw [if_neg h4]
  split at hs
  · cases hs
  rename_i h5
  rw [if_neg h5]
  split at hs
  · cases hs
  rename_i h6
  rw [if_neg h6]
  split at hs
  · rename_i h7
    rw [if_pos h7]
    exact closed_drop hC op.h
  · cases hs
theorem do_fun {S S' : St} {op : OpP} {r : Sd} (hI : Inv S) (hD : DoR S op S' r) : S' = doF S op := by
  obtain ⟨_, h2⟩ := hD
  unfold doF
  split
  · rename_i hs
    rw [if_pos hs] at h2
    exact swept_fun (closed_step hI op hs) h2
  · rename_i hs
    rw [if_neg hs] at h2
    exact h2
/-- a state by its tables -/
def tbl {α : Type} (l : List (Option α)) : Int → Option α := fun i => if 1 ≤ i then (l[(i - 1).toNat]?).getD none else none
def litS (cl : List Int) (quota caps : Int) (tl : List (Option Th)) (hl : List (Option Int)) : St := ⟨cl, quota, caps, tbl tl, tbl hl, tl.length, hl.length⟩
def snap (S : St) : List Int × Int × Int × List (Option Th) × List (Option Int) := (S.cl, S.quota, S.caps, (upTo S.made).map S.T, (upTo S.minted).map S.Hd)
theorem tbl_map {α : Type} (f : Int → Option α) (n : Nat) (h : ∀ i x, f i = some x → 1 ≤ i ∧ i ≤ n) : f = tbl ((upTo n).map f) := by
  funext i
  unfold tbl
  by_cases h1 : 1 ≤ i
  · rw [if_pos h1]
    by_cases h2 : i ≤ n
    · have : (upTo n)[(i - 1).toNat]? = some i := by
        unfold upTo
        rw [List.getElem?_map, List.getElem?_range (by omega)]
        simp; omega
      rw [List.getElem?_map, this]; rfl
    · have : (upTo n).length ≤ (i - 1).toNat := by rw [upTo_len]; omega
      rw [List.getElem?_eq_none (by rw [List.length_map]; exact this)]
      cases hf : f i with
      | none => rfl
      | some x => have := h i x hf; omega
  · rw [if_neg h1]
    cases hf : f i with
    | none => rfl
    | some x => have := h i x hf; omega
theorem snap_eq {S : St} (hn : Nums S) {cl : List Int} {q c : Int} {tl : List (Option Th)} {hl : List (Option Int)} (h : snap S = (cl, q, c, tl, hl)) : S = litS cl q c tl hl := by
  unfold snap at h
  simp only [Prod.mk.injEq] at h
  obtain ⟨rfl, rfl, rfl, rfl, rfl⟩ := h
  have h1 := tbl_map S.T S.made hn.t
  have h2 := tbl_map S.Hd S.minted hn.h
  unfold litS
  rw [← h1, ← h2]
  simp only [List.length_map, upTo_len]
theorem step_lit {S S' : St} {op : OpP} {r : Sd} (hI : Inv S) (hv : 0 ≤ op.v ∧ op.v < 18446744073709551616) (hD : DoR S op S' r) {cl : List Int} {q c : Int} {tl : List (Option Th)} {hl : List (Option Int)} (h : snap (doF S op) = (cl, q, c, tl, hl)) : S' = litS cl q c tl hl ∧ Inv S' := by
  have hI' := (out_inv hI (out_of hI hv hD)).1
  have e := do_fun hI hD
  refine ⟨snap_eq hI'.st.closed.nums (by rw [e]; exact h), hI'⟩

def thA (a b size : Int) : Th := newTh a b size
def aw (n : Nat) : St := match n with
  | 0 => litS [2, 4, 8] 10 3 [] []
  | 1 => litS [2, 4, 8] 10 3 [some (thA 1 2 4)] [some 1]
  | 2 => litS [2, 4, 8] 10 3 [some (thA 1 2 4), some (thA 1 2 4)] [some 1, some 2]
  | 3 => litS [2, 4, 8] 10 3 [some (thA 1 2 4), some (thA 1 2 4), some (thA 0 1 2)] [some 1, some 2, some 3]
  | 4 => litS [2, 4, 8] 10 3 [some ⟨[2], [0, 0], 4, 0⟩, some (thA 1 2 4), some (thA 0 1 2)] [some 1, some 2, some 3]
  | 5 => litS [2, 4, 8] 10 3 [some ⟨[2], [0, 0], 4, 0⟩, some (thA 1 2 4), some (thA 0 1 2)] [some 1, none, some 3]
  | 6 => litS [2, 4, 8] 10 3 [some ⟨[2], [0, 0], 4, 0⟩, some (thA 1 2 4), some (thA 0 1 2)] [some 1, none, some 3, some 2]
  | 7 => litS [2, 4, 8] 10 3 [some ⟨[2], [0, 0], 4, 0⟩, some (thA 1 2 4), some (thA 0 1 2)] [some 1, none, some 3, none]
  | _ => litS [2, 4, 8] 10 3 [some ⟨[0], [0, 0], 4, 0⟩, none, some (thA 0 1 2)] [some 1, none, some 3, none]
theorem aw_1 : snap (doF (aw 0) ⟨1, 0, 1, 2, 0, 0⟩) = ([2, 4, 8], 10, 3, [some (thA 1 2 4)], [some 1]) := by kernel_rfl
theorem aw_2 : snap (doF (aw 1) ⟨1, 0, 1, 2, 0, 0⟩) = ([2, 4, 8], 10, 3, [some (thA 1 2 4), some (thA 1 2 4)], [some 1, some 2]) := by kernel_rfl
theorem aw_2b : snap (doF (aw 2) ⟨1, 0, 1, 2, 0, 0⟩) = ([2, 4, 8], 10, 3, [some (thA 1 2 4), some (thA 1 2 4)], [some 1, some 2]) := by kernel_rfl
theorem aw_3 : snap (doF (aw 2) ⟨1, 0, 0, 1, 0, 0⟩) = ([2, 4, 8], 10, 3, [some (thA 1 2 4), some (thA 1 2 4), some (thA 0 1 2)], [some 1, some 2, some 3]) := by kernel_rfl
theorem aw_4 : snap (doF (aw 3) ⟨3, 1, 0, 0, 0, 2⟩) = ([2, 4, 8], 10, 3, [some ⟨[2], [0, 0], 4, 0⟩, some (thA 1 2 4), some (thA 0 1 2)], [some 1, some 2, some 3]) := by kernel_rfl
theorem aw_5 : snap (doF (aw 4) ⟨6, 2, 0, 0, 0, 0⟩) = ([2, 4, 8], 10, 3, [some ⟨[2], [0, 0], 4, 0⟩, some (thA 1 2 4), some (thA 0 1 2)], [some 1, none, some 3]) := by kernel_rfl
theorem aw_6 : snap (doF (aw 5) ⟨2, 1, 0, 0, 0, 0⟩) = ([2, 4, 8], 10, 3, [some ⟨[2], [0, 0], 4, 0⟩, some (thA 1 2 4), some (thA 0 1 2)], [some 1, none, some 3, some 2]) := by kernel_rfl
theorem aw_7 : snap (doF (aw 6) ⟨6, 4, 0, 0, 0, 0⟩) = ([2, 4, 8], 10, 3, [some ⟨[2], [0, 0], 4, 0⟩, some (thA 1 2 4), some (thA 0 1 2)], [some 1, none, some 3, none]) := by kernel_rfl
theorem aw_8 : snap (doF (aw 7) ⟨3, 1, 0, 0, 0, 0⟩) = ([2, 4, 8], 10, 3, [some ⟨[0], [0, 0], 4, 0⟩, none, some (thA 0 1 2)], [some 1, none, some 3, none]) := by kernel_rfl
theorem aw_9 : ∀ op : OpP, op = ⟨2, 2, 0, 0, 0, 0⟩ ∨ op = ⟨2, 1, 3, 0, 0, 0⟩ ∨ op = ⟨9, 0, 0, 0, 0, 0⟩ ∨ op = ⟨1, 0, 64, 0, 0, 0⟩ ∨ op = ⟨5, 1, 0, 0, 0, 0⟩ → snap (doF (aw 8) op) = ([2, 4, 8], 10, 3, [some ⟨[0], [0, 0], 4, 0⟩, none, some (thA 0 1 2)], [some 1, none, some 3, none]) := by
  rintro op (rfl | rfl | rfl | rfl | rfl) <;> kernel_rfl
theorem aw_r : (stepP (aw 0) ⟨1, 0, 1, 2, 0, 0⟩).2.1 = ⟨0, 1, 0⟩ ∧ (stepP (aw 1) ⟨1, 0, 1, 2, 0, 0⟩).2.1 = ⟨0, 2, 0⟩ ∧ (stepP (aw 2) ⟨1, 0, 1, 2, 0, 0⟩).2.1 = ⟨100, 0, 0⟩ ∧ (stepP (aw 2) ⟨1, 0, 0, 1, 0, 0⟩).2.1 = ⟨0, 3, 0⟩ ∧
    (stepP (aw 3) ⟨3, 1, 0, 0, 0, 2⟩).2.1 = ⟨0, 0, 0⟩ ∧ (stepP (aw 4) ⟨6, 2, 0, 0, 0, 0⟩).2.1 = ⟨0, 0, 0⟩ ∧ (stepP (aw 5) ⟨2, 1, 0, 0, 0, 0⟩).2.1 = ⟨0, 4, 0⟩ ∧ (stepP (aw 6) ⟨6, 4, 0, 0, 0, 0⟩).2.1 = ⟨0, 0, 0⟩ ∧ (stepP (aw 7) ⟨3, 1, 0, 0, 0, 0⟩).2.1 = ⟨0, 0, 0⟩ ∧
    (stepP (aw 8) ⟨2, 2, 0, 0, 0, 0⟩).2.1 = ⟨130, 0, 0⟩ ∧ (stepP (aw 8) ⟨2, 1, 3, 0, 0, 0⟩).2.1 = ⟨110, 0, 0⟩ ∧ (stepP (aw 8) ⟨9, 0, 0, 0, 0, 0⟩).2.1 = ⟨250, 0, 0⟩ ∧ (stepP (aw 8) ⟨1, 0, 64, 0, 0, 0⟩).2.1 = ⟨50, 0, 0⟩ ∧ (stepP (aw 8) ⟨5, 1, 0, 0, 0, 0⟩).2.1 = ⟨140, 0, 0⟩ := by
  refine ⟨?_, ?_, ?_, ?_, ?_, ?_, ?_, ?_, ?_, ?_, ?_, ?_, ?_, ?_⟩ <;> kernel_rfl
theorem aw_u : usedP (aw 2) = 8 ∧ usedP (aw 8) = 6 ∧ objsP (aw 8) = [1, 3] := ⟨by kernel_rfl, by kernel_rfl, by kernel_rfl⟩

theorem doL_K {w0 : World} {F : Heap} {sm : SM} {S : St} {op : OpP} {r : Sd} {cl : List Int} {q c : Int} {tl : List (Option Th)} {hl : List (Option Int)} (ok : SOk sm) (hst : sm.st = S) (hI : Inv S) (hm : S.made ≤ 100) (hmi : S.minted ≤ 1000) (hc : 0 ≤ op.code ∧ op.code ≤ 255) (hv : 0 ≤ op.v ∧ op.v < 18446744073709551616)
    (hs : snap (doF S op) = (cl, q, c, tl, hl)) (hr : (stepP S op).2.1 = r) :
    Call Tryz.prog w0 11 [.pointer (some ⟨sm.b, 0, none⟩), opV op] (smH sm ++ F)
      (fun v H' => ∃ sm', SOk sm' ∧ sm'.b = sm.b ∧ sm'.st = litS cl q c tl hl ∧ Inv (litS cl q c tl hl) ∧ v = sdV r ∧ H' = smH sm' ++ F) := by
  subst hst
  refine (Do_K ok hI.st hm hmi hc).mono ?_
  rintro _ _ ⟨sm', ok', hb, hD, rfl, rfl⟩
  rw [hr] at hD ⊢
  obtain ⟨h1, h2⟩ := step_lit hI hv hD hs
  rw [h1] at h2
  exact ⟨sm', ok', hb, h1, h2, rfl, rfl⟩
set_option maxHeartbeats 4000000 in
theorem awake_K {w0 : World} {H : Heap} : Call Tryz.prog w0 5 [] H (fun r H' => r = .bool true ∧ H' = H) := by
  obtain ⟨r1, r2, r2b, r3, r4, r5, r6, r7, r8, r9, r10, r11, r12, r13⟩ := aw_r
  have hnew : newOk [2, 4, 8] 10 3 := ⟨by kernel_rfl, by omega, by omega⟩
  have hI0 := inv_new hnew
  have e0 : newS [2, 4, 8] 10 3 = aw 0 := snap_eq hI0.st.closed.nums (by kernel_rfl)
  rw [e0] at hI0
  refine Call.enter0 (n := 132) (by kernel_rfl) Tryz.func5 rfl rfl rfl ?_
  refine K.seq ?_
  refine K.region ?_
  (refine KL.v rfl (Val.assign rfl) ?_)
  refine KL.nil ?_
  refine KE.next ?_
  refine K.seq ?_
  refine K.region ?_
  (refine KL.e rfl (Eff.buildS byParts rfl rfl rfl rfl rfl byFill) ?_; rintro _ _ ⟨b15, rfl, rfl⟩)
  (refine KL.callc rfl rfl byEvL fun T hT => ?_)
  refine (CallV.pure fun w hw => CallV.fn (New_K (cl := [2, 4, 8]) ((Sli.blk byTake rfl (by simp) (by simp [maxLen]) rfl) w hw) (by simp))).mono ?_
  rintro _ _ ⟨_, (⟨_, sm0, ok0, hst0, rfl, rfl⟩ | ⟨hno, _⟩), rfl⟩
  · rw [e0] at hst0
    refine hT _ _ ?_; clear hT; clear T
    (refine KL.v rfl (Val.move rfl) ?_)
    (refine KL.v rfl (Val.extract rfl rfl) ?_)
    (refine KL.v rfl (Val.extract rfl rfl) ?_)
    (refine KL.v rfl (Val.assign rfl) ?_)
    (refine KL.v rfl (Val.assign rfl) ?_)
    refine KL.nil ?_
    refine KE.next ?_
    refine K.seq ?_
    refine K.seq ?_
    refine K.region ?_
    (refine KL.v rfl (Val.move rfl) ?_)
    (refine KL.v rfl (Val.isF (Val.neq rfl rfl) byLt) ?_)
    (refine KL.v rfl (Val.move rfl) ?_)
    (refine KL.yes rfl rfl ?_; refine KL.v rfl (Val.move rfl) ?_)
    (refine KL.yes rfl rfl ?_; refine KL.v rfl (Val.eqlPN rfl rfl rfl) ?_)
    (refine KL.v rfl (Val.pickF rfl rfl rfl) ?_)
    refine KL.nil ?_
    refine KE.next ?_
    refine K.condF rfl ?_
    refine K.skip ?_
    refine KE.next ?_
    refine K.seq ?_
    refine K.region ?_
    (refine KL.v rfl (Val.move rfl) ?_)
    (refine KL.v rfl (Val.build byParts rfl rfl byFill) ?_)
    (refine KL.callc rfl rfl byEvL fun T hT => ?_)
    refine (CallV.part (CallV.fn (doL_K (S := aw 0) (op := ⟨1, 0, 1, 2, 0, 0⟩) ok0 hst0 hI0 (by decide) (by decide) (by decide) (by decide) (aw_1) r1)) byPart).mono ?_
    rintro _ _ ⟨sm1, ok1, hb1, hst1, hI1, rfl, rfl⟩
    unfold sdV
    dsimp only
    refine hT _ _ ?_; clear hT; clear T
    rw [← hb1]
    (refine KL.v rfl (Val.move rfl) ?_)
    (refine KL.v rfl (Val.build byParts rfl rfl byFill) ?_)
    (refine KL.callc rfl rfl byEvL fun T hT => ?_)
    refine (CallV.part (CallV.fn (doL_K (S := aw 1) (op := ⟨1, 0, 1, 2, 0, 0⟩) ok1 hst1 hI1 (by decide) (by decide) (by decide) (by decide) (aw_2) r2)) byPart).mono ?_
    rintro _ _ ⟨sm2, ok2, hb2, hst2, hI2, rfl, rfl⟩
    unfold sdV
    dsimp only
    refine hT _ _ ?_; clear hT; clear T
    rw [← hb2]
    (refine KL.e rfl (Eff.alloc rfl) ?_; rintro _ _ ⟨b3, rfl, rfl⟩)
    (refine KL.e rfl (Eff.alloc rfl) ?_; rintro _ _ ⟨b4, rfl, rfl⟩)
    (refine KL.eN (Eff.storeAL rfl rfl rfl byTake byLay byOnes) ?_; rintro _ _ rfl)
    (refine KL.eN (Eff.storeAL rfl rfl rfl byTake byLay byOnes) ?_; rintro _ _ rfl)
    refine KL.nil ?_
    refine KE.next ?_
    refine K.seq ?_
    refine K.region ?_
    (refine KL.v rfl (Val.move rfl) ?_)
    (refine KL.callc rfl rfl byEvL fun T hT => ?_)
    refine (CallV.part (CallV.fn (Used_K ok2 (by rw [hst2]; exact hI2.st.closed.nums) (by rw [show sm2.made = 2 from congrArg St.made hst2]; omega) (fun i x hx => by have h := (hI2.st.tx i x (by rw [← hst2]; exact hx)).sz; omega))) byPart).mono ?_
    rintro _ _ ⟨rfl, rfl⟩
    rw [hst2, show usedP (litS [2, 4, 8] 10 3 [some (thA 1 2 4), some (thA 1 2 4)] [some 1, some 2]) = 8 from aw_u.1]
    refine hT _ _ ?_; clear hT; clear T
    (refine KL.v rfl (Val.assign rfl) ?_)
    refine KL.nil ?_
    refine KE.next ?_
    refine K.seq ?_
    refine K.region ?_
    (refine KL.v rfl (Val.move rfl) ?_)
    (refine KL.v rfl (Val.build byParts rfl rfl byFill) ?_)
    (refine KL.callc rfl rfl byEvL fun T hT => ?_)
    refine (CallV.part (CallV.fn (doL_K (S := aw 2) (op := ⟨1, 0, 1, 2, 0, 0⟩) ok2 hst2 hI2 (by decide) (by decide) (by decide) (by decide) (aw_2b) r2b)) byPart).mono ?_
    rintro _ _ ⟨sm3, ok3, hb3, hst3, hI3, rfl, rfl⟩
    unfold sdV
    dsimp only
    refine hT _ _ ?_; clear hT; clear T
    rw [← hb3]
    (refine KL.v rfl (Val.move rfl) ?_)
    (refine KL.v rfl (Val.build byParts rfl rfl byFill) ?_)
    (refine KL.callc rfl rfl byEvL fun T hT => ?_)
    refine (CallV.part (CallV.fn (doL_K (S := aw 2) (op := ⟨1, 0, 0, 1, 0, 0⟩) ok3 hst3 hI3 (by decide) (by decide) (by decide) (by decide) (aw_3) r3)) byPart).mono ?_
    rintro _ _ ⟨sm4, ok4, hb4, hst4, hI4, rfl, rfl⟩
    unfold sdV
    dsimp only
    refine hT _ _ ?_; clear hT; clear T
    rw [← hb4]
    (refine KL.e rfl (Eff.alloc rfl) ?_; rintro _ _ ⟨b6, rfl, rfl⟩)
    (refine KL.e rfl (Eff.alloc rfl) ?_; rintro _ _ ⟨b7, rfl, rfl⟩)
    (refine KL.eN (Eff.storeAL rfl rfl rfl byTake byLay byOnes) ?_; rintro _ _ rfl)
    (refine KL.eN (Eff.storeAL rfl rfl rfl byTake byLay byOnes) ?_; rintro _ _ rfl)
    refine KL.nil ?_
    refine KE.next ?_
    refine K.seq ?_
    refine K.region ?_
    (refine KL.v rfl (Val.move rfl) ?_)
    (refine KL.v rfl (Val.build byParts rfl rfl byFill) ?_)
    (refine KL.callc rfl rfl byEvL fun T hT => ?_)
    refine (CallV.part (CallV.fn (doL_K (S := aw 3) (op := ⟨3, 1, 0, 0, 0, 2⟩) ok4 hst4 hI4 (by decide) (by decide) (by decide) (by decide) (aw_4) r4)) byPart).mono ?_
    rintro _ _ ⟨sm5, ok5, hb5, hst5, hI5, rfl, rfl⟩
    unfold sdV
    dsimp only
    refine hT _ _ ?_; clear hT; clear T
    rw [← hb5]
    refine KL.nil ?_
    refine KE.next ?_
    refine K.seq ?_
    refine K.region ?_
    (refine KL.v rfl (Val.move rfl) ?_)
    (refine KL.v rfl (Val.build byParts rfl rfl byFill) ?_)
    (refine KL.callc rfl rfl byEvL fun T hT => ?_)
    refine (CallV.part (CallV.fn (doL_K (S := aw 4) (op := ⟨6, 2, 0, 0, 0, 0⟩) ok5 hst5 hI5 (by decide) (by decide) (by decide) (by decide) (aw_5) r5)) byPart).mono ?_
    rintro _ _ ⟨sm6, ok6, hb6, hst6, hI6, rfl, rfl⟩
    unfold sdV
    dsimp only
    refine hT _ _ ?_; clear hT; clear T
    rw [← hb6]
    refine KL.nil ?_
    refine KE.next ?_
    refine K.seq ?_
    refine K.region ?_
    (refine KL.v rfl (Val.move rfl) ?_)
    (refine KL.v rfl (Val.build byParts rfl rfl byFill) ?_)
    (refine KL.callc rfl rfl byEvL fun T hT => ?_)
    refine (CallV.part (CallV.fn (doL_K (S := aw 5) (op := ⟨2, 1, 0, 0, 0, 0⟩) ok6 hst6 hI6 (by decide) (by decide) (by decide) (by decide) (aw_6) r6)) byPart).mono ?_
    rintro _ _ ⟨sm7, ok7, hb7, hst7, hI7, rfl, rfl⟩
    unfold sdV
    dsimp only
    refine hT _ _ ?_; clear hT; clear T
    rw [← hb7]
    (refine KL.e rfl (Eff.alloc rfl) ?_; rintro _ _ ⟨b8, rfl, rfl⟩)
    (refine KL.eN (Eff.storeAL rfl rfl rfl byTake byLay byOnes) ?_; rintro _ _ rfl)
    refine KL.nil ?_
    refine KE.next ?_
    refine K.seq ?_
    refine K.region ?_
    (refine KL.v rfl (Val.move rfl) ?_)
    (refine KL.v rfl (Val.build byParts rfl rfl byFill) ?_)
    (refine KL.callc rfl rfl byEvL fun T hT => ?_)
    refine (CallV.part (CallV.fn (doL_K (S := aw 6) (op := ⟨6, 4, 0, 0, 0, 0⟩) ok7 hst7 hI7 (by decide) (by decide) (by decide) (by decide) (aw_7) r7)) byPart).mono ?_
    rintro _ _ ⟨sm8, ok8, hb8, hst8, hI8, rfl, rfl⟩
    unfold sdV
    dsimp only
    refine hT _ _ ?_; clear hT; clear T
    rw [← hb8]
    refine KL.nil ?_
    refine KE.next ?_
    refine K.seq ?_
    refine K.region ?_
    (refine KL.v rfl (Val.move rfl) ?_)
    (refine KL.v rfl (Val.build byParts rfl rfl byFill) ?_)
    (refine KL.callc rfl rfl byEvL fun T hT => ?_)
    refine (CallV.part (CallV.fn (doL_K (S := aw 7) (op := ⟨3, 1, 0, 0, 0, 0⟩) ok8 hst8 hI8 (by decide) (by decide) (by decide) (by decide) (aw_8) r8)) byPart).mono ?_
    rintro _ _ ⟨sm9, ok9, hb9, hst9, hI9, rfl, rfl⟩
    unfold sdV
    dsimp only
    refine hT _ _ ?_; clear hT; clear T
    rw [← hb9]
    refine KL.nil ?_
    refine KE.next ?_
    refine K.seq ?_
    refine K.region ?_
    (refine KL.v rfl (Val.move rfl) ?_)
    (refine KL.v rfl (Val.build byParts rfl rfl byFill) ?_)
    (refine KL.callc rfl rfl byEvL fun T hT => ?_)
    refine (CallV.part (CallV.fn (doL_K (S := aw 8) (op := ⟨2, 2, 0, 0, 0, 0⟩) ok9 hst9 hI9 (by decide) (by decide) (by decide) (by decide) (aw_9 _ (.inl rfl)) r9)) byPart).mono ?_
    rintro _ _ ⟨sm10, ok10, hb10, hst10, hI10, rfl, rfl⟩
    unfold sdV
    dsimp only
    refine hT _ _ ?_; clear hT; clear T
    rw [← hb10]
    (refine KL.v rfl (Val.move rfl) ?_)
    (refine KL.v rfl (Val.build byParts rfl rfl byFill) ?_)
    (refine KL.callc rfl rfl byEvL fun T hT => ?_)
    refine (CallV.part (CallV.fn (doL_K (S := aw 8) (op := ⟨2, 1, 3, 0, 0, 0⟩) ok10 hst10 hI10 (by decide) (by decide) (by decide) (by decide) (aw_9 _ (.inr (.inl rfl))) r10)) byPart).mono ?_
    rintro _ _ ⟨sm11, ok11, hb11, hst11, hI11, rfl, rfl⟩
    unfold sdV
    dsimp only
    refine hT _ _ ?_; clear hT; clear T
    rw [← hb11]
    (refine KL.v rfl (Val.move rfl) ?_)
    (refine KL.v rfl (Val.build byParts rfl rfl byFill) ?_)
    (refine KL.callc rfl rfl byEvL fun T hT => ?_)
    refine (CallV.part (CallV.fn (doL_K (S := aw 8) (op := ⟨9, 0, 0, 0, 0, 0⟩) ok11 hst11 hI11 (by decide) (by decide) (by decide) (by decide) (aw_9 _ (.inr (.inr (.inl rfl)))) r11)) byPart).mono ?_
    rintro _ _ ⟨sm12, ok12, hb12, hst12, hI12, rfl, rfl⟩
    unfold sdV
    dsimp only
    refine hT _ _ ?_; clear hT; clear T
    rw [← hb12]
    (refine KL.e rfl (Eff.alloc rfl) ?_; rintro _ _ ⟨b9, rfl, rfl⟩)
    (refine KL.e rfl (Eff.alloc rfl) ?_; rintro _ _ ⟨b10, rfl, rfl⟩)
    (refine KL.e rfl (Eff.alloc rfl) ?_; rintro _ _ ⟨b11, rfl, rfl⟩)
    (refine KL.eN (Eff.storeAL rfl rfl rfl byTake byLay byOnes) ?_; rintro _ _ rfl)
    (refine KL.eN (Eff.storeAL rfl rfl rfl byTake byLay byOnes) ?_; rintro _ _ rfl)
    (refine KL.eN (Eff.storeAL rfl rfl rfl byTake byLay byOnes) ?_; rintro _ _ rfl)
    refine KL.nil ?_
    refine KE.next ?_
    refine K.seq ?_
    refine K.region ?_
    (refine KL.v rfl (Val.move rfl) ?_)
    (refine KL.v rfl (Val.build byParts rfl rfl byFill) ?_)
    (refine KL.callc rfl rfl byEvL fun T hT => ?_)
    refine (CallV.part (CallV.fn (doL_K (S := aw 8) (op := ⟨1, 0, 64, 0, 0, 0⟩) ok12 hst12 hI12 (by decide) (by decide) (by decide) (by decide) (aw_9 _ (.inr (.inr (.inr (.inl rfl))))) r12)) byPart).mono ?_
    rintro _ _ ⟨sm13, ok13, hb13, hst13, hI13, rfl, rfl⟩
    unfold sdV
    dsimp only
    refine hT _ _ ?_; clear hT; clear T
    rw [← hb13]
    (refine KL.v rfl (Val.move rfl) ?_)
    (refine KL.v rfl (Val.build byParts rfl rfl byFill) ?_)
    (refine KL.callc rfl rfl byEvL fun T hT => ?_)
    refine (CallV.part (CallV.fn (doL_K (S := aw 8) (op := ⟨5, 1, 0, 0, 0, 0⟩) ok13 hst13 hI13 (by decide) (by decide) (by decide) (by decide) (aw_9 _ (.inr (.inr (.inr (.inr rfl))))) r13)) byPart).mono ?_
    rintro _ _ ⟨sm14, ok14, hb14, hst14, hI14, rfl, rfl⟩
    unfold sdV
    dsimp only
    refine hT _ _ ?_; clear hT; clear T
    rw [← hb14]
    (refine KL.e rfl (Eff.alloc rfl) ?_; rintro _ _ ⟨b12, rfl, rfl⟩)
    (refine KL.e rfl (Eff.alloc rfl) ?_; rintro _ _ ⟨b13, rfl, rfl⟩)
    (refine KL.eN (Eff.storeAL rfl rfl rfl byTake byLay byOnes) ?_; rintro _ _ rfl)
    (refine KL.eN (Eff.storeAL rfl rfl rfl byTake byLay byOnes) ?_; rintro _ _ rfl)
    refine KL.nil ?_
    refine KE.next ?_
    refine K.seq ?_
    refine K.region ?_
    (refine KL.v rfl (Val.fieldAddr0 (k := 1) rfl rfl) ?_)
    (refine KL.v rfl (Val.loadP rfl rfl (Sees.cell byTake rfl)) ?_)
    (refine KL.v rfl (Val.isT (Val.eql rfl rfl) byLt) ?_)
    (refine KL.v rfl (Val.move rfl) ?_)
    (refine KL.yes rfl rfl ?_; refine KL.v rfl (Val.fieldAddr0 (k := 1) rfl rfl) ?_)
    (refine KL.yes rfl rfl ?_; refine KL.v rfl (Val.loadP rfl rfl (Sees.cell byTake rfl)) ?_)
    (refine KL.yes rfl rfl ?_; refine KL.v rfl (Val.isT (Val.eql rfl rfl) byLt) ?_)
    (refine KL.v rfl (Val.pickT rfl rfl rfl) ?_)
    (refine KL.v rfl (Val.move rfl) ?_)
    (refine KL.yes rfl rfl ?_; refine KL.v rfl (Val.move rfl) ?_)
    (refine KL.yes rfl rfl ?_; refine KL.v rfl (Val.isT (Val.eql rfl rfl) byLt) ?_)
    (refine KL.v rfl (Val.pickT rfl rfl rfl) ?_)
    (refine KL.v rfl (Val.move rfl) ?_)
    (refine KL.yes rfl rfl ?_; refine KL.v rfl (Val.fieldAddr0 (k := 0) rfl rfl) ?_)
    (refine KL.yes rfl rfl ?_; refine KL.v rfl (Val.loadP rfl rfl (Sees.cell byTake rfl)) ?_)
    (refine KL.yes rfl rfl ?_; refine KL.v rfl (Val.isT (Val.eql rfl rfl) byLt) ?_)
    (refine KL.v rfl (Val.pickT rfl rfl rfl) ?_)
    (refine KL.v rfl (Val.move rfl) ?_)
    (refine KL.yes rfl rfl ?_; refine KL.v rfl (Val.fieldAddr0 (k := 1) rfl rfl) ?_)
    (refine KL.yes rfl rfl ?_; refine KL.v rfl (Val.loadP rfl rfl (Sees.cell byTake rfl)) ?_)
    (refine KL.yes rfl rfl ?_; refine KL.v rfl (Val.isT (Val.eql rfl rfl) byLt) ?_)
    (refine KL.v rfl (Val.pickT rfl rfl rfl) ?_)
    (refine KL.v rfl (Val.move rfl) ?_)
    (refine KL.yes rfl rfl ?_; refine KL.v rfl (Val.fieldAddr0 (k := 1) rfl rfl) ?_)
    (refine KL.yes rfl rfl ?_; refine KL.v rfl (Val.loadP rfl rfl (Sees.cell byTake rfl)) ?_)
    (refine KL.yes rfl rfl ?_; refine KL.v rfl (Val.isT (Val.eql rfl rfl) byLt) ?_)
    (refine KL.v rfl (Val.pickT rfl rfl rfl) ?_)
    (refine KL.v rfl (Val.move rfl) ?_)
    (refine KL.yes rfl rfl ?_; refine KL.v rfl (Val.move rfl) ?_)
    (refine KL.yes rfl rfl ?_; refine KL.callc rfl rfl byEvL fun T hT => ?_)
    refine (CallV.part (CallV.fn (Used_K ok14 (by rw [hst14]; exact hI14.st.closed.nums) (by rw [show sm14.made = 3 from congrArg St.made hst14]; omega) (fun i x hx => by have h := (hI14.st.tx i x (by rw [← hst14]; exact hx)).sz; omega))) byPart).mono ?_
    rintro _ _ ⟨rfl, rfl⟩
    rw [hst14, show usedP (litS [2, 4, 8] 10 3 [some ⟨[0], [0, 0], 4, 0⟩, none, some (thA 0 1 2)] [some 1, none, some 3, none]) = 6 from aw_u.2.1]
    refine hT _ _ ?_; clear hT; clear T
    (refine KL.yes rfl rfl ?_; refine KL.v rfl (Val.isT (Val.eql rfl rfl) byLt) ?_)
    (refine KL.v rfl (Val.pickT rfl rfl rfl) ?_)
    (refine KL.v rfl (Val.move rfl) ?_)
    (refine KL.yes rfl rfl ?_; refine KL.v rfl (Val.move rfl) ?_)
    (refine KL.yes rfl rfl ?_; refine KL.callc rfl rfl byEvL fun T hT => ?_)
    refine (CallV.part (CallV.fn (Objects_K ok14 (by rw [hst14]; exact hI14.st.closed.nums) (by rw [show sm14.made = 3 from congrArg St.made hst14]; omega))) byPart).mono ?_
    rintro _ _ ⟨oo, oko, rfl, rfl⟩
    rw [hst14, show objsP (litS [2, 4, 8] 10 3 [some ⟨[0], [0, 0], 4, 0⟩, none, some (thA 0 1 2)] [some 1, none, some 3, none]) = [1, 3] from aw_u.2.2] at oko ⊢
    refine hT _ _ ?_; clear hT; clear T
    (refine KL.yes rfl rfl ?_; refine KL.e rfl (Eff.buildS byParts rfl rfl rfl rfl rfl byFill) ?_; rintro _ _ ⟨b104, rfl, rfl⟩)
    (refine KL.yes rfl rfl ?_; refine KL.callc rfl rfl byEvL fun T hT => ?_)
    refine (CallV.pure fun w hw => CallV.fn (Same_K (a := [1, 3]) (b := [1, 3]) (Sli.own byTakeL oko rfl w hw) ((Sli.blk byTake rfl (by simp) (by simp [maxLen]) rfl) w hw))).mono ?_
    rintro _ _ ⟨_, ⟨rfl, rfl⟩, rfl⟩
    rw [show decide ([(1 : Int), 3] = [1, 3]) = true from rfl]
    refine hT _ _ ?_; clear hT; clear T
    (refine KL.v rfl (Val.pickT rfl rfl rfl) ?_)
    (refine KL.v rfl (Val.move rfl) ?_)
    (refine KL.yes rfl rfl ?_; refine KL.v rfl (Val.fieldAddr0 (k := 0) rfl rfl) ?_)
    (refine KL.yes rfl rfl ?_; refine KL.v rfl (Val.loadP rfl rfl (Sees.cell byTake rfl)) ?_)
    (refine KL.yes rfl rfl ?_; refine KL.v rfl (Val.isT (Val.eql rfl rfl) byLt) ?_)
    (refine KL.v rfl (Val.pickT rfl rfl rfl) ?_)
    (refine KL.v rfl (Val.move rfl) ?_)
    (refine KL.yes rfl rfl ?_; refine KL.v rfl (Val.fieldAddr0 (k := 0) rfl rfl) ?_)
    (refine KL.yes rfl rfl ?_; refine KL.v rfl (Val.loadP rfl rfl (Sees.cell byTake rfl)) ?_)
    (refine KL.yes rfl rfl ?_; refine KL.v rfl (Val.isT (Val.eql rfl rfl) byLt) ?_)
    (refine KL.v rfl (Val.pickT rfl rfl rfl) ?_)
    (refine KL.v rfl (Val.move rfl) ?_)
    (refine KL.yes rfl rfl ?_; refine KL.v rfl (Val.fieldAddr0 (k := 0) rfl rfl) ?_)
    (refine KL.yes rfl rfl ?_; refine KL.v rfl (Val.loadP rfl rfl (Sees.cell byTake rfl)) ?_)
    (refine KL.yes rfl rfl ?_; refine KL.v rfl (Val.isT (Val.eql rfl rfl) byLt) ?_)
    (refine KL.v rfl (Val.pickT rfl rfl rfl) ?_)
    (refine KL.v rfl (Val.move rfl) ?_)
    (refine KL.yes rfl rfl ?_; refine KL.v rfl (Val.fieldAddr0 (k := 0) rfl rfl) ?_)
    (refine KL.yes rfl rfl ?_; refine KL.v rfl (Val.loadP rfl rfl (Sees.cell byTake rfl)) ?_)
    (refine KL.yes rfl rfl ?_; refine KL.v rfl (Val.isT (Val.eql rfl rfl) byLt) ?_)
    (refine KL.v rfl (Val.pickT rfl rfl rfl) ?_)
    (refine KL.v rfl (Val.move rfl) ?_)
    (refine KL.yes rfl rfl ?_; refine KL.v rfl (Val.fieldAddr0 (k := 0) rfl rfl) ?_)
    (refine KL.yes rfl rfl ?_; refine KL.v rfl (Val.loadP rfl rfl (Sees.cell byTake rfl)) ?_)
    (refine KL.yes rfl rfl ?_; refine KL.v rfl (Val.isT (Val.eql rfl rfl) byLt) ?_)
    (refine KL.v rfl (Val.pickT rfl rfl rfl) ?_)
    (refine KL.v rfl (Val.assign rfl) ?_)
    refine KL.nil ?_
    refine KE.next ?_
    refine K.ret ?_
    exact KE.fin byMarks rfl byRes byPart ⟨rfl, rfl⟩
  · exact absurd hnew hno
end Go.Proofs.YthamkgghnjenhaaGreat
