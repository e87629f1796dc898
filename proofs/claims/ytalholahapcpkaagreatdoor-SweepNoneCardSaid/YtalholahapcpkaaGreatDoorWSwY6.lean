/- Sweep: no sweeper. -/
import Derived.Test.YtalholahapcpkaaGreatDoorWSwY5
namespace Go.Proofs.YtalholahapcpkaaGreatDoor.Sw
open Go.RowKit
set_option linter.unusedVariables false
set_option linter.unusedSimpArgs false
set_option maxRecDepth 10000
set_option maxHeartbeats 16000000 in
theorem sweepNone_K {w0 : World} {F : Heap} {c : Cfg} {vc vt : Value} (hG : Glob w0) (hR : CfgR w0 F c vc vt) (hC : Sli w0 [] iE vc c.cl) (hvc : vc.oneCell' = true) :
  Call Tryz.prog w0 4 [cfgV c vc vt] F (fun r H' => r = .bool true ∧ H' = F) := by
 obtain ⟨okk, hokk⟩ : ∃ okk, okC c = okk := ⟨_, rfl⟩
 have hawake := fun A => awake_K (w0 := w0) (F := A) hG
 cases okk with
 | false =>
  have hno := fun A (hp : Part A F) => made_no (hR.part hp) hokk
  obtain ⟨cl, page, tn, workers, grey, gens⟩ := c
  simp only [cfgV, cfgL] at hno ⊢
  unfold wo0 at hno
  refine Call.enter1 (n := 175) (by kernel_rfl) Tryz.func4 rfl rfl rfl ?_
  refine K.seq (K.region ?_)
  refine KL.e rfl (Eff.box rfl rfl) ?_; rintro _ _ ⟨b1, rfl, rfl⟩
  refine KL.v rfl (Val.assign rfl) ?_
  refine KL.nil (KE.next (K.seq (K.region ?_)))
  refine KL.v rfl (Val.loadA rfl rfl rfl bySeeN) ?_
  refine KL.callc rfl rfl byEvL fun T hT => ?_
  refine (CallV.fn (hno _ byPart)).mono ?_
  rintro _ _ ⟨rfl, rfl⟩
  refine hT _ _ ?_; clear hT T
  refine KL.v rfl (Val.move rfl) ?_
  refine KL.v rfl (Val.extract rfl rfl) ?_
  refine KL.v rfl (Val.extract rfl rfl) ?_
  refine KL.e rfl (Eff.alloc rfl) ?_; rintro _ _ ⟨b3, rfl, rfl⟩
  refine KL.eN (Eff.storeAL rfl rfl rfl byTake byLay byOnes) ?_; rintro _ _ rfl
  refine KL.v rfl (Val.assign rfl) ?_
  refine KL.nil (KE.next (K.seq (K.seq (K.region ?_))))
  refine KL.v rfl (Val.move rfl) ?_
  refine KL.v rfl (Val.notF rfl) ?_
  refine KL.nil (KE.next (K.condT rfl (K.seq (K.region ?_))))
  refine KL.callc rfl rfl byEvL fun T hT => ?_
  refine (CallV.fn (hawake _)).mono ?_
  rintro _ _ ⟨rfl, rfl⟩
  refine hT _ _ ?_; clear hT T
  refine KL.v rfl (Val.assign rfl) ?_
  refine KL.nil (KE.next ?_)
  refine K.ret ?_
  refine KE.passR ?_
  exact KE.fin byMarks rfl byRes byPart ⟨rfl, rfl⟩
 | true =>
  have hmade := fun A (hp : Part A F) => made_K (Dc := []) (F := A) hG (hR.part hp) hokk hC hvc
  have ht : thereP c 0 0 = true := by
   unfold okC at hokk
   simp only [Bool.and_eq_true, decide_eq_true_eq] at hokk
   have hcfg := cfg_ok hokk.2.2
   exact there_of (i := 0) (j := 0) hokk.2.2 (by have := hcfg.tn; omega) (by have := hcfg.cl; omega)
  have hpn : ∀ A, Part A F → Call Tryz.prog w0 22 [cfgV c vc vt, .int .i64 0] A (fun r H' => ∃ p : PlanM, PlanOk p ∧ r = .tuple [.pointer (some ⟨p.b, 0, none⟩), .int .i64 0].toArray ∧ H' = planH p ++ A) := fun A hp =>
   (pNew_K (t := 0) (hR.part hp) ht).mono (by rintro _ _ ⟨p, h1, _, h2, h3⟩; exact ⟨p, h1, h2, h3⟩)
  clear ht
  obtain ⟨cl, page, tn, workers, grey, gens⟩ := c
  simp only [cfgV, cfgL] at hmade hpn ⊢
  clear hokk hR
  refine Call.enter1 (n := 175) (by kernel_rfl) Tryz.func4 rfl rfl rfl ?_
  refine K.seq (K.region ?_)
  refine KL.e rfl (Eff.box rfl rfl) ?_; rintro _ _ ⟨b1, rfl, rfl⟩
  refine KL.v rfl (Val.assign rfl) ?_
  refine KL.nil (KE.next (K.seq (K.region ?_)))
  refine KL.v rfl (Val.loadA rfl rfl rfl bySeeN) ?_
  refine KL.callc rfl rfl byEvL fun T hT => ?_
  refine (CallV.fn (hmade _ byPart)).mono ?_
  rintro _ _ ⟨W, ⟨s0, hs0, hg, hW, hK⟩, rfl, rfl⟩
  obtain ⟨q1, q2, q3, q4, q5, q6, q7, q8⟩ := hW.o
  have ha0 : s0.act = false := by rw [hs0]; rfl
  clear hs0 hg hmade
  obtain ⟨g, hg⟩ : ∃ g, W.B.p.g = g := ⟨_, rfl⟩
  unfold woL
  refine hT _ _ ?_; clear hT T
  refine KL.v rfl (Val.move rfl) ?_
  refine KL.v rfl (Val.extract rfl rfl) ?_
  refine KL.v rfl (Val.extract rfl rfl) ?_
  refine KL.e rfl (Eff.alloc rfl) ?_; rintro _ _ ⟨b3, rfl, rfl⟩
  refine KL.eN (Eff.storeAL rfl rfl rfl byTake byLay byOnes) ?_; rintro _ _ rfl
  refine KL.v rfl (Val.assign rfl) ?_
  refine KL.nil (KE.next (K.seq (K.seq (K.region ?_))))
  refine KL.v rfl (Val.move rfl) ?_
  refine KL.v rfl (Val.notT rfl) ?_
  refine KL.nil (KE.next (K.condF rfl (K.skip (KE.next (K.seq (K.region ?_))))))
  refine KL.v rfl (Val.loadA rfl rfl rfl bySeeN) ?_
  refine KL.callc rfl rfl byEvL fun T hT => ?_
  refine (CallV.fn (hpn _ byPart)).mono ?_
  rintro _ _ ⟨p, okp, rfl, rfl⟩
  have hp := hW.p
  have c1 := fun A => new_p (w0 := w0) (F := A) hG hp
  have c2 := fun A => new_a (w0 := w0) (F := A) hG hp okp
  have c3 := fun A => new_b (w0 := w0) (F := A) hG hp okp
  have c4 := fun A => new_k (w0 := w0) (F := A) hG hp okp
  have d1 := fun A => wStop_E (w0 := w0) (F := A) hp (by rw [ha0]; rintro ⟨h, _⟩; cases h)
  have d2 := fun A => step_mod (w0 := w0) (F := A) hp (by rw [ha0]; rintro ⟨h, _⟩; cases h)
  have d3 := fun A => wDone_K (w0 := w0) (F := A) hp
  simp only [ha0, Bool.false_and] at d3
  refine hT _ _ ?_; clear hT T
  refine KL.v rfl (Val.move rfl) ?_
  refine KL.v rfl (Val.extract rfl rfl) ?_
  refine KL.v rfl (Val.extract rfl rfl) ?_
  refine KL.v rfl (Val.assign rfl) ?_
  refine KL.v rfl (Val.assign rfl) ?_
  refine KL.nil (KE.next (K.seq (K.region ?_)))
  refine KL.v rfl (Val.fieldAddr0 (k := 1) rfl rfl) ?_
  refine KL.v rfl (Val.loadP rfl rfl (Sees.cell byTake rfl)) ?_
  refine KL.v rfl (Val.fieldAddr0 (k := 2) rfl rfl) ?_
  refine KL.v rfl (Val.loadP rfl rfl (Sees.cell byTake rfl)) ?_
  refine KL.v rfl (Val.fieldAddr0 (k := 3) rfl rfl) ?_
  refine KL.v rfl (Val.loadP rfl rfl (Sees.cell byTake rfl)) ?_
  refine KL.callc rfl rfl byEvL fun T hT => ?_
  refine (CallV.part (CallV.fn (c1 _)) byPart).mono ?_
  rintro _ _ ⟨rfl, rfl⟩
  refine hT _ _ ?_; clear hT T
  refine KL.v rfl (Val.move rfl) ?_
  refine KL.v rfl (Val.extract rfl rfl) ?_
  refine KL.v rfl (Val.extract rfl rfl) ?_
  refine KL.v rfl (Val.assign rfl) ?_
  refine KL.v rfl (Val.assign rfl) ?_
  refine KL.nil (KE.next (K.seq (K.region ?_)))
  refine KL.v rfl (Val.move rfl) ?_
  refine KL.v rfl (Val.fieldAddr0 (k := 2) rfl rfl) ?_
  refine KL.v rfl (Val.loadP rfl rfl (Sees.cell byTake rfl)) ?_
  refine KL.v rfl (Val.fieldAddr0 (k := 3) rfl rfl) ?_
  refine KL.v rfl (Val.loadP rfl rfl (Sees.cell byTake rfl)) ?_
  refine KL.callc rfl rfl byEvL fun T hT => ?_
  refine (CallV.part (CallV.fn (c2 _)) byPart).mono ?_
  rintro _ _ ⟨rfl, rfl⟩
  refine hT _ _ ?_; clear hT T
  refine KL.v rfl (Val.move rfl) ?_
  refine KL.v rfl (Val.extract rfl rfl) ?_
  refine KL.v rfl (Val.extract rfl rfl) ?_
  refine KL.v rfl (Val.assign rfl) ?_
  refine KL.v rfl (Val.assign rfl) ?_
  refine KL.nil (KE.next (K.seq (K.region ?_)))
  refine KL.v rfl (Val.move rfl) ?_
  refine KL.v rfl (Val.fieldAddr0 (k := 1) rfl rfl) ?_
  refine KL.v rfl (Val.loadP rfl rfl (Sees.cell byTake rfl)) ?_
  refine KL.v rfl (Val.fieldAddr0 (k := 3) rfl rfl) ?_
  refine KL.v rfl (Val.loadP rfl rfl (Sees.cell byTake rfl)) ?_
  refine KL.callc rfl rfl byEvL fun T hT => ?_
  refine (CallV.part (CallV.fn (c3 _)) byPart).mono ?_
  rintro _ _ ⟨rfl, rfl⟩
  refine hT _ _ ?_; clear hT T
  refine KL.v rfl (Val.move rfl) ?_
  refine KL.v rfl (Val.extract rfl rfl) ?_
  refine KL.v rfl (Val.extract rfl rfl) ?_
  refine KL.v rfl (Val.assign rfl) ?_
  refine KL.v rfl (Val.assign rfl) ?_
  refine KL.nil (KE.next (K.seq (K.region ?_)))
  refine KL.v rfl (Val.move rfl) ?_
  refine KL.v rfl (Val.fieldAddr0 (k := 1) rfl rfl) ?_
  refine KL.v rfl (Val.loadP rfl rfl (Sees.cell byTake rfl)) ?_
  refine KL.v rfl (Val.fieldAddr0 (k := 2) rfl rfl) ?_
  refine KL.v rfl (Val.loadP rfl rfl (Sees.cell byTake rfl)) ?_
  refine KL.callc rfl rfl byEvL fun T hT => ?_
  refine (CallV.part (CallV.fn (c4 _)) byPart).mono ?_
  rintro _ _ ⟨rfl, rfl⟩
  refine hT _ _ ?_; clear hT T
  refine KL.v rfl (Val.move rfl) ?_
  refine KL.v rfl (Val.extract rfl rfl) ?_
  refine KL.v rfl (Val.extract rfl rfl) ?_
  refine KL.v rfl (Val.assign rfl) ?_
  refine KL.v rfl (Val.assign rfl) ?_
  refine KL.nil (KE.next (K.seq (K.region ?_)))
  refine KL.v rfl (Val.assign rfl) ?_
  refine KL.nil (KE.next (K.seq (K.region ?_)))
  refine KL.v rfl (Val.build byParts rfl rfl byFill) ?_
  refine KL.e rfl (Eff.box rfl rfl) ?_; rintro _ _ ⟨b74, rfl, rfl⟩
  refine KL.v rfl (Val.assign rfl) ?_
  refine KL.nil (KE.next (K.seq (K.region ?_)))
  refine KL.v rfl (Val.move rfl) ?_
  refine KL.callc rfl rfl byEvL fun T hT => ?_
  refine (CallV.fn spstop0_K).mono ?_
  rintro _ _ ⟨rfl, rfl⟩
  have z1 := fun A => spstopZ_K (w0 := w0) (F := A) (zb := b74)
  have z2 := fun A => spstartZ_K (w0 := w0) (F := A) (zb := b74)
  have z3 := fun A => spstepZ_K (w0 := w0) (F := A) (zb := b74)
  have z4 := fun A => spdoomedZ_K (w0 := w0) (F := A) (zb := b74)
  have z5 := fun A => spactZ_K (w0 := w0) (F := A) (zb := b74)
  simp only [zeroH_app] at z1 z2 z3 z4 z5
  refine hT _ _ ?_; clear hT T
  refine KL.v rfl (Val.move rfl) ?_
  refine KL.v rfl (Val.extract rfl rfl) ?_
  refine KL.v rfl (Val.extract rfl rfl) ?_
  refine KL.v rfl (Val.assign rfl) ?_
  refine KL.v rfl (Val.assign rfl) ?_
  refine KL.nil (KE.next (K.seq (K.region ?_)))
  refine KL.v rfl (Val.move rfl) ?_
  refine KL.callc rfl rfl byEvL fun T hT => ?_
  refine (CallV.part (CallV.fn (z1 _)) byPart).mono ?_
  rintro _ _ ⟨rfl, rfl⟩
  refine hT _ _ ?_; clear hT T
  refine KL.v rfl (Val.move rfl) ?_
  refine KL.v rfl (Val.extract rfl rfl) ?_
  refine KL.v rfl (Val.extract rfl rfl) ?_
  refine KL.v rfl (Val.assign rfl) ?_
  refine KL.v rfl (Val.assign rfl) ?_
  refine KL.nil (KE.next (K.seq (K.region ?_)))
  refine KL.v rfl (Val.fieldAddr0 (k := 4) rfl rfl) ?_
  refine KL.v rfl (Val.loadP rfl rfl (Sees.cell byTake rfl)) ?_
  refine KL.callc rfl rfl byEvL fun T hT => ?_
  refine (CallV.part (CallV.fn (d1 _)) byPart).mono ?_
  rintro _ _ ⟨rfl, rfl⟩
  refine hT _ _ ?_; clear hT T
  refine KL.v rfl (Val.move rfl) ?_
  refine KL.v rfl (Val.extract rfl rfl) ?_
  refine KL.v rfl (Val.extract rfl rfl) ?_
  refine KL.v rfl (Val.assign rfl) ?_
  refine KL.v rfl (Val.assign rfl) ?_
  refine KL.nil (KE.next (K.seq (K.region ?_)))
  refine KL.v rfl (Val.move rfl) ?_
  refine KL.v rfl (Val.isT (Val.eql rfl rfl) byLt) ?_
  refine KL.v rfl (Val.move rfl) ?_
  refine KL.yes rfl rfl ?_; refine KL.v rfl (Val.move rfl) ?_
  refine KL.yes rfl rfl ?_; refine KL.v rfl (Val.isT (Val.eql rfl rfl) byLt) ?_
  refine KL.v rfl (Val.pickT rfl rfl rfl) ?_
  refine KL.v rfl (Val.move rfl) ?_
  refine KL.yes rfl rfl ?_; refine KL.v rfl (Val.move rfl) ?_
  refine KL.yes rfl rfl ?_; refine KL.v rfl (Val.isT (Val.eql rfl rfl) byLt) ?_
  refine KL.v rfl (Val.pickT rfl rfl rfl) ?_
  refine KL.v rfl (Val.move rfl) ?_
  refine KL.yes rfl rfl ?_; refine KL.v rfl (Val.move rfl) ?_
  refine KL.yes rfl rfl ?_; refine KL.v rfl (Val.isT (Val.eql rfl rfl) byLt) ?_
  refine KL.v rfl (Val.pickT rfl rfl rfl) ?_
  refine KL.v rfl (Val.move rfl) ?_
  refine KL.yes rfl rfl ?_; refine KL.v rfl (Val.move rfl) ?_
  refine KL.yes rfl rfl ?_; refine KL.v rfl (Val.isT (Val.eql rfl rfl) byLt) ?_
  refine KL.v rfl (Val.pickT rfl rfl rfl) ?_
  refine KL.v rfl (Val.move rfl) ?_
  refine KL.yes rfl rfl ?_; refine KL.v rfl (Val.move rfl) ?_
  refine KL.yes rfl rfl ?_; refine KL.v rfl (Val.isT (Val.eql rfl rfl) byLt) ?_
  refine KL.v rfl (Val.pickT rfl rfl rfl) ?_
  refine KL.v rfl (Val.move rfl) ?_
  refine KL.yes rfl rfl ?_; refine KL.v rfl (Val.move rfl) ?_
  refine KL.yes rfl rfl ?_; refine KL.v rfl (Val.isT (Val.eql rfl rfl) byLt) ?_
  refine KL.v rfl (Val.pickT rfl rfl rfl) ?_
  refine KL.v rfl (Val.move rfl) ?_
  refine KL.yes rfl rfl ?_; refine KL.v rfl (Val.move rfl) ?_
  refine KL.yes rfl rfl ?_; refine KL.callc rfl rfl byEvL fun T hT => ?_
  refine (CallV.fn spstart0_K).mono ?_
  rintro _ _ ⟨rfl, rfl⟩
  refine hT _ _ ?_; clear hT T
  refine KL.yes rfl rfl ?_; refine KL.v rfl (Val.isT (Val.eql rfl rfl) byLt) ?_
  refine KL.v rfl (Val.pickT rfl rfl rfl) ?_
  refine KL.v rfl (Val.move rfl) ?_
  refine KL.yes rfl rfl ?_; refine KL.v rfl (Val.move rfl) ?_
  refine KL.yes rfl rfl ?_; refine KL.callc rfl rfl byEvL fun T hT => ?_
  refine (CallV.part (CallV.fn (z2 _)) byPart).mono ?_
  rintro _ _ ⟨rfl, rfl⟩
  refine hT _ _ ?_; clear hT T
  refine KL.yes rfl rfl ?_; refine KL.v rfl (Val.isT (Val.eql rfl rfl) byLt) ?_
  refine KL.v rfl (Val.pickT rfl rfl rfl) ?_
  refine KL.v rfl (Val.move rfl) ?_
  refine KL.yes rfl rfl ?_; refine KL.v rfl (Val.move rfl) ?_
  refine KL.yes rfl rfl ?_; refine KL.callc rfl rfl byEvL fun T hT => ?_
  refine (CallV.fn spstep0_K).mono ?_
  rintro _ _ ⟨rfl, rfl⟩
  refine hT _ _ ?_; clear hT T
  refine KL.yes rfl rfl ?_; refine KL.v rfl (Val.notF rfl) ?_
  refine KL.v rfl (Val.pickT rfl rfl rfl) ?_
  refine KL.v rfl (Val.move rfl) ?_
  refine KL.yes rfl rfl ?_; refine KL.v rfl (Val.move rfl) ?_
  refine KL.yes rfl rfl ?_; refine KL.callc rfl rfl byEvL fun T hT => ?_
  refine (CallV.part (CallV.fn (z3 _)) byPart).mono ?_
  rintro _ _ ⟨rfl, rfl⟩
  refine hT _ _ ?_; clear hT T
  refine KL.yes rfl rfl ?_; refine KL.v rfl (Val.notF rfl) ?_
  refine KL.v rfl (Val.pickT rfl rfl rfl) ?_
  refine KL.v rfl (Val.move rfl) ?_
  refine KL.yes rfl rfl ?_; refine KL.v rfl (Val.fieldAddr0 (k := 4) rfl rfl) ?_
  refine KL.yes rfl rfl ?_; refine KL.v rfl (Val.loadP rfl rfl (Sees.cell byTake rfl)) ?_
  refine KL.yes rfl rfl ?_; refine KL.callc rfl rfl byEvL fun T hT => ?_
  refine (CallV.part (CallV.fn (d2 _)) byPart).mono ?_
  rintro _ _ ⟨rfl, rfl⟩
  refine hT _ _ ?_; clear hT T
  refine KL.yes rfl rfl ?_; refine KL.v rfl (Val.notF rfl) ?_
  refine KL.v rfl (Val.pickT rfl rfl rfl) ?_
  refine KL.v rfl (Val.move rfl) ?_
  refine KL.yes rfl rfl ?_; refine KL.v rfl (Val.move rfl) ?_
  refine KL.yes rfl rfl ?_; refine KL.callc rfl rfl byEvL fun T hT => ?_
  refine (CallV.fn spplace0_K).mono ?_
  rintro _ _ ⟨rfl, rfl⟩
  refine hT _ _ ?_; clear hT T
  refine KL.yes rfl rfl ?_; refine KL.v rfl (Val.move rfl) ?_
  refine KL.yes rfl rfl ?_; refine KL.callc rfl rfl byEvL fun T hT => ?_
  refine (CallV.fn spdoomed0_K).mono ?_
  rintro _ _ ⟨rfl, rfl⟩
  refine hT _ _ ?_; clear hT T
  refine KL.yes rfl rfl ?_; refine KL.v rfl (Val.lenS rfl rfl) ?_
  refine KL.yes rfl rfl ?_; refine KL.v rfl (Val.add rfl rfl (by simp only [Go.Proofs.YtalholahapcpkaaGreatDoor.lo, Go.Proofs.YtalholahapcpkaaGreatDoor.hi]; omega)) ?_
  refine KL.yes rfl rfl ?_; refine KL.v rfl (Val.move rfl) ?_
  refine KL.yes rfl rfl ?_; refine KL.callc rfl rfl byEvL fun T hT => ?_
  refine (CallV.part (CallV.fn (z4 _)) byPart).mono ?_
  rintro _ _ ⟨rfl, rfl⟩
  refine hT _ _ ?_; clear hT T
  refine KL.yes rfl rfl ?_; refine KL.v rfl (Val.lenS rfl rfl) ?_
  refine KL.yes rfl rfl ?_; refine KL.v rfl (Val.add rfl rfl (by simp only [Go.Proofs.YtalholahapcpkaaGreatDoor.lo, Go.Proofs.YtalholahapcpkaaGreatDoor.hi]; omega)) ?_
  refine KL.yes rfl rfl ?_; refine KL.v rfl (Val.isT (Val.eql rfl rfl) byLt) ?_
  refine KL.v rfl (Val.pickT rfl rfl rfl) ?_
  refine KL.v rfl (Val.move rfl) ?_
  refine KL.yes rfl rfl ?_; refine KL.v rfl (Val.move rfl) ?_
  refine KL.yes rfl rfl ?_; refine KL.callc rfl rfl byEvL fun T hT => ?_
  refine (CallV.fn spdone0_K).mono ?_
  rintro _ _ ⟨rfl, rfl⟩
  refine hT _ _ ?_; clear hT T
  refine KL.yes rfl rfl ?_; refine KL.v rfl (Val.notF rfl) ?_
  refine KL.v rfl (Val.pickT rfl rfl rfl) ?_
  refine KL.v rfl (Val.move rfl) ?_
  refine KL.yes rfl rfl ?_; refine KL.v rfl (Val.move rfl) ?_
  refine KL.yes rfl rfl ?_; refine KL.callc rfl rfl byEvL fun T hT => ?_
  refine (CallV.part (CallV.fn (z5 _)) byPart).mono ?_
  rintro _ _ ⟨rfl, rfl⟩
  refine hT _ _ ?_; clear hT T
  refine KL.yes rfl rfl ?_; refine KL.v rfl (Val.notF rfl) ?_
  refine KL.v rfl (Val.pickT rfl rfl rfl) ?_
  refine KL.v rfl (Val.move rfl) ?_
  refine KL.yes rfl rfl ?_; refine KL.v rfl (Val.fieldAddr0 (k := 4) rfl rfl) ?_
  refine KL.yes rfl rfl ?_; refine KL.v rfl (Val.loadP rfl rfl (Sees.cell byTake rfl)) ?_
  refine KL.yes rfl rfl ?_; refine KL.callc rfl rfl byEvL fun T hT => ?_
  refine (CallV.part (CallV.fn (d3 _)) byPart).mono ?_
  rintro _ _ ⟨rfl, rfl⟩
  refine hT _ _ ?_; clear hT T
  refine KL.yes rfl rfl ?_; refine KL.v rfl (Val.notF rfl) ?_
  refine KL.v rfl (Val.pickT rfl rfl rfl) ?_
  refine KL.v rfl (Val.move rfl) ?_
  refine KL.yes rfl rfl ?_; refine KL.callc rfl rfl byEvL fun T hT => ?_
  refine (CallV.fn (hawake _)).mono ?_
  rintro _ _ ⟨rfl, rfl⟩
  refine hT _ _ ?_; clear hT T
  refine KL.v rfl (Val.pickT rfl rfl rfl) ?_
  refine KL.v rfl (Val.assign rfl) ?_
  refine KL.nil (KE.next ?_)
  refine K.ret ?_
  exact KE.fin byMarks rfl byRes byPart ⟨rfl, rfl⟩
end Go.Proofs.YtalholahapcpkaaGreatDoor.Sw
