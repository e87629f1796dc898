/- Sweep: a sweeper does what the document says. -/
import Derived.Test.YtalholahapcpkaaGreatDoorJ29
namespace Go.Proofs.YtalholahapcpkaaGreatDoor.Sw
open Go.RowKit
set_option linter.unusedVariables false
set_option linter.unusedSimpArgs false
set_option maxRecDepth 10000
structure LvA where
 i : Nat
 W : WoM
 s : SwP
structure LvB where
 k : Nat
 W : WoM
 s : SwP
structure LvC where
 n : Nat
 W : WoM
 t : SwP
structure LvD where
 i : Nat
theorem mem_bnd {W : WoM} {s : SwP} (hp : WpR W s) : s.R.flatten.length ≤ 1000000000 := by
 have := hp.bo.m.n
 rw [hp.R] at this
 omega
set_option maxHeartbeats 16000000 in
theorem sweepPlays_K {w0 : World} {F : Heap} {c : Cfg} {vc vt vl vm : Value} {l m : List ActP} (hG : Glob w0) (hR : CfgR w0 F c vc vt) (hC : Sli w0 [] iE vc c.cl) (hvc : vc.oneCell' = true) (hl : Sli w0 F actE vl l) (hlw : ∀ x ∈ l, x.w < 256) (hm : Sli w0 F actE vm m) (hmw : ∀ x ∈ m, x.w < 256) :
  Call Tryz.prog w0 6 [cfgV c vc vt, vl, vm] F (fun r H' => r = .bool true ∧ H' = F) := by
 obtain ⟨okk, hokk⟩ : ∃ okk, okC c = okk := ⟨_, rfl⟩
 have hawake := fun A => awake_K (w0 := w0) (F := A) hG
 cases okk with
 | false =>
  have hno := fun A (hp : Part A F) => made_no (hR.part hp) hokk
  obtain ⟨cl, page, tn, workers, grey, gens⟩ := c
  simp only [cfgV, cfgL] at hno ⊢
  unfold wo0 at hno
  refine Call.enter3 (n := 173) (by kernel_rfl) Tryz.func6 rfl rfl rfl ?_
  refine K.seq (K.region ?_)
  refine KL.e rfl (Eff.box rfl rfl) ?_; rintro _ _ ⟨b3, rfl, rfl⟩
  refine KL.v rfl (Val.assign rfl) ?_
  refine KL.nil (KE.next (K.seq (K.region ?_)))
  refine KL.v rfl (Val.loadA rfl rfl rfl bySeeN) ?_
  refine KL.callc rfl rfl byEvL fun T hT => ?_
  refine (CallV.fn (hno _ byPart)).mono ?_
  rintro _ _ ⟨rfl, rfl⟩
  refine hT _ _ ?_; clear hT T
  refine KL.v rfl (Val.move rfl) ?_
  refine KL.v rfl (Val.extract rfl rfl) ?_
  refine KL.v rfl (Val.extract rfl rfl) ?_
  refine KL.e rfl (Eff.alloc rfl) ?_; rintro _ _ ⟨b7, rfl, rfl⟩
  refine KL.eN (Eff.storeAL rfl rfl rfl byTake byLay byOnes) ?_; rintro _ _ rfl
  refine KL.v rfl (Val.assign rfl) ?_
  refine KL.nil (KE.next (K.seq (K.seq (K.region ?_))))
  refine KL.v rfl (Val.move rfl) ?_
  refine KL.v rfl (Val.notF rfl) ?_
  refine KL.nil (KE.next (K.condT rfl (K.seq (K.region ?_))))
  refine KL.callc rfl rfl byEvL fun T hT => ?_
  refine (CallV.fn (hawake _)).mono ?_
  rintro _ _ ⟨rfl, rfl⟩
  refine hT _ _ ?_; clear hT T
  refine KL.v rfl (Val.assign rfl) ?_
  refine KL.nil (KE.next ?_)
  refine K.ret ?_
  refine KE.passR ?_
  exact KE.fin byMarks rfl byRes byPart ⟨rfl, rfl⟩
 | true =>
  have hmade := fun A (hp : Part A F) => made_K (Dc := []) (F := A) hG (hR.part hp) hokk hC hvc
  obtain ⟨cl, page, tn, workers, grey, gens⟩ := c
  simp only [cfgV, cfgL] at hmade ⊢
  clear hokk hR
  refine Call.enter3 (n := 173) (by kernel_rfl) Tryz.func6 rfl rfl rfl ?_
  refine K.seq (K.region ?_)
  refine KL.e rfl (Eff.box rfl rfl) ?_; rintro _ _ ⟨b3, rfl, rfl⟩
  refine KL.v rfl (Val.assign rfl) ?_
  refine KL.nil (KE.next (K.seq (K.region ?_)))
  refine KL.v rfl (Val.loadA rfl rfl rfl bySeeN) ?_
  refine KL.callc rfl rfl byEvL fun T hT => ?_
  refine (CallV.fn (hmade _ byPart)).mono ?_
  rintro _ _ ⟨W, ⟨s0, hs0, hg, hW, hK⟩, rfl, rfl⟩
  obtain ⟨q1, q2, q3, q4, q5, q6, q7, q8⟩ := hW.o
  have ha0 : s0.act = false := by rw [hs0]; rfl
  clear hs0 hg hmade
  obtain ⟨g, hg⟩ : ∃ g, W.B.p.g = g := ⟨_, rfl⟩
  unfold woL
  refine hT _ _ ?_; clear hT T
  refine KL.v rfl (Val.move rfl) ?_
  refine KL.v rfl (Val.extract rfl rfl) ?_
  refine KL.v rfl (Val.extract rfl rfl) ?_
  refine KL.e rfl (Eff.alloc rfl) ?_; rintro _ _ ⟨b7, rfl, rfl⟩
  refine KL.eN (Eff.storeAL rfl rfl rfl byTake byLay byOnes) ?_; rintro _ _ rfl
  refine KL.v rfl (Val.assign rfl) ?_
  refine KL.nil (KE.next (K.seq (K.seq (K.region ?_))))
  refine KL.v rfl (Val.move rfl) ?_
  refine KL.v rfl (Val.notT rfl) ?_
  refine KL.nil (KE.next (K.condF rfl (K.skip (KE.next ?_))))
  refine byCode ?_
  refine KL.v rfl (Val.assign rfl) ?_
  refine KL.nil (KE.next ?_)
  refine K.cutE (σ := LvA) [(2, _), (7, _)] bySub (fun s kp_ => kp_) (fun s => woH s.W ++ ((b7, cells (woL s.W) 47) :: F)) (fun s => WoR w0 s.W s.s ∧ WoK w0 s.W s.s ∧ s.W.B.p.g = g ∧ s.s.act = false) ?_ ?_
  ·refine K.block ?_
   refine K.loopT (σ := LvA) [(1, _), (2, _), (7, _)] (fun s kp_ => (9, .int .i64 (s.i : Nat)) :: kp_) (fun s => woH s.W ++ ((b7, cells (woL s.W) 47) :: F)) (fun s => s.i ≤ l.length ∧ WoR w0 s.W s.s ∧ WoK w0 s.W s.s ∧ s.W.B.p.g = g ∧ s.s.act = false) (fun s => l.length - s.i) (⟨0, W, s0⟩) bySub byPart (⟨Nat.zero_le _, hW, hK, hg, ha0⟩) ?_
   rintro ⟨i, W1, s1⟩ ⟨hi, hW1, hK1, hg1, ha1⟩
   dsimp only at hi hW1 hK1 hg1 ha1 ⊢
   obtain ⟨q1, q2, q3, q4, q5, q6, q7, q8⟩ := hW1.o
   by_cases hlt : i < l.length ∧ i < 40
   ·obtain ⟨h1, h2⟩ := hlt
    have h2' : ((i : Nat) : Int) < 40 := by omega
    obtain ⟨x, hx⟩ := get_of_lt h1
    have hxw := hlw x (List.mem_of_getElem? hx)
    have hdoes := fun A => does_K (w0 := w0) (F := A) (what := x.w) (n := x.n) hG hW1 hK1 hxw
    unfold woL
    refine K.seq (K.seq (K.region ?_))
    refine KL.v rfl (Val.move rfl) ?_
    refine KL.v rfl (Val.move rfl) ?_
    refine KL.v rfl (Val.lenSl rfl rfl bySli) ?_
    refine KL.v rfl (Val.isT (Val.lss rfl rfl) byLt) ?_
    refine KL.v rfl (Val.move rfl) ?_
    refine KL.yes rfl rfl ?_; refine KL.v rfl (Val.move rfl) ?_
    refine KL.yes rfl rfl ?_; refine KL.v rfl (Val.isT (Val.lss rfl rfl) byLt) ?_
    refine KL.v rfl (Val.pickT rfl rfl rfl) ?_
    refine KL.nil (KE.next (K.condT rfl (K.skip (KE.next (K.seq (K.block ?_))))))
    refine byCodeD ?_
    (first | refine K.seq (K.drawn ([]) [(0, 0), (1, 0), (2, 0), (3, 0), (4, 0), (5, 2), (6, 0), (7, 0), (8, 1), (9, 2), (10, 0)] (by kernel_rfl) (by kernel_rfl) (by kernel_rfl) (by kernel_rfl) (by kernel_rfl) (by kernel_rfl) byPart ?_) | refine K.seq (K.seq (K.drawn ([]) [(0, 0), (1, 0), (2, 0), (3, 0), (4, 0), (5, 2), (6, 0), (7, 0), (8, 1), (9, 2), (10, 0)] (by kernel_rfl) (by kernel_rfl) (by kernel_rfl) (by kernel_rfl) (by kernel_rfl) (by kernel_rfl) byPart ?_)) | refine K.drawn ([]) [(0, 0), (1, 0), (2, 0), (3, 0), (4, 0), (5, 2), (6, 0), (7, 0), (8, 1), (9, 2), (10, 0)] (by kernel_rfl) (by kernel_rfl) (by kernel_rfl) (by kernel_rfl) (by kernel_rfl) (by kernel_rfl) byPart ?_)
    (first | refine KD.v0 rfl rfl (Val.loadAP rfl rfl rfl bySeeA) ?_ | refine KD.v0 rfl rfl (Val.loadA rfl rfl rfl bySeeN) ?_)
    refine KD.v0 rfl rfl (Val.move rfl) ?_
    refine KD.v0 rfl rfl (Val.move rfl) ?_
    (first | refine KD.v0 rfl rfl (Val.idxSl rfl rfl rfl bySli rfl byLt) ?_ | refine KD.v0 rfl rfl (Val.idxSlZ rfl rfl rfl bySli rfl (by omega)) ?_ | refine KD.v0 rfl rfl (Val.indexS1 rfl rfl rfl rfl (by omega)) ?_ | refine KD.v0 rfl rfl (Val.indexS rfl rfl rfl rfl (by omega)) ?_ | refine KD.v0 rfl rfl (Val.indexSO rfl rfl rfl rfl (by omega)) ?_ | refine KD.v0 rfl rfl (Val.indexSG rfl rfl rfl rfl (by omega)) ?_)
    (first | refine KD.v0 rfl rfl (Val.loadAP rfl rfl rfl bySeeA) ?_ | refine KD.v0 rfl rfl (Val.loadA rfl rfl rfl bySeeN) ?_)
    refine KD.callc rfl rfl rfl byEvL fun T hT => ?_
    refine (CallV.part (CallV.fn (hdoes _)) byPart).mono ?_
    rintro _ _ ⟨W2, hW2, hK2, hg2, rfl, rfl⟩
    obtain ⟨r1, r2, r3, r4, r5, r6, r7, r8⟩ := hW2.o
    unfold woL
    refine hT _ _ byPart ?_; clear hT T
    refine KD.v0 rfl rfl (Val.move rfl) ?_
    refine KD.v0 rfl rfl (Val.extract rfl rfl) ?_
    refine KD.v1 rfl rfl (Val.extract rfl rfl) ?_
    (first | (refine KD.eN rfl (Eff.storeAL rfl rfl rfl byTake byLay byOnes) ?_; rintro _ _ rfl; refine ⟨byPart, ?_⟩) | (refine KD.eN rfl (Eff.stSlA rfl rfl rfl rfl byTakeL (by assumption) (by assumption)) ?_; rintro _ _ rfl; refine ⟨byPart, ?_⟩))
    refine KD.v0 rfl rfl (Val.assign rfl) ?_
    refine KD.nil ?_
    refine KE.next (K.seq (K.region ?_))
    refine KL.v rfl (Val.move rfl) ?_
    refine KL.v rfl (Val.notT rfl) ?_
    refine KL.nil (KE.next (K.condF rfl (K.skip ?_)))
    refine KE.blkN ?_
    refine KE.next (K.region ?_)
    refine KL.v rfl (Val.move rfl) ?_
    refine KL.v rfl (Val.add rfl rfl (by simp only [Go.Proofs.YtalholahapcpkaaGreatDoor.lo, Go.Proofs.YtalholahapcpkaaGreatDoor.hi]; omega)) ?_
    refine KL.v rfl (Val.assign rfl) ?_
    refine KL.nil ?_
    exact KE.again ⟨i + 1, W2, _⟩ bySub byPart ⟨h1, hW2, hK2, hg2.trans hg1, actS_act.trans ha1⟩ (by show l.length - (i + 1) < l.length - i; omega)
   ·by_cases h1 : i < l.length
    ·have h2 : ¬ ((i : Nat) : Int) < 40 := by omega
     clear hlt
     unfold woL
     refine K.seq (K.seq (K.region ?_))
     refine KL.v rfl (Val.move rfl) ?_
     refine KL.v rfl (Val.move rfl) ?_
     refine KL.v rfl (Val.lenSl rfl rfl bySli) ?_
     refine KL.v rfl (Val.isT (Val.lss rfl rfl) byLt) ?_
     refine KL.v rfl (Val.move rfl) ?_
     refine KL.yes rfl rfl ?_; refine KL.v rfl (Val.move rfl) ?_
     refine KL.yes rfl rfl ?_; refine KL.v rfl (Val.isF (Val.lss rfl rfl) byLt) ?_
     refine KL.v rfl (Val.pickT rfl rfl rfl) ?_
     refine KL.nil (KE.next (K.condF rfl ?_))
     refine K.exit ?_
     refine KE.passX ?_
     refine KE.passX ?_
     refine KE.blkX ?_
     exact KE.meet ⟨0, W1, s1⟩ bySub byPart ⟨hW1, hK1, hg1, ha1⟩
    ·clear hlt
     unfold woL
     refine K.seq (K.seq (K.region ?_))
     refine KL.v rfl (Val.move rfl) ?_
     refine KL.v rfl (Val.move rfl) ?_
     refine KL.v rfl (Val.lenSl rfl rfl bySli) ?_
     refine KL.v rfl (Val.isF (Val.lss rfl rfl) byLt) ?_
     refine KL.v rfl (Val.move rfl) ?_
     refine KL.skipG rfl rfl rfl ?_
     refine KL.skipG rfl rfl rfl ?_
     refine KL.v rfl (Val.pickF rfl rfl rfl) ?_
     refine KL.nil (KE.next (K.condF rfl ?_))
     refine K.exit ?_
     refine KE.passX ?_
     refine KE.passX ?_
     refine KE.blkX ?_
     exact KE.meet ⟨0, W1, s1⟩ bySub byPart ⟨hW1, hK1, hg1, ha1⟩
  ·rintro ⟨_, W1, s1⟩ ⟨hW1, hK1, hg1, ha1⟩
   dsimp only at hW1 hK1 hg1 ha1 ⊢
   clear q1 q2 q3 q4 q5 q6 q7 q8 hW hK ha0 hg
   obtain ⟨q1, q2, q3, q4, q5, q6, q7, q8⟩ := hW1.o
   have hgs := hW1.bo.p.g.slots
   rw [hg1] at hgs
   have hplok : PlOk g := by have := hW1.bo.p.g; rw [hg1] at this; exact this
   have hok1 : SwOk g s1 := by have := hW1.ok; rw [hg1] at this; exact this
   have hCl := hok1.C
   have hvC : Sli w0 (woH W1) bE W1.vc s1.C := hW1.dC.part (by unfold woH; exact byPart)
   have hstart := fun A => wStart_K (w0 := w0) (F := A) hW1.p ha1
   unfold woL
   refine K.seq (K.seq (K.region ?_))
   refine KL.v rfl (Val.fieldAddr0 (k := 4) rfl rfl) ?_
   refine KL.v rfl (Val.loadP rfl rfl (Sees.cell byTake rfl)) ?_
   refine KL.callc rfl rfl byEvL fun T hT => ?_
   refine (CallV.part (CallV.fn (hstart _)) byPart).mono ?_
   rintro _ _ ⟨rfl, W2, hp2, hsm2, e1, e2, e3, e4, e5, e6, e7, e8, rfl⟩
   have hst2 := fun A => wStart_E (w0 := w0) (F := A) hp2 rfl
   simp only [hsm2.sp] at hst2
   have hvC2 : Sli w0 (woH W2) bE W1.vc s1.C := hW1.dC.part (by rw [← hsm2.D]; unfold woH; exact byPart)
   refine hT _ _ ?_; clear hT T
   refine KL.v rfl (Val.isF (Val.neq rfl rfl) byLt) ?_
   refine KL.v rfl (Val.move rfl) ?_
   refine KL.yes rfl rfl ?_; refine KL.v rfl (Val.fieldAddr0 (k := 4) rfl rfl) ?_
   refine KL.yes rfl rfl ?_; refine KL.v rfl (Val.loadP rfl rfl (Sees.cell byTake rfl)) ?_
   refine KL.yes rfl rfl ?_; refine KL.callc rfl rfl byEvL fun T hT => ?_
   refine (CallV.part (CallV.fn (hst2 _)) byPart).mono ?_
   rintro _ _ ⟨rfl, rfl⟩
   refine hT _ _ ?_; clear hT T
   refine KL.yes rfl rfl ?_; refine KL.v rfl (Val.isF (Val.neq rfl rfl) byLt) ?_
   refine KL.v rfl (Val.pickF rfl rfl rfl) ?_
   refine KL.nil (KE.next (K.condF rfl (K.skip (KE.next (K.seq (K.region ?_))))))
   refine KL.v rfl (Val.fieldAddr0 (k := 18) rfl rfl) ?_
   refine KL.v rfl (Val.loadP rfl rfl (Sees.cell byTake rfl)) ?_
   refine KL.v rfl (Val.lenSl rfl rfl bySli) ?_
   refine KL.callc rfl rfl byEvL fun T hT => ?_
   refine (CallV.fn (rsStart_K (n := s1.C.length) (by omega))).mono ?_
   rintro _ _ ⟨vd', N, hvd, hod, rfl, rfl⟩
   unfold ksL
   refine hT _ _ ?_; clear hT T
   refine KL.v rfl (Val.fieldAddr0 (k := 19) rfl rfl) ?_
   refine KL.eN (Eff.storeAL rfl rfl rfl byTake byLay byOnes) ?_; rintro _ _ rfl
   refine KL.nil (KE.next ?_)
   obtain ⟨W3, hW3d⟩ : ∃ W3 : WoM, W3 = ⟨W2.sp, W2.a, W2.B, W2.k, W1.v, W1.va, W1.vr, W1.R, W1.vc, true, 0, vd', N ++ W1.D⟩ := ⟨_, rfl⟩
   have hg2 : W2.B.p.g = g := hsm2.g.trans hg1
   have hL := hsm2.L
   unfold woL at hL
   simp only [List.cons.injEq, Value.pointer.injEq, Option.some.injEq, Addr.mk.injEq, and_true] at hL
   obtain ⟨l1, l2, l3, l4, l5, _⟩ := hL
   have hp3 : WpR W3 (startS s1) := by rw [hW3d]; exact ⟨hp2.ok, hp2.sp, hp2.ar, hp2.bo, hp2.mK, hp2.e1, hp2.e2, hp2.e3, hp2.A, hp2.R, hp2.t, hp2.C, hp2.act, hp2.sact, hp2.sat, hp2.sD, hp2.n⟩
   have hWo : WoR w0 W3 (startS s1) := by
    refine wor_mk hp3 ?_ ?_ ?_ ?_ ?_ ?_
    ·rw [hW3d]; dsimp only; rw [hg2, ← hg1]; exact hW1.dA.part byPart
    ·rw [hW3d]; exact hW1.dM.part byPart
    ·rw [hW3d]; exact hW1.dR
    ·rw [hW3d]; exact hW1.dC.part byPart
    ·rw [hW3d]; exact hW1.oC
    ·rw [hW3d]; exact hod
   obtain ⟨i1, i2⟩ := hok1.idle ha1
   have hWk : WoK w0 W3 (startS s1) := by
    rw [hW3d]
    refine ⟨rfl, fun _ => ⟨i1.symm, ?_⟩, fun h => (by cases h)⟩
    show Sli w0 (N ++ W1.D) boE vd' s1.D
    rw [i2, ← hCl]; exact hvd.part byPart
   have hg3 : W3.B.p.g = g := by rw [hW3d]; exact hg2
   have hL3 : woL W3 = [.pointer (some ⟨W1.B.m.b, 0, none⟩), .pointer (some ⟨W1.a.b, 0, none⟩), .pointer (some ⟨W1.B.b, 0, none⟩), .pointer (some ⟨W1.k.b, 0, none⟩), .pointer (some ⟨W1.sp.b, 0, none⟩), W1.v.L, W1.v.F, W1.v.M, .int .i64 (W1.B.p.g.words : Nat), W1.v.C, W1.va, W1.vr, .int .i64 ((0 : Nat) : Int), W1.v.L, W1.v.F, W1.v.M, .int .i64 (W1.B.p.g.words : Nat), W1.v.C, W1.vc, .bool true, .int .i64 ((0 : Nat) : Int), vd'] := by
    rw [hW3d]; unfold woL; dsimp only; rw [l1, l2, l3, l4, l5, hg2, hg1]
   refine byCode ?_
   refine KL.v rfl (Val.assign rfl) ?_
   refine KL.nil ?_
   refine KE.part (woH W3 ++ ((b7, cells (woL W3) 47) :: F)) (by rw [hL3, hW3d]; simp only [woH_app, hsm2.D, List.append_assoc]; exact byPart) ?_
   refine KE.next ?_
   clear hvC hvC2 hstart hst2 hp2 hsm2
   refine K.cutE (σ := LvA) [(7, _)] bySub (fun s kp_ => kp_) (fun s => woH s.W ++ ((b7, cells (woL s.W) 47) :: F)) (fun s => WoR w0 s.W s.s ∧ WoK w0 s.W s.s ∧ s.W.B.p.g = g ∧ s.s.act = true) ?_ ?_
   ·refine K.block ?_
    refine K.loopT (σ := LvA) [(2, _), (7, _)] (fun s kp_ => (10, .int .i64 (s.i : Nat)) :: kp_) (fun s => woH s.W ++ ((b7, cells (woL s.W) 47) :: F)) (fun s => s.i ≤ m.length ∧ WoR w0 s.W s.s ∧ WoK w0 s.W s.s ∧ s.W.B.p.g = g ∧ s.s.act = true) (fun s => m.length - s.i) (⟨0, W3, (startS s1)⟩) bySub byPart (⟨Nat.zero_le _, hWo, hWk, hg3, rfl⟩) ?_
    rintro ⟨i, W1, s1⟩ ⟨hi, hW1, hK1, hg1, ha1⟩
    dsimp only at hi hW1 hK1 hg1 ha1 ⊢
    obtain ⟨q1, q2, q3, q4, q5, q6, q7, q8⟩ := hW1.o
    by_cases hlt : i < m.length ∧ i < 40
    ·obtain ⟨h1, h2⟩ := hlt
     have h2' : ((i : Nat) : Int) < 40 := by omega
     obtain ⟨x, hx⟩ := get_of_lt h1
     have hxw := hmw x (List.mem_of_getElem? hx)
     have hdoes := fun A => does_K (w0 := w0) (F := A) (what := x.w) (n := x.n) hG hW1 hK1 hxw
     unfold woL
     refine K.seq (K.seq (K.region ?_))
     refine KL.v rfl (Val.move rfl) ?_
     refine KL.v rfl (Val.move rfl) ?_
     refine KL.v rfl (Val.lenSl rfl rfl bySli) ?_
     refine KL.v rfl (Val.isT (Val.lss rfl rfl) byLt) ?_
     refine KL.v rfl (Val.move rfl) ?_
     refine KL.yes rfl rfl ?_; refine KL.v rfl (Val.move rfl) ?_
     refine KL.yes rfl rfl ?_; refine KL.v rfl (Val.isT (Val.lss rfl rfl) byLt) ?_
     refine KL.v rfl (Val.pickT rfl rfl rfl) ?_
     refine KL.nil (KE.next (K.condT rfl (K.skip (KE.next (K.seq (K.block ?_))))))
     refine byCodeD ?_
     (first | refine K.seq (K.drawn ([]) [(0, 0), (1, 0), (2, 0), (3, 0), (4, 0), (5, 2), (6, 0), (7, 0), (8, 1), (9, 2), (10, 0)] (by kernel_rfl) (by kernel_rfl) (by kernel_rfl) (by kernel_rfl) (by kernel_rfl) (by kernel_rfl) byPart ?_) | refine K.seq (K.seq (K.drawn ([]) [(0, 0), (1, 0), (2, 0), (3, 0), (4, 0), (5, 2), (6, 0), (7, 0), (8, 1), (9, 2), (10, 0)] (by kernel_rfl) (by kernel_rfl) (by kernel_rfl) (by kernel_rfl) (by kernel_rfl) (by kernel_rfl) byPart ?_)) | refine K.drawn ([]) [(0, 0), (1, 0), (2, 0), (3, 0), (4, 0), (5, 2), (6, 0), (7, 0), (8, 1), (9, 2), (10, 0)] (by kernel_rfl) (by kernel_rfl) (by kernel_rfl) (by kernel_rfl) (by kernel_rfl) (by kernel_rfl) byPart ?_)
     (first | refine KD.v0 rfl rfl (Val.loadAP rfl rfl rfl bySeeA) ?_ | refine KD.v0 rfl rfl (Val.loadA rfl rfl rfl bySeeN) ?_)
     refine KD.v0 rfl rfl (Val.move rfl) ?_
     refine KD.v0 rfl rfl (Val.move rfl) ?_
     (first | refine KD.v0 rfl rfl (Val.idxSl rfl rfl rfl bySli rfl byLt) ?_ | refine KD.v0 rfl rfl (Val.idxSlZ rfl rfl rfl bySli rfl (by omega)) ?_ | refine KD.v0 rfl rfl (Val.indexS1 rfl rfl rfl rfl (by omega)) ?_ | refine KD.v0 rfl rfl (Val.indexS rfl rfl rfl rfl (by omega)) ?_ | refine KD.v0 rfl rfl (Val.indexSO rfl rfl rfl rfl (by omega)) ?_ | refine KD.v0 rfl rfl (Val.indexSG rfl rfl rfl rfl (by omega)) ?_)
     (first | refine KD.v0 rfl rfl (Val.loadAP rfl rfl rfl bySeeA) ?_ | refine KD.v0 rfl rfl (Val.loadA rfl rfl rfl bySeeN) ?_)
     refine KD.callc rfl rfl rfl byEvL fun T hT => ?_
     refine (CallV.part (CallV.fn (hdoes _)) byPart).mono ?_
     rintro _ _ ⟨W2, hW2, hK2, hg2, rfl, rfl⟩
     obtain ⟨r1, r2, r3, r4, r5, r6, r7, r8⟩ := hW2.o
     unfold woL
     refine hT _ _ byPart ?_; clear hT T
     refine KD.v0 rfl rfl (Val.move rfl) ?_
     refine KD.v0 rfl rfl (Val.extract rfl rfl) ?_
     refine KD.v1 rfl rfl (Val.extract rfl rfl) ?_
     (first | (refine KD.eN rfl (Eff.storeAL rfl rfl rfl byTake byLay byOnes) ?_; rintro _ _ rfl; refine ⟨byPart, ?_⟩) | (refine KD.eN rfl (Eff.stSlA rfl rfl rfl rfl byTakeL (by assumption) (by assumption)) ?_; rintro _ _ rfl; refine ⟨byPart, ?_⟩))
     refine KD.v0 rfl rfl (Val.assign rfl) ?_
     refine KD.nil ?_
     refine KE.next (K.seq (K.region ?_))
     refine KL.v rfl (Val.move rfl) ?_
     refine KL.v rfl (Val.notT rfl) ?_
     refine KL.v rfl (Val.move rfl) ?_
     refine KL.yes rfl rfl ?_; refine KL.v rfl (Val.loadA rfl rfl rfl bySeeN) ?_
     refine KL.yes rfl rfl ?_; refine KL.callc rfl rfl byEvL fun T hT => ?_
     refine (CallV.part (CallV.fn (same_K hG hW2 hK2)) byPart).mono ?_
     rintro _ _ ⟨rfl, rfl⟩
     refine hT _ _ ?_; clear hT T
     refine KL.yes rfl rfl ?_; refine KL.v rfl (Val.notT rfl) ?_
     refine KL.v rfl (Val.pickF rfl rfl rfl) ?_
     refine KL.nil (KE.next (K.condF rfl (K.skip ?_)))
     refine KE.blkN ?_
     refine KE.next (K.region ?_)
     refine KL.v rfl (Val.move rfl) ?_
     refine KL.v rfl (Val.add rfl rfl (by simp only [Go.Proofs.YtalholahapcpkaaGreatDoor.lo, Go.Proofs.YtalholahapcpkaaGreatDoor.hi]; omega)) ?_
     refine KL.v rfl (Val.assign rfl) ?_
     refine KL.nil ?_
     exact KE.again ⟨i + 1, W2, _⟩ bySub byPart ⟨h1, hW2, hK2, hg2.trans hg1, actS_act.trans ha1⟩ (by show m.length - (i + 1) < m.length - i; omega)
    ·by_cases h1 : i < m.length
     ·have h2 : ¬ ((i : Nat) : Int) < 40 := by omega
      clear hlt
      unfold woL
      refine K.seq (K.seq (K.region ?_))
      refine KL.v rfl (Val.move rfl) ?_
      refine KL.v rfl (Val.move rfl) ?_
      refine KL.v rfl (Val.lenSl rfl rfl bySli) ?_
      refine KL.v rfl (Val.isT (Val.lss rfl rfl) byLt) ?_
      refine KL.v rfl (Val.move rfl) ?_
      refine KL.yes rfl rfl ?_; refine KL.v rfl (Val.move rfl) ?_
      refine KL.yes rfl rfl ?_; refine KL.v rfl (Val.isF (Val.lss rfl rfl) byLt) ?_
      refine KL.v rfl (Val.pickT rfl rfl rfl) ?_
      refine KL.nil (KE.next (K.condF rfl ?_))
      refine K.exit ?_
      refine KE.passX ?_
      refine KE.passX ?_
      refine KE.blkX ?_
      exact KE.meet ⟨0, W1, s1⟩ bySub byPart ⟨hW1, hK1, hg1, ha1⟩
     ·clear hlt
      unfold woL
      refine K.seq (K.seq (K.region ?_))
      refine KL.v rfl (Val.move rfl) ?_
      refine KL.v rfl (Val.move rfl) ?_
      refine KL.v rfl (Val.lenSl rfl rfl bySli) ?_
      refine KL.v rfl (Val.isF (Val.lss rfl rfl) byLt) ?_
      refine KL.v rfl (Val.move rfl) ?_
      refine KL.skipG rfl rfl rfl ?_
      refine KL.skipG rfl rfl rfl ?_
      refine KL.v rfl (Val.pickF rfl rfl rfl) ?_
      refine KL.nil (KE.next (K.condF rfl ?_))
      refine K.exit ?_
      refine KE.passX ?_
      refine KE.passX ?_
      refine KE.blkX ?_
      exact KE.meet ⟨0, W1, s1⟩ bySub byPart ⟨hW1, hK1, hg1, ha1⟩
   ·rintro ⟨_, W5, s5⟩ ⟨hW5, hK5, hg5, ha5⟩
    dsimp only at hW5 hK5 hg5 ha5 ⊢
    clear q1 q2 q3 q4 q5 q6 q7 q8
    obtain ⟨q1, q2, q3, q4, q5, q6, q7, q8⟩ := hW5.o
    unfold woL
    refine K.seq (K.seq (K.region ?_))
    refine KL.v rfl (Val.assign rfl) ?_
    refine KL.nil (KE.next (K.block ?_))
    refine K.loopT (σ := LvC) [(7, _)] (fun s kp_ => (11, .int .i64 (s.n : Nat)) :: kp_) (fun s => woH s.W ++ ((b7, cells (woL s.W) 47) :: F)) (fun s => WoR w0 s.W s.t ∧ WoK w0 s.W s.t ∧ s.W.B.p.g = g ∧ s.t.act = true ∧ s.n ≤ s.t.at_) (fun s => g.slots - s.t.at_) (⟨0, W5, s5⟩) bySub byPart (⟨hW5, hK5, hg5, ha5, Nat.zero_le _⟩) ?_
    rintro ⟨n, W6, t⟩ ⟨hW6, hK6, hg6, ha6, hn6⟩
    dsimp only at hW6 hK6 hg6 ha6 hn6 ⊢
    clear q1 q2 q3 q4 q5 q6 q7 q8
    obtain ⟨q1, q2, q3, q4, q5, q6, q7, q8⟩ := hW6.o
    have hok6 : SwOk g t := by have := hW6.ok; rw [hg6] at this; exact this
    have hat6 := hok6.at_
    have hCl6 := hok6.C
    have hvC6 : Sli w0 (woH W6) bE W6.vc t.C := hW6.dC.part (by unfold woH; exact byPart)
    have hnl : ((n : Nat) : Int) < (t.C.length : Nat) + 1 := by omega
    have hdone := fun A => wDone_K (w0 := w0) (F := A) hW6.p
    simp only [ha6, hg6] at hdone
    unfold woL
    by_cases hd : t.at_ < g.slots
    ·have hne : decide (t.at_ = g.slots) = false := decide_eq_false (by omega)
     simp only [hne, Bool.and_false] at hdone
     have hdoes := fun A => does_K (w0 := w0) (F := A) (what := 4) (n := 0) hG hW6 hK6 (by decide)
     have heq : actS g t 4 0 = (stepS g t).1 := by unfold actS; rfl
     rw [hg6, heq] at hdoes
     obtain ⟨hs1, hs2⟩ := step_at hplok ha6 hd
     refine K.seq (K.seq (K.region ?_))
     refine KL.v rfl (Val.move rfl) ?_
     refine KL.v rfl (Val.fieldAddr0 (k := 18) rfl rfl) ?_
     refine KL.v rfl (Val.loadP rfl rfl (Sees.cell byTake rfl)) ?_
     refine KL.v rfl (Val.lenSl rfl rfl bySli) ?_
     refine KL.v rfl (Val.add rfl rfl (by simp only [Go.Proofs.YtalholahapcpkaaGreatDoor.lo, Go.Proofs.YtalholahapcpkaaGreatDoor.hi]; omega)) ?_
     refine KL.v rfl (Val.isT (Val.lss rfl rfl) byLt) ?_
     refine KL.v rfl (Val.move rfl) ?_
     refine KL.yes rfl rfl ?_; refine KL.v rfl (Val.fieldAddr0 (k := 4) rfl rfl) ?_
     refine KL.yes rfl rfl ?_; refine KL.v rfl (Val.loadP rfl rfl (Sees.cell byTake rfl)) ?_
     refine KL.yes rfl rfl ?_; refine KL.callc rfl rfl byEvL fun T hT => ?_
     refine (CallV.part (CallV.fn (hdone _)) byPart).mono ?_
     rintro _ _ ⟨rfl, rfl⟩
     refine hT _ _ ?_; clear hT T
     refine KL.yes rfl rfl ?_; refine KL.v rfl (Val.notF rfl) ?_
     refine KL.v rfl (Val.pickT rfl rfl rfl) ?_
     refine KL.nil (KE.next (K.condT rfl (K.skip (KE.next (K.seq (K.block (K.seq (K.region ?_))))))))
     refine KL.v rfl (Val.loadA rfl rfl rfl bySeeN) ?_
     refine KL.v rfl (Val.build byParts rfl rfl byFill) ?_
     refine KL.callc rfl rfl byEvL fun T hT => ?_
     refine (CallV.part (CallV.fn (hdoes _)) byPart).mono ?_
     rintro _ _ ⟨W7, hW7, hK7, hg7, rfl, rfl⟩
     obtain ⟨r1, r2, r3, r4, r5, r6, r7, r8⟩ := hW7.o
     unfold woL
     refine hT _ _ ?_; clear hT T
     refine KL.v rfl (Val.move rfl) ?_
     refine KL.v rfl (Val.extract rfl rfl) ?_
     refine KL.v rfl (Val.extract rfl rfl) ?_
     refine KL.eN (Eff.storeAL rfl rfl rfl byTake byLay byOnes) ?_; rintro _ _ rfl
     refine KL.v rfl (Val.assign rfl) ?_
     refine KL.nil (KE.next (K.seq (K.region ?_)))
     refine KL.v rfl (Val.move rfl) ?_
     refine KL.v rfl (Val.notT rfl) ?_
     refine KL.v rfl (Val.move rfl) ?_
     refine KL.yes rfl rfl ?_; refine KL.v rfl (Val.loadA rfl rfl rfl bySeeN) ?_
     refine KL.yes rfl rfl ?_; refine KL.callc rfl rfl byEvL fun T hT => ?_
     refine (CallV.part (CallV.fn (same_K hG hW7 hK7)) byPart).mono ?_
     rintro _ _ ⟨rfl, rfl⟩
     refine hT _ _ ?_; clear hT T
     refine KL.yes rfl rfl ?_; refine KL.v rfl (Val.notT rfl) ?_
     refine KL.v rfl (Val.pickF rfl rfl rfl) ?_
     refine KL.nil (KE.next (K.condF rfl (K.skip ?_)))
     refine KE.blkN ?_
     refine KE.next (K.region ?_)
     refine KL.v rfl (Val.move rfl) ?_
     refine KL.v rfl (Val.add rfl rfl (by simp only [Go.Proofs.YtalholahapcpkaaGreatDoor.lo, Go.Proofs.YtalholahapcpkaaGreatDoor.hi]; omega)) ?_
     refine KL.v rfl (Val.assign rfl) ?_
     refine KL.nil ?_
     exact KE.again ⟨n + 1, W7, _⟩ bySub byPart ⟨hW7, hK7, hg7.trans hg6, step_act.trans ha6, by show n + 1 ≤ (stepS g t).1.at_; rw [hs2]; omega⟩ (by show g.slots - (stepS g t).1.at_ < g.slots - t.at_; rw [hs2]; omega)
    ·have hat : t.at_ = g.slots := by omega
     have hne : decide (t.at_ = g.slots) = true := decide_eq_true hat
     simp only [hne, Bool.and_self] at hdone
     obtain ⟨hk1, hk2⟩ := hK6.on ha6
     have hrst : ∀ A, Call Tryz.prog w0 29 [.agg (ksL W6.ka W6.kat W6.vd).toArray, .agg (arL W6.v W6.B.p.g W6.va).toArray] (woH W6 ++ A) (fun r H' => ∃ (va' : Value) (N : Heap), ArD w0 (N ++ W6.D) W6.v va' W6.B.p.g (giveAllP t.A t.D).2 ∧ r = .tuple [.agg (ksL false 0 (.slice none 0 0)).toArray, .agg (arL W6.v W6.B.p.g va').toArray, .int .i64 (t.D.count true : Nat)].toArray ∧ H' = N ++ (woH W6 ++ A)) := fun A =>
      Call.post (Call.part (rsStop_K (w0 := w0) (F := sweepH W6.sp ++ (arenaH W6.a W6.B.p ++ (bodyH W6.B ++ (memH W6.B.m ++ (planH W6.B.p ++ (markH W6.k W6.B.p ++ A)))))) (ka := W6.ka) (kat := W6.kat) hW6.dA hk2 hW6.oD (by rw [hok6.D, hok6.A]) (by rw [hok6.A]; omega)) (by rw [woH_app]; exact byPart)) (by
       rintro _ _ ⟨va', N, h, rfl, rfl⟩
       exact ⟨_, ⟨va', N, h, rfl, rfl⟩, by rw [woH_app]; exact byPart⟩)
     unfold ksL arL at hrst
     have hstop := fun A => wStop_K (w0 := w0) (F := A) hG hW6.p ha6 (by rw [hat, hg6])
     rw [hg6] at hstop
     refine K.seq (K.seq (K.region ?_))
     refine KL.v rfl (Val.move rfl) ?_
     refine KL.v rfl (Val.fieldAddr0 (k := 18) rfl rfl) ?_
     refine KL.v rfl (Val.loadP rfl rfl (Sees.cell byTake rfl)) ?_
     refine KL.v rfl (Val.lenSl rfl rfl bySli) ?_
     refine KL.v rfl (Val.add rfl rfl (by simp only [Go.Proofs.YtalholahapcpkaaGreatDoor.lo, Go.Proofs.YtalholahapcpkaaGreatDoor.hi]; omega)) ?_
     refine KL.v rfl (Val.isT (Val.lss rfl rfl) byLt) ?_
     refine KL.v rfl (Val.move rfl) ?_
     refine KL.yes rfl rfl ?_; refine KL.v rfl (Val.fieldAddr0 (k := 4) rfl rfl) ?_
     refine KL.yes rfl rfl ?_; refine KL.v rfl (Val.loadP rfl rfl (Sees.cell byTake rfl)) ?_
     refine KL.yes rfl rfl ?_; refine KL.callc rfl rfl byEvL fun T hT => ?_
     refine (CallV.part (CallV.fn (hdone _)) byPart).mono ?_
     rintro _ _ ⟨rfl, rfl⟩
     refine hT _ _ ?_; clear hT T
     refine KL.yes rfl rfl ?_; refine KL.v rfl (Val.notT rfl) ?_
     refine KL.v rfl (Val.pickT rfl rfl rfl) ?_
     refine KL.nil (KE.next (K.condF rfl ?_))
     refine K.exit ?_
     refine KE.passX ?_
     refine KE.passX ?_
     refine KE.blkX ?_
     refine KE.next (K.seq (K.region ?_))
     refine KL.v rfl (Val.fieldAddr0 (k := 19) rfl rfl) ?_
     refine KL.v rfl (Val.loadA rfl rfl rfl bySeeN) ?_
     refine KL.v rfl (Val.fieldAddr0 (k := 5) rfl rfl) ?_
     refine KL.v rfl (Val.loadA rfl rfl rfl bySeeN) ?_
     refine KL.callc rfl rfl byEvL fun T hT => ?_
     refine (CallV.part (CallV.fn (hrst _)) byPart).mono ?_
     rintro _ _ ⟨va', Np, hA', rfl, rfl⟩
     have q9 := hA'.o
     refine hT _ _ ?_; clear hT T
     refine KL.v rfl (Val.move rfl) ?_
     refine KL.v rfl (Val.extract rfl rfl) ?_
     refine KL.v rfl (Val.extract rfl rfl) ?_
     refine KL.v rfl (Val.extract rfl rfl) ?_
     refine KL.e rfl (Eff.alloc rfl) ?_; rintro _ _ ⟨b12, rfl, rfl⟩
     refine KL.e rfl (Eff.alloc rfl) ?_; rintro _ _ ⟨b13, rfl, rfl⟩
     refine KL.eN (Eff.storeAL rfl rfl rfl byTake byLay byOnes) ?_; rintro _ _ rfl
     refine KL.eN (Eff.storeAL rfl rfl rfl byTake byLay byOnes) ?_; rintro _ _ rfl
     refine KL.v rfl (Val.assign rfl) ?_
     refine KL.nil (KE.next (K.seq (K.region ?_)))
     refine KL.v rfl (Val.fieldAddr0 (k := 4) rfl rfl) ?_
     refine KL.v rfl (Val.loadP rfl rfl (Sees.cell byTake rfl)) ?_
     refine KL.callc rfl rfl byEvL fun T hT => ?_
     refine (CallV.part (CallV.fn (hstop _)) byPart).mono ?_
     rintro _ _ ⟨rfl, W8, hp8, hsm8, _, _, _, _, _, rfl⟩
     refine hT _ _ ?_; clear hT T
     refine KL.v rfl (Val.move rfl) ?_
     refine KL.v rfl (Val.extract rfl rfl) ?_
     refine KL.v rfl (Val.extract rfl rfl) ?_
     refine KL.v rfl (Val.assign rfl) ?_
     refine KL.v rfl (Val.assign rfl) ?_
     refine KL.nil (KE.next (K.seq (K.region ?_)))
     refine KL.v rfl (Val.loadA rfl rfl rfl bySeeN) ?_
     refine KL.v rfl (Val.fieldAddr0 (k := 19) rfl rfl) ?_
     refine KL.eN (Eff.storeAL rfl rfl rfl byTake byLay byOnes) ?_; rintro _ _ rfl
     refine KL.nil (KE.next (K.seq (K.seq (K.region ?_))))
     refine KL.v rfl (Val.assign rfl) ?_
     refine KL.nil (KE.next (K.block ?_))
     have hg8 : W8.B.p.g = g := hsm8.g.trans hg6
     have hSA : Sli w0 (Np ++ woH W8) boE va' (giveAllP t.A t.D).2 := hA'.a.part (by rw [← hsm8.D]; unfold woH; exact byPart)
     have hAl : (giveAllP t.A t.D).2.length = g.slots := by rw [giveAll_len]; exact hok6.A
     obtain ⟨A', hA'd⟩ : ∃ A', A' = (giveAllP t.A t.D).2 := ⟨_, rfl⟩
     rw [← hA'd] at hSA hAl
     have hL9 : woL ⟨W8.sp, W8.a, W8.B, W8.k, W6.v, W6.va, W6.vr, W6.R, W6.vc, false, 0, .slice none 0 0, W8.D⟩ = [.pointer (some ⟨W6.B.m.b, 0, none⟩), .pointer (some ⟨W6.a.b, 0, none⟩), .pointer (some ⟨W6.B.b, 0, none⟩), .pointer (some ⟨W6.k.b, 0, none⟩), .pointer (some ⟨W6.sp.b, 0, none⟩), W6.v.L, W6.v.F, W6.v.M, .int .i64 (W6.B.p.g.words : Nat), W6.v.C, W6.va, W6.vr, .int .i64 ((0 : Nat) : Int), W6.v.L, W6.v.F, W6.v.M, .int .i64 (W6.B.p.g.words : Nat), W6.v.C, W6.vc, .bool false, .int .i64 ((0 : Nat) : Int), .slice none 0 0] := by
      have h := hsm8.L
      unfold woL at h ⊢
      simp only [List.cons.injEq, Value.pointer.injEq, Option.some.injEq, Addr.mk.injEq, and_true] at h
      obtain ⟨l1, l2, l3, l4, l5, _⟩ := h
      dsimp only
      rw [l1, l2, l3, l4, l5, hg8, hg6]
     have hp9 : WpR ⟨W8.sp, W8.a, W8.B, W8.k, W6.v, W6.va, W6.vr, W6.R, W6.vc, false, 0, .slice none 0 0, W8.D⟩ (stopS g t) := ⟨hp8.ok, hp8.sp, hp8.ar, hp8.bo, hp8.mK, hp8.e1, hp8.e2, hp8.e3, hp8.A, hp8.R, hp8.t, hp8.C, hp8.act, hp8.sact, hp8.sat, hp8.sD, hp8.n⟩
     have hsame : ∀ A, Call Tryz.prog w0 28 [.agg ([.pointer (some ⟨W6.B.m.b, 0, none⟩), .pointer (some ⟨W6.a.b, 0, none⟩), .pointer (some ⟨W6.B.b, 0, none⟩), .pointer (some ⟨W6.k.b, 0, none⟩), .pointer (some ⟨W6.sp.b, 0, none⟩), W6.v.L, W6.v.F, W6.v.M, .int .i64 (W6.B.p.g.words : Nat), W6.v.C, W6.va, W6.vr, .int .i64 ((0 : Nat) : Int), W6.v.L, W6.v.F, W6.v.M, .int .i64 (W6.B.p.g.words : Nat), W6.v.C, W6.vc, .bool false, .int .i64 ((0 : Nat) : Int), .slice none 0 0] : List Value).toArray] (woH W8 ++ A) (fun r H' => r = .bool true ∧ H' = woH W8 ++ A) := fun A => by
      have h := same_of (w0 := w0) (F := A) (Ds := []) hG hp9 ⟨q1, q2, q3, q4, q5, q6, q7, rfl⟩ ⟨Sli.own (o := none) (e := 4) (H := W8.D) (F := W8.D) byTakeL rfl rfl, by show idxP [] = idxP (List.replicate g.slots false); rw [idx_false]; rfl, by simp, fun h => (by cases h), rfl⟩ rfl
      rw [hL9] at h
      exact h
     have hall := fun A => wAll_K (w0 := w0) (F := A) hp8
     simp only [hsm8.m] at hall
     have hRt : (stopS g t).R = t.R := rfl
     simp only [hRt] at hall
     have hbnd := mem_bnd hW6.p
     have hral : ∀ A, Call Tryz.prog w0 31 [.agg [W6.vr].toArray] (woH W8 ++ A) (fun r H' => ∃ o, oOk uE t.R.flatten o ∧ r = oV o t.R.flatten.length ∧ H' = oH uE 64 t.R.flatten o ++ (woH W8 ++ A)) := fun A => by
      have h := rAll_K (w0 := w0) (D := W6.D) (F := sweepH W8.sp ++ (arenaH W8.a W8.B.p ++ (bodyH W8.B ++ (memH W8.B.m ++ (planH W8.B.p ++ (markH W8.k W8.B.p ++ A)))))) hW6.dM (by have := hW6.bof; exact this.n) (by rw [hW6.dR]; exact hbnd)
      rw [hW6.dR] at h
      refine Call.post (Call.part h (by rw [woH_app, hsm8.D]; exact byPart)) ?_
      rintro _ _ ⟨o, ko, rfl, rfl⟩
      exact ⟨_, ⟨o, ko, rfl, rfl⟩, by rw [woH_app, hsm8.D]; exact byPart⟩
     refine K.loopT (σ := LvD) [(7, _), (13, _), (14, _), (15, _), (16, _)] (fun s kp_ => (17, .int .i64 (s.i : Nat)) :: kp_) (fun s => woH W8 ++ (Np ++ ((b7, cells [.pointer (some ⟨W6.B.m.b, 0, none⟩), .pointer (some ⟨W6.a.b, 0, none⟩), .pointer (some ⟨W6.B.b, 0, none⟩), .pointer (some ⟨W6.k.b, 0, none⟩), .pointer (some ⟨W6.sp.b, 0, none⟩), W6.v.L, W6.v.F, W6.v.M, .int .i64 (W6.B.p.g.words : Nat), W6.v.C, W6.va, W6.vr, .int .i64 ((0 : Nat) : Int), W6.v.L, W6.v.F, W6.v.M, .int .i64 (W6.B.p.g.words : Nat), W6.v.C, W6.vc, .bool false, .int .i64 ((0 : Nat) : Int), .slice none 0 0] 47) :: (b13, cells [W6.v.L, W6.v.F, W6.v.M, .int .i64 (W6.B.p.g.words : Nat), W6.v.C, va'] 37) :: F))) (fun s => s.i ≤ A'.length) (fun s => A'.length - s.i) (⟨0⟩) bySub byPart (Nat.zero_le _) ?_
     rintro ⟨j⟩ hj
     dsimp only at hj ⊢
     by_cases hjs : j < A'.length
     ·obtain ⟨b, hb⟩ := get_of_lt hjs
      have hhas := fun A => wHas_K (w0 := w0) (F := A) (i := (j : Nat)) hp8
      have hget : getB (stopS g t).A (j : Nat) = b := by
       rw [getB_in]
       show ((giveAllP t.A t.D).2[j]?).getD false = b
       rw [← hA'd, hb]; rfl
      simp only [hsm8.a, hget] at hhas
      refine K.seq (K.seq (K.region ?_))
      refine KL.v rfl (Val.move rfl) ?_
      refine KL.v rfl (Val.fieldAddr0 (k := 5) rfl rfl) ?_
      refine KL.v rfl (Val.loadP rfl rfl (Sees.cell byTake rfl)) ?_
      refine KL.v rfl (Val.lenSl rfl rfl bySli) ?_
      refine KL.v rfl (Val.isT (Val.lss rfl rfl) byLt) ?_
      refine KL.nil (KE.next (K.condT rfl (K.skip (KE.next (K.seq (K.block ?_))))))
      refine byCodeD ?_
      (first | refine K.seq (K.drawn _ [(0, 0), (1, 0), (2, 0), (4, 1), (5, 1), (6, 1), (7, 1), (8, 1), (3, 2), (9, 0)] (by kernel_rfl) (by kernel_rfl) (by kernel_rfl) (by kernel_rfl) (by kernel_rfl) (by kernel_rfl) Part.all ?_) | refine K.seq (K.seq (K.drawn _ [(0, 0), (1, 0), (2, 0), (4, 1), (5, 1), (6, 1), (7, 1), (8, 1), (3, 2), (9, 0)] (by kernel_rfl) (by kernel_rfl) (by kernel_rfl) (by kernel_rfl) (by kernel_rfl) (by kernel_rfl) Part.all ?_)) | refine K.drawn _ [(0, 0), (1, 0), (2, 0), (4, 1), (5, 1), (6, 1), (7, 1), (8, 1), (3, 2), (9, 0)] (by kernel_rfl) (by kernel_rfl) (by kernel_rfl) (by kernel_rfl) (by kernel_rfl) (by kernel_rfl) Part.all ?_)
      (first | refine KD.v0 rfl rfl (Val.fieldSl (k := 1) rfl rfl) ?_ | refine KD.v0 rfl rfl (Val.fieldAddr0 (k := 1) rfl rfl) ?_ | refine KD.v0 rfl rfl (Val.fieldAddrZ rfl rfl) ?_ | refine KD.v0 rfl rfl (Val.fieldAddr (k := 1) rfl rfl) ?_)
      (first | refine KD.v0 rfl rfl (Val.loadP rfl rfl bySee) ?_ | refine KD.v0 rfl rfl (Val.loadP rfl rfl (Sees.more (by assumption) byPart)) ?_)
      refine KD.v0 rfl rfl (Val.move rfl) ?_
      (first | refine KD.v1 rfl rfl (Val.fieldSl (k := 5) rfl rfl) ?_ | refine KD.v1 rfl rfl (Val.fieldAddr0 (k := 5) rfl rfl) ?_ | refine KD.v1 rfl rfl (Val.fieldAddrZ rfl rfl) ?_ | refine KD.v1 rfl rfl (Val.fieldAddr (k := 5) rfl rfl) ?_)
      (first | refine KD.v1 rfl rfl (Val.loadP rfl rfl bySee) ?_ | refine KD.v1 rfl rfl (Val.loadP rfl rfl (Sees.more (by assumption) byPart)) ?_)
      refine KD.v1 rfl rfl (Val.move rfl) ?_
      (first | refine KD.v1 rfl rfl (Val.idxSl rfl rfl rfl bySli rfl byLt) ?_ | refine KD.v1 rfl rfl (Val.idxSlZ rfl rfl rfl bySli rfl (by omega)) ?_ | refine KD.v1 rfl rfl (Val.indexS1 rfl rfl rfl rfl (by omega)) ?_ | refine KD.v1 rfl rfl (Val.indexS rfl rfl rfl rfl (by omega)) ?_ | refine KD.v1 rfl rfl (Val.indexSO rfl rfl rfl rfl (by omega)) ?_ | refine KD.v1 rfl rfl (Val.indexSG rfl rfl rfl rfl (by omega)) ?_)
      (first | refine KD.v1 rfl rfl (Val.loadP rfl rfl bySee) ?_ | refine KD.v1 rfl rfl (Val.loadP rfl rfl (Sees.more (by assumption) byPart)) ?_)
      refine KD.callc rfl rfl rfl byEvL fun T hT => ?_
      refine (CallV.part (CallV.fn (hhas _)) byPart).mono ?_
      rintro _ _ ⟨rfl, rfl⟩
      have hbn : (b != b) = false := by cases b <;> rfl
      refine hT _ _ byPart ?_; clear hT T
      refine KD.v0 rfl rfl (Val.neqB rfl rfl rfl) ?_
      refine KD.nil ?_
      refine KE.next ?_
      rw [hbn]
      refine K.condF rfl (K.skip ?_)
      refine KE.blkN ?_
      refine KE.next (K.region ?_)
      refine KL.v rfl (Val.move rfl) ?_
      refine KL.v rfl (Val.add rfl rfl (by simp only [Go.Proofs.YtalholahapcpkaaGreatDoor.lo, Go.Proofs.YtalholahapcpkaaGreatDoor.hi]; omega)) ?_
      refine KL.v rfl (Val.assign rfl) ?_
      refine KL.nil ?_
      exact KE.again ⟨j + 1⟩ bySub byPart hjs (by show A'.length - (j + 1) < A'.length - j; omega)
     ·refine K.seq ?_
      refine K.seq (K.region ?_)
      refine KL.v rfl (Val.move rfl) ?_
      refine KL.v rfl (Val.fieldAddr0 (k := 5) rfl rfl) ?_
      refine KL.v rfl (Val.loadP rfl rfl (Sees.cell byTake rfl)) ?_
      refine KL.v rfl (Val.lenSl rfl rfl bySli) ?_
      refine KL.v rfl (Val.isF (Val.lss rfl rfl) byLt) ?_
      refine KL.nil (KE.next (K.condF rfl ?_))
      refine K.exit ?_
      refine KE.passX ?_
      refine KE.passX ?_
      refine KE.blkX ?_
      refine KE.next (K.seq ?_)
      refine K.drawn _ [(0, 0), (1, 0), (2, 0), (3, 0), (4, 0), (5, 0), (6, 0), (7, 0), (8, 0), (9, 2), (10, 0), (11, 0), (12, 0), (13, 0), (15, 1), (16, 1), (17, 1), (14, 2), (18, 2), (19, 2), (20, 0), (21, 0), (22, 2), (23, 0), (24, 0)] (by kernel_rfl) (by kernel_rfl) (by kernel_rfl) (by kernel_rfl) (by kernel_rfl) (by kernel_rfl) Part.all ?_
      refine KD.v0 rfl rfl (Val.move rfl) ?_
      refine KD.v0 rfl rfl (Val.move rfl) ?_
      refine KD.v0 rfl rfl (Val.isT (Val.eql rfl rfl) byLt) ?_
      refine KD.v0 rfl rfl (Val.move rfl) ?_
      refine KD.y0 rfl rfl rfl rfl (Val.move rfl) ?_
      refine KD.y0 rfl rfl rfl rfl (Val.isT (Val.eql rfl rfl) byLt) ?_
      refine KD.v0 rfl rfl (Val.pickT rfl rfl rfl) ?_
      refine KD.v0 rfl rfl (Val.move rfl) ?_
      refine KD.y0 rfl rfl rfl rfl (Val.loadA rfl rfl rfl bySeeN) ?_
      refine KD.callcY rfl rfl rfl rfl rfl byEvL fun T hT => ?_
      refine (CallV.part (CallV.fn (hsame _)) byPart).mono ?_
      rintro _ _ ⟨rfl, rfl⟩
      refine hT _ _ byPart ?_; clear hT T
      refine KD.v0 rfl rfl (Val.pickT rfl rfl rfl) ?_
      refine KD.v0 rfl rfl (Val.move rfl) ?_
      refine KD.y0 rfl rfl rfl rfl (Val.fieldAddr0 (k := 0) rfl rfl) ?_
      refine KD.y0 rfl rfl rfl rfl (Val.loadP rfl rfl (Sees.cell byTake rfl)) ?_
      refine KD.y1 rfl rfl rfl rfl (Val.fieldAddr0 (k := 11) rfl rfl) ?_
      refine KD.y1 rfl rfl rfl rfl (Val.fieldAddrZ rfl rfl) ?_
      refine KD.y1 rfl rfl rfl rfl (Val.loadA rfl rfl rfl bySeeN) ?_
      refine KD.callcY rfl rfl rfl rfl rfl byEvL fun T hT => ?_
      refine (CallV.part (CallV.fn (hall _)) byPart).mono ?_
      rintro _ _ ⟨o1, ko1, rfl, rfl⟩
      refine hT _ _ byPart ?_; clear hT T
      refine KD.callcY rfl rfl rfl rfl rfl byEvL fun T hT => ?_
      refine (CallV.part (CallV.fn (hral _)) byPart).mono ?_
      rintro _ _ ⟨o2, ko2, rfl, rfl⟩
      refine hT _ _ byPart ?_; clear hT T
      refine KD.callcY rfl rfl rfl rfl rfl byEvL fun T hT => ?_
      refine (CallV.fn (Same3_K (l := t.R.flatten) (m := t.R.flatten) (Sli.own byTakeL ko1 rfl) (Sli.own byTakeL ko2 rfl) (by omega))).mono ?_
      rintro _ _ ⟨rfl, rfl⟩
      rw [decide_eq_true rfl]
      refine hT _ _ byPart ?_; clear hT T
      refine KD.v0 rfl rfl (Val.pickT rfl rfl rfl) ?_
      refine KD.v0 rfl rfl (Val.move rfl) ?_
      refine KD.callcY rfl rfl rfl rfl rfl byEvL fun T hT => ?_
      refine (CallV.fn (hawake _)).mono ?_
      rintro _ _ ⟨rfl, rfl⟩
      refine hT _ _ byPart ?_; clear hT T
      refine KD.v0 rfl rfl (Val.pickT rfl rfl rfl) ?_
      refine KD.v0 rfl rfl (Val.assign rfl) ?_
      refine KD.nil ?_
      refine KE.next ?_
      refine K.ret ?_
      exact KE.fin byMarks rfl byRes byPart ⟨rfl, rfl⟩
end Go.Proofs.YtalholahapcpkaaGreatDoor.Sw
