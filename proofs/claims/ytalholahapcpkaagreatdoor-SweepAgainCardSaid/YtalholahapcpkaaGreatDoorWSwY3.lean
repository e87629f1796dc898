/- Sweep: a sweep right behind another one. -/
import Derived.Test.YtalholahapcpkaaGreatDoorJ29
namespace Go.Proofs.YtalholahapcpkaaGreatDoor.Sw
open Go.RowKit
set_option linter.unusedVariables false
set_option linter.unusedSimpArgs false
set_option maxRecDepth 10000

structure LwA where
  i : Nat
  W : WoM
  s : SwP
structure LwB where
  k : Nat
  W : WoM
  s : SwP
structure LwC where
  n : Nat
  W : WoM
  t : SwP
structure LwD where
  i : Nat
set_option maxHeartbeats 16000000 in
theorem sweepAgain_K {w0 : World} {F : Heap} {c : Cfg} {vc vt vl : Value} {l : List ActP} {times : Nat} (hG : Glob w0) (hR : CfgR w0 F c vc vt) (hC : Sli w0 [] iE vc c.cl) (hvc : vc.oneCell' = true) (hl : Sli w0 F actE vl l) (hlw : ∀ x ∈ l, x.w < 256) (htm : times < 256) :
    Call Tryz.prog w0 5 [cfgV c vc vt, vl, .int .u8 (times : Nat)] F (fun r H' => r = .bool true ∧ H' = F) := by
  obtain ⟨okk, hokk⟩ : ∃ okk, okC c = okk := ⟨_, rfl⟩
  have hawake := fun A => awake_K (w0 := w0) (F := A) hG
  cases okk with
  | false =>
    have hno := fun A (hp : Part A F) => made_no (hR.part hp) hokk
    obtain ⟨cl, page, tn, workers, grey, gens⟩ := c
    simp only [cfgV, cfgL] at hno ⊢
    unfold wo0 at hno
    refine Call.enter3 (n := 127) (by kernel_rfl) Tryz.func5 rfl rfl rfl ?_
    refine K.seq ?_
    refine K.region ?_
    (refine KL.e rfl (Eff.box rfl rfl) ?_; rintro _ _ ⟨b3, rfl, rfl⟩)
    (refine KL.v rfl (Val.assign rfl) ?_)
    refine KL.nil ?_
    refine KE.next ?_
    refine K.seq ?_
    refine K.region ?_
    (refine KL.v rfl (Val.loadA rfl rfl rfl bySeeN) ?_)
    (refine KL.callc rfl rfl byEvL fun T hT => ?_)
    refine (CallV.fn (hno _ byPart)).mono ?_
    rintro _ _ ⟨rfl, rfl⟩
    refine hT _ _ ?_; clear hT; clear T
    (refine KL.v rfl (Val.move rfl) ?_)
    (refine KL.v rfl (Val.extract rfl rfl) ?_)
    (refine KL.v rfl (Val.extract rfl rfl) ?_)
    (refine KL.e rfl (Eff.alloc rfl) ?_; rintro _ _ ⟨b7, rfl, rfl⟩)
    (refine KL.eN (Eff.storeAL rfl rfl rfl byTake byLay byOnes) ?_; rintro _ _ rfl)
    (refine KL.v rfl (Val.assign rfl) ?_)
    refine KL.nil ?_
    refine KE.next ?_
    refine K.seq ?_
    refine K.seq ?_
    refine K.region ?_
    (refine KL.v rfl (Val.move rfl) ?_)
    (refine KL.v rfl (Val.notF rfl) ?_)
    refine KL.nil ?_
    refine KE.next ?_
    refine K.condT rfl ?_
    refine K.seq ?_
    refine K.region ?_
    (refine KL.callc rfl rfl byEvL fun T hT => ?_)
    refine (CallV.fn (hawake _)).mono ?_
    rintro _ _ ⟨rfl, rfl⟩
    refine hT _ _ ?_; clear hT; clear T
    (refine KL.v rfl (Val.assign rfl) ?_)
    refine KL.nil ?_
    refine KE.next ?_
    refine K.ret ?_
    refine KE.passR ?_
    exact KE.fin byMarks rfl byRes byPart ⟨rfl, rfl⟩
  | true =>
    have hmade := fun A (hp : Part A F) => made_K (Dc := []) (F := A) hG (hR.part hp) hokk hC hvc
    obtain ⟨cl, page, tn, workers, grey, gens⟩ := c
    simp only [cfgV, cfgL] at hmade ⊢
    clear hokk hR
    refine Call.enter3 (n := 127) (by kernel_rfl) Tryz.func5 rfl rfl rfl ?_
    refine K.seq ?_
    refine K.region ?_
    (refine KL.e rfl (Eff.box rfl rfl) ?_; rintro _ _ ⟨b3, rfl, rfl⟩)
    (refine KL.v rfl (Val.assign rfl) ?_)
    refine KL.nil ?_
    refine KE.next ?_
    refine K.seq ?_
    refine K.region ?_
    (refine KL.v rfl (Val.loadA rfl rfl rfl bySeeN) ?_)
    (refine KL.callc rfl rfl byEvL fun T hT => ?_)
    refine (CallV.fn (hmade _ byPart)).mono ?_
    rintro _ _ ⟨W, ⟨s0, hs0, hg, hW, hK⟩, rfl, rfl⟩
    obtain ⟨q1, q2, q3, q4, q5, q6, q7, q8⟩ := hW.o
    have ha0 : s0.act = false := by rw [hs0]; rfl
    clear hs0 hg hmade
    obtain ⟨g, hg⟩ : ∃ g, W.B.p.g = g := ⟨_, rfl⟩
    unfold woL
    refine hT _ _ ?_; clear hT; clear T
    (refine KL.v rfl (Val.move rfl) ?_)
    (refine KL.v rfl (Val.extract rfl rfl) ?_)
    (refine KL.v rfl (Val.extract rfl rfl) ?_)
    (refine KL.e rfl (Eff.alloc rfl) ?_; rintro _ _ ⟨b7, rfl, rfl⟩)
    (refine KL.eN (Eff.storeAL rfl rfl rfl byTake byLay byOnes) ?_; rintro _ _ rfl)
    (refine KL.v rfl (Val.assign rfl) ?_)
    refine KL.nil ?_
    refine KE.next ?_
    refine K.seq ?_
    refine K.seq ?_
    refine K.region ?_
    (refine KL.v rfl (Val.move rfl) ?_)
    (refine KL.v rfl (Val.notT rfl) ?_)
    refine KL.nil ?_
    refine KE.next ?_
    refine K.condF rfl ?_
    refine K.skip ?_
    refine KE.next ?_
    refine byCode ?_
    (refine KL.v rfl (Val.assign rfl) ?_)
    refine KL.nil ?_
    refine KE.next ?_
    refine K.cutE (σ := LwA) [(2, _), (7, _)] bySub (fun s kp_ => kp_) (fun s => woH s.W ++ ((b7, cells (woL s.W) 47) :: F)) (fun s => WoR w0 s.W s.s ∧ WoK w0 s.W s.s ∧ s.W.B.p.g = g ∧ s.s.act = false) ?_ ?_
    · refine K.block ?_
      refine K.loopT (σ := LwA) [(1, _), (2, _), (7, _)] (fun s kp_ => (9, .int .i64 (s.i : Nat)) :: kp_) (fun s => woH s.W ++ ((b7, cells (woL s.W) 47) :: F)) (fun s => s.i ≤ l.length ∧ WoR w0 s.W s.s ∧ WoK w0 s.W s.s ∧ s.W.B.p.g = g ∧ s.s.act = false) (fun s => l.length - s.i) (⟨0, W, s0⟩) bySub byPart (⟨Nat.zero_le _, hW, hK, hg, ha0⟩) ?_
      rintro ⟨i, W1, s1⟩ ⟨hi, hW1, hK1, hg1, ha1⟩
      dsimp only at hi hW1 hK1 hg1 ha1 ⊢
      clear q1 q2 q3 q4 q5 q6 q7 q8 hW hK ha0 hg
      obtain ⟨q1, q2, q3, q4, q5, q6, q7, q8⟩ := hW1.o
      by_cases hlt : i < l.length ∧ i < 60
      · obtain ⟨h1, h2⟩ := hlt
        have h2' : ((i : Nat) : Int) < 60 := by omega
        obtain ⟨x, hx⟩ := get_of_lt h1
        have hxw := hlw x (List.mem_of_getElem? hx)
        have hdoes := fun A => does_K (w0 := w0) (F := A) (what := x.w) (n := x.n) hG hW1 hK1 hxw
        by_cases hx6 : x.w % 6 < 4
        · unfold woL
          refine K.seq ?_
          refine K.seq ?_
          refine K.region ?_
          (refine KL.v rfl (Val.move rfl) ?_)
          (refine KL.v rfl (Val.move rfl) ?_)
          (refine KL.v rfl (Val.lenSl rfl rfl bySli) ?_)
          (refine KL.v rfl (Val.isT (Val.lss rfl rfl) byLt) ?_)
          (refine KL.v rfl (Val.move rfl) ?_)
          (refine KL.yes rfl rfl ?_; refine KL.v rfl (Val.move rfl) ?_)
          (refine KL.yes rfl rfl ?_; refine KL.v rfl (Val.isT (Val.lss rfl rfl) byLt) ?_)
          (refine KL.v rfl (Val.pickT rfl rfl rfl) ?_)
          refine KL.nil ?_
          refine KE.next ?_
          refine K.condT rfl ?_
          refine K.skip ?_
          refine KE.next ?_
          refine K.seq ?_
          refine K.block ?_
          refine K.seq ?_
          refine K.region ?_
          (refine KL.v rfl (Val.move rfl) ?_)
          (refine KL.v rfl (Val.move rfl) ?_)
          (refine KL.v rfl (Val.idxSl rfl rfl rfl bySli rfl byLt) ?_)
          (refine KL.v rfl (Val.fieldSl (k := 0) rfl rfl) ?_)
          (refine KL.v rfl (Val.loadP rfl rfl bySee) ?_)
          (refine KL.v rfl (Val.remN rfl rfl (by omega)) ?_)
          (refine KL.v rfl (Val.isT (Val.lss rfl rfl) byLt) ?_)
          refine KL.nil ?_
          refine KE.next ?_
          refine K.condT rfl ?_
          refine byCodeD ?_
          (first | refine K.seq (K.drawn ([]) [(0, 0), (1, 0), (2, 0), (3, 0), (4, 0), (5, 2), (6, 0), (7, 0), (8, 1), (9, 2)] (by kernel_rfl) (by kernel_rfl) (by kernel_rfl) (by kernel_rfl) (by kernel_rfl) (by kernel_rfl) byPart ?_) | refine K.seq (K.seq (K.drawn ([]) [(0, 0), (1, 0), (2, 0), (3, 0), (4, 0), (5, 2), (6, 0), (7, 0), (8, 1), (9, 2)] (by kernel_rfl) (by kernel_rfl) (by kernel_rfl) (by kernel_rfl) (by kernel_rfl) (by kernel_rfl) byPart ?_)) | refine K.drawn ([]) [(0, 0), (1, 0), (2, 0), (3, 0), (4, 0), (5, 2), (6, 0), (7, 0), (8, 1), (9, 2)] (by kernel_rfl) (by kernel_rfl) (by kernel_rfl) (by kernel_rfl) (by kernel_rfl) (by kernel_rfl) byPart ?_)
          (first | refine KD.v0 rfl rfl (Val.loadAP rfl rfl rfl bySeeA) ?_ | refine KD.v0 rfl rfl (Val.loadA rfl rfl rfl bySeeN) ?_)
          refine KD.v0 rfl rfl (Val.move rfl) ?_
          refine KD.v0 rfl rfl (Val.move rfl) ?_
          (first | refine KD.v0 rfl rfl (Val.idxSl rfl rfl rfl bySli rfl byLt) ?_ | refine KD.v0 rfl rfl (Val.idxSlZ rfl rfl rfl bySli rfl (by omega)) ?_ | refine KD.v0 rfl rfl (Val.indexS1 rfl rfl rfl rfl (by omega)) ?_ | refine KD.v0 rfl rfl (Val.indexS rfl rfl rfl rfl (by omega)) ?_ | refine KD.v0 rfl rfl (Val.indexSO rfl rfl rfl rfl (by omega)) ?_ | refine KD.v0 rfl rfl (Val.indexSG rfl rfl rfl rfl (by omega)) ?_)
          (first | refine KD.v0 rfl rfl (Val.loadAP rfl rfl rfl bySeeA) ?_ | refine KD.v0 rfl rfl (Val.loadA rfl rfl rfl bySeeN) ?_)
          refine KD.callc rfl rfl rfl byEvL fun T hT => ?_
          refine (CallV.part (CallV.fn (hdoes _)) byPart).mono ?_
          rintro _ _ ⟨W2, hW2, hK2, hg2, rfl, rfl⟩
          obtain ⟨r1, r2, r3, r4, r5, r6, r7, r8⟩ := hW2.o
          unfold woL
          refine hT _ _ byPart ?_; clear hT; clear T
          refine KD.v0 rfl rfl (Val.move rfl) ?_
          refine KD.v0 rfl rfl (Val.extract rfl rfl) ?_
          refine KD.v1 rfl rfl (Val.extract rfl rfl) ?_
          (first | (refine KD.eN rfl (Eff.storeAL rfl rfl rfl byTake byLay byOnes) ?_; rintro _ _ rfl; refine ⟨byPart, ?_⟩) | (refine KD.eN rfl (Eff.stSlA rfl rfl rfl rfl byTakeL (by assumption) (by assumption)) ?_; rintro _ _ rfl; refine ⟨byPart, ?_⟩))
          refine KD.nil ?_
          refine KE.blkN ?_
          refine KE.next ?_
          refine K.region ?_
          (refine KL.v rfl (Val.move rfl) ?_)
          (refine KL.v rfl (Val.add rfl rfl (by simp only [Go.Proofs.YtalholahapcpkaaGreatDoor.lo, Go.Proofs.YtalholahapcpkaaGreatDoor.hi]; omega)) ?_)
          (refine KL.v rfl (Val.assign rfl) ?_)
          refine KL.nil ?_
          exact KE.again ⟨i + 1, W2, _⟩ bySub byPart ⟨h1, hW2, hK2, hg2.trans hg1, actS_act.trans ha1⟩ (by show l.length - (i + 1) < l.length - i; omega)
        · unfold woL
          refine K.seq ?_
          refine K.seq ?_
          refine K.region ?_
          (refine KL.v rfl (Val.move rfl) ?_)
          (refine KL.v rfl (Val.move rfl) ?_)
          (refine KL.v rfl (Val.lenSl rfl rfl bySli) ?_)
          (refine KL.v rfl (Val.isT (Val.lss rfl rfl) byLt) ?_)
          (refine KL.v rfl (Val.move rfl) ?_)
          (refine KL.yes rfl rfl ?_; refine KL.v rfl (Val.move rfl) ?_)
          (refine KL.yes rfl rfl ?_; refine KL.v rfl (Val.isT (Val.lss rfl rfl) byLt) ?_)
          (refine KL.v rfl (Val.pickT rfl rfl rfl) ?_)
          refine KL.nil ?_
          refine KE.next ?_
          refine K.condT rfl ?_
          refine K.skip ?_
          refine KE.next ?_
          refine K.seq ?_
          refine K.block ?_
          refine K.seq ?_
          refine K.region ?_
          (refine KL.v rfl (Val.move rfl) ?_)
          (refine KL.v rfl (Val.move rfl) ?_)
          (refine KL.v rfl (Val.idxSl rfl rfl rfl bySli rfl byLt) ?_)
          (refine KL.v rfl (Val.fieldSl (k := 0) rfl rfl) ?_)
          (refine KL.v rfl (Val.loadP rfl rfl bySee) ?_)
          (refine KL.v rfl (Val.remN rfl rfl (by omega)) ?_)
          (refine KL.v rfl (Val.isF (Val.lss rfl rfl) byLt) ?_)
          refine KL.nil ?_
          refine KE.next ?_
          refine K.condF rfl ?_
          refine K.skip ?_
          refine KE.blkN ?_
          refine KE.next ?_
          refine K.region ?_
          (refine KL.v rfl (Val.move rfl) ?_)
          (refine KL.v rfl (Val.add rfl rfl (by simp only [Go.Proofs.YtalholahapcpkaaGreatDoor.lo, Go.Proofs.YtalholahapcpkaaGreatDoor.hi]; omega)) ?_)
          (refine KL.v rfl (Val.assign rfl) ?_)
          refine KL.nil ?_
          exact KE.again ⟨i + 1, W1, s1⟩ bySub byPart ⟨h1, hW1, hK1, hg1, ha1⟩ (by show l.length - (i + 1) < l.length - i; omega)
      · by_cases h1 : i < l.length
        · have h2 : ¬ ((i : Nat) : Int) < 60 := by omega
          clear hlt
          unfold woL
          refine K.seq ?_
          refine K.seq ?_
          refine K.region ?_
          (refine KL.v rfl (Val.move rfl) ?_)
          (refine KL.v rfl (Val.move rfl) ?_)
          (refine KL.v rfl (Val.lenSl rfl rfl bySli) ?_)
          (refine KL.v rfl (Val.isT (Val.lss rfl rfl) byLt) ?_)
          (refine KL.v rfl (Val.move rfl) ?_)
          (refine KL.yes rfl rfl ?_; refine KL.v rfl (Val.move rfl) ?_)
          (refine KL.yes rfl rfl ?_; refine KL.v rfl (Val.isF (Val.lss rfl rfl) byLt) ?_)
          (refine KL.v rfl (Val.pickT rfl rfl rfl) ?_)
          refine KL.nil ?_
          refine KE.next ?_
          refine K.condF rfl ?_
          refine K.exit ?_
          refine KE.passX ?_
          refine KE.passX ?_
          refine KE.blkX ?_
          exact KE.meet ⟨0, W1, s1⟩ bySub byPart ⟨hW1, hK1, hg1, ha1⟩
        · clear hlt
          unfold woL
          refine K.seq ?_
          refine K.seq ?_
          refine K.region ?_
          (refine KL.v rfl (Val.move rfl) ?_)
          (refine KL.v rfl (Val.move rfl) ?_)
          (refine KL.v rfl (Val.lenSl rfl rfl bySli) ?_)
          (refine KL.v rfl (Val.isF (Val.lss rfl rfl) byLt) ?_)
          (refine KL.v rfl (Val.move rfl) ?_)
          refine KL.skipG rfl rfl rfl ?_
          refine KL.skipG rfl rfl rfl ?_
          (refine KL.v rfl (Val.pickF rfl rfl rfl) ?_)
          refine KL.nil ?_
          refine KE.next ?_
          refine K.condF rfl ?_
          refine K.exit ?_
          refine KE.passX ?_
          refine KE.passX ?_
          refine KE.blkX ?_
          exact KE.meet ⟨0, W1, s1⟩ bySub byPart ⟨hW1, hK1, hg1, ha1⟩
    · rintro ⟨_, W1, s1⟩ ⟨hW1, hK1, hg1, ha1⟩
      dsimp only at hW1 hK1 hg1 ha1 ⊢
      clear q1 q2 q3 q4 q5 q6 q7 q8 hW hK ha0 hg
      obtain ⟨q1, q2, q3, q4, q5, q6, q7, q8⟩ := hW1.o
      unfold woL
      have hgs := hW1.bo.p.g.slots
      rw [hg1] at hgs
      have hplok : PlOk g := by have := hW1.bo.p.g; rw [hg1] at this; exact this
      have hok1 : SwOk g s1 := by have := hW1.ok; rw [hg1] at this; exact this
      have hAl := hok1.A
      have hCl := hok1.C
      refine K.seq ?_
      refine K.seq ?_
      refine K.region ?_
      (refine KL.v rfl (Val.assign rfl) ?_)
      refine KL.nil ?_
      refine KE.next ?_
      refine K.block ?_
      refine K.loopT (σ := LwB) [(2, _), (7, _)] (fun s kp_ => (10, .int .i64 (s.k : Nat)) :: kp_) (fun s => woH s.W ++ ((b7, cells (woL W1) 47) :: F)) (fun s => s.k ≤ 2 + times % 3 ∧ WpR s.W s.s ∧ Wsame W1 s.W ∧ Again g s1 s.s s.k ∧ s.s.act = false) (fun s => 2 + times % 3 - s.k) (⟨0, W1, s1⟩) bySub byPart (⟨Nat.zero_le _, hW1.p, Wsame.refl, .inl ⟨rfl, rfl⟩, ha1⟩) ?_
      rintro ⟨k, W2, s2⟩ ⟨hk, hp2, hsm2, hag2, ha2⟩
      dsimp only at hk hp2 hsm2 hag2 ha2 ⊢
      have hg2 : W2.B.p.g = g := hsm2.g.trans hg1
      have hok2 : SwOk g s2 := by have := hp2.ok; rw [hg2] at this; exact this
      unfold woL
      by_cases hkt : k < 2 + times % 3
      · have hkt' : ((k : Nat) : Int) < 2 + ((times : Nat) : Int) % 3 := by omega
        have hstart := fun A => wStart_K (w0 := w0) (F := A) hp2 ha2
        simp only [hsm2.sp] at hstart
        refine K.seq ?_
        refine K.seq ?_
        refine K.region ?_
        (refine KL.v rfl (Val.move rfl) ?_)
        (refine KL.v rfl (Val.move rfl) ?_)
        (refine KL.v rfl (Val.remN rfl rfl (by omega)) ?_)
        (refine KL.v rfl (Val.conv rfl rfl rfl (by simp only [Go.Proofs.YtalholahapcpkaaGreatDoor.lo, Go.Proofs.YtalholahapcpkaaGreatDoor.hi]; omega)) ?_)
        (refine KL.v rfl (Val.add rfl rfl (by simp only [Go.Proofs.YtalholahapcpkaaGreatDoor.lo, Go.Proofs.YtalholahapcpkaaGreatDoor.hi]; omega)) ?_)
        (refine KL.v rfl (Val.isT (Val.lss rfl rfl) byLt) ?_)
        refine KL.nil ?_
        refine KE.next ?_
        refine K.condT rfl ?_
        refine K.skip ?_
        refine KE.next ?_
        refine K.seq ?_
        refine K.block ?_
        refine K.seq ?_
        refine K.seq ?_
        refine K.region ?_
        (refine KL.v rfl (Val.fieldAddr0 (k := 4) rfl rfl) ?_)
        (refine KL.v rfl (Val.loadP rfl rfl (Sees.cell byTake rfl)) ?_)
        (refine KL.callc rfl rfl byEvL fun T hT => ?_)
        refine (CallV.part (CallV.fn (hstart _)) byPart).mono ?_
        rintro _ _ ⟨rfl, W3, hp3, hsm3', _, _, _, _, _, _, _, _, rfl⟩
        have hsm3 := hsm2.trans hsm3'
        have hg3 : W3.B.p.g = g := hsm3.g.trans hg1
        have hr3 : Run g s2 0 (startS s2) := run_start hok2 ha2
        refine hT _ _ ?_; clear hT; clear T
        (refine KL.v rfl (Val.isF (Val.neq rfl rfl) byLt) ?_)
        refine KL.nil ?_
        refine KE.next ?_
        refine K.condF rfl ?_
        refine K.skip ?_
        refine KE.next ?_
        refine K.seq ?_
        refine K.seq ?_
        refine K.region ?_
        (refine KL.v rfl (Val.assign rfl) ?_)
        refine KL.nil ?_
        refine KE.next ?_
        refine K.block ?_
        refine K.loopT (σ := LwC) [(2, _), (7, _), (10, _)] (fun s kp_ => (11, .int .i64 (s.n : Nat)) :: kp_) (fun s => woH s.W ++ ((b7, cells (woL W1) 47) :: F)) (fun s => s.n ≤ g.slots ∧ WpR s.W s.t ∧ Wsame W1 s.W ∧ Run g s2 s.n s.t) (fun s => g.slots + 1 - s.n) (⟨0, W3, startS s2⟩) bySub byPart (⟨Nat.zero_le _, hp3, hsm3, hr3⟩) ?_
        rintro ⟨n, W4, t⟩ ⟨hn, hp4, hsm4, hr4⟩
        dsimp only at hn hp4 hsm4 hr4 ⊢
        have hg4 : W4.B.p.g = g := hsm4.g.trans hg1
        have hok4 : SwOk g t := by have := hp4.ok; rw [hg4] at this; exact this
        have hD4 : Part (woH W4) W1.D := by rw [← hsm4.D]; unfold woH; exact byPart
        have hvC := hW1.dC.part hD4
        have hvA := hW1.dA.a.part hD4
        unfold woL
        by_cases hns : n < g.slots
        · obtain ⟨t', ht', hr', hok'⟩ := run_ok hplok (startS_ok hok2) hr4 hok4 hns
          have hst := fun A => wStep_K (w0 := w0) (F := A) hp4 (by rw [hg4]; exact ht') hr4.act (by rw [hg4, hr4.at_]; exact hns)
          simp only [hsm4.sp] at hst
          have hnl : ((n : Nat) : Int) ≤ (s1.C.length : Nat) := by omega
          refine K.seq ?_
          refine K.seq ?_
          refine K.region ?_
          (refine KL.v rfl (Val.move rfl) ?_)
          (refine KL.v rfl (Val.fieldAddr0 (k := 18) rfl rfl) ?_)
          (refine KL.v rfl (Val.loadP rfl rfl (Sees.cell byTake rfl)) ?_)
          (refine KL.v rfl (Val.lenSl rfl rfl bySli) ?_)
          (refine KL.v rfl (Val.isT (Val.leq rfl rfl) byLt) ?_)
          (refine KL.v rfl (Val.move rfl) ?_)
          (refine KL.yes rfl rfl ?_; refine KL.v rfl (Val.fieldAddr0 (k := 4) rfl rfl) ?_)
          (refine KL.yes rfl rfl ?_; refine KL.v rfl (Val.loadP rfl rfl (Sees.cell byTake rfl)) ?_)
          (refine KL.yes rfl rfl ?_; refine KL.callc rfl rfl byEvL fun T hT => ?_)
          refine (CallV.part (CallV.fn (hst _)) byPart).mono ?_
          rintro _ _ ⟨rfl, W5, hp5, hsm5, rfl⟩
          refine hT _ _ ?_; clear hT; clear T
          (refine KL.v rfl (Val.pickT rfl rfl rfl) ?_)
          refine KL.nil ?_
          refine KE.next ?_
          refine K.condT rfl ?_
          refine K.skip ?_
          refine KE.next ?_
          refine K.seq ?_
          refine K.block ?_
          refine K.skip ?_
          refine KE.blkN ?_
          refine KE.next ?_
          refine K.region ?_
          (refine KL.v rfl (Val.move rfl) ?_)
          (refine KL.v rfl (Val.add rfl rfl (by simp only [Go.Proofs.YtalholahapcpkaaGreatDoor.lo, Go.Proofs.YtalholahapcpkaaGreatDoor.hi]; omega)) ?_)
          (refine KL.v rfl (Val.assign rfl) ?_)
          refine KL.nil ?_
          exact KE.again ⟨n + 1, W5, t'⟩ bySub byPart ⟨hns, hp5, hsm4.trans hsm5, hr'⟩ (by show g.slots + 1 - (n + 1) < g.slots + 1 - n; omega)
        · have hnn : n = g.slots := by omega
          subst hnn
          have hnl : ((g.slots : Nat) : Int) ≤ (s1.C.length : Nat) := by omega
          have hend := fun A => step_mod (w0 := w0) (F := A) hp4 (by rw [hg4, hr4.at_]; rintro ⟨_, h⟩; omega)
          simp only [hsm4.sp] at hend
          have hstop := fun A => wStop_K (w0 := w0) (F := A) hG hp4 hr4.act (by rw [hr4.at_, hg4])
          simp only [hsm4.sp, hg4] at hstop
          have hcnt := run_count hr4
          obtain ⟨hag', hleft, hfz⟩ := again_next hok1 hok2 hag2 hr4
          obtain ⟨fr, hfr⟩ : ∃ fr : Nat, fr = t.D.count true := ⟨_, rfl⟩
          have hfr0 : 0 < k → fr = 0 := fun h => by rw [hfr, hcnt]; exact hfz h
          simp only [← hfr] at hstop
          clear hcnt hfr hfz
          refine K.seq ?_
          refine K.seq ?_
          refine K.region ?_
          (refine KL.v rfl (Val.move rfl) ?_)
          (refine KL.v rfl (Val.fieldAddr0 (k := 18) rfl rfl) ?_)
          (refine KL.v rfl (Val.loadP rfl rfl (Sees.cell byTake rfl)) ?_)
          (refine KL.v rfl (Val.lenSl rfl rfl bySli) ?_)
          (refine KL.v rfl (Val.isT (Val.leq rfl rfl) byLt) ?_)
          (refine KL.v rfl (Val.move rfl) ?_)
          (refine KL.yes rfl rfl ?_; refine KL.v rfl (Val.fieldAddr0 (k := 4) rfl rfl) ?_)
          (refine KL.yes rfl rfl ?_; refine KL.v rfl (Val.loadP rfl rfl (Sees.cell byTake rfl)) ?_)
          (refine KL.yes rfl rfl ?_; refine KL.callc rfl rfl byEvL fun T hT => ?_)
          refine (CallV.part (CallV.fn (hend _)) byPart).mono ?_
          rintro _ _ ⟨rfl, rfl⟩
          refine hT _ _ ?_; clear hT; clear T
          (refine KL.v rfl (Val.pickT rfl rfl rfl) ?_)
          refine KL.nil ?_
          refine KE.next ?_
          refine K.condF rfl ?_
          refine K.exit ?_
          refine KE.passX ?_
          refine KE.passX ?_
          refine KE.blkX ?_
          refine KE.next ?_
          refine K.seq ?_
          refine K.region ?_
          (refine KL.v rfl (Val.fieldAddr0 (k := 4) rfl rfl) ?_)
          (refine KL.v rfl (Val.loadP rfl rfl (Sees.cell byTake rfl)) ?_)
          (refine KL.callc rfl rfl byEvL fun T hT => ?_)
          refine (CallV.part (CallV.fn (hstop _)) byPart).mono ?_
          rintro _ _ ⟨rfl, W6, hp6, hsm6', _, _, _, _, _, rfl⟩
          have hsm6 := hsm4.trans hsm6'
          have hg6 : W6.B.p.g = g := hsm6.g.trans hg1
          have hpl := fun A => wPlace_K (w0 := w0) (F := A) hp6
          have hac := fun A => wActive_K (w0 := w0) (F := A) hp6
          simp only [hsm6.sp, show (stopS g t).at_ = 0 from rfl, show (stopS g t).act = false from rfl] at hpl hac
          have hpl' : ∀ A, Call Tryz.prog w0 24 [.pointer (some ⟨W1.sp.b, 0, none⟩)] (woH W6 ++ A) (fun r H' => r = .int .i64 0 ∧ H' = woH W6 ++ A) := hpl
          have hD6 : Part (woH W6) W1.D := by rw [← hsm6.D]; unfold woH; exact byPart
          have hvC6 := hW1.dC.part hD6
          have hvA6 := hW1.dA.a.part hD6
          clear hvC hvA
          refine hT _ _ ?_; clear hT; clear T
          (refine KL.v rfl (Val.move rfl) ?_)
          (refine KL.v rfl (Val.extract rfl rfl) ?_)
          (refine KL.v rfl (Val.extract rfl rfl) ?_)
          (refine KL.v rfl (Val.assign rfl) ?_)
          (refine KL.v rfl (Val.assign rfl) ?_)
          refine KL.nil ?_
          refine KE.next ?_
          (try refine KE.next ?_)
          refine K.seq ?_
          refine K.cutT (σ := Unit) [(2, _), (7, _), (10, _)] bySub (fun s kp_ => (99, .bool false) :: kp_) (fun s => woH W6 ++ ((b7, cells (woL W1) 47) :: F)) (fun s => True) ?_ ?_
          · by_cases hk0 : k = 0
            · have hkz : ¬ ((k : Nat) : Int) > 0 := by omega
              unfold woL
              refine K.region ?_
              (refine KL.v rfl (Val.move rfl) ?_)
              (refine KL.v rfl (Val.isF (Val.neq rfl rfl) byLt) ?_)
              (refine KL.v rfl (Val.move rfl) ?_)
              (refine KL.yes rfl rfl ?_; refine KL.v rfl (Val.move rfl) ?_)
              (refine KL.yes rfl rfl ?_; refine KL.v rfl (Val.isF (Val.gtr rfl rfl) byLt) ?_)
              (refine KL.yes rfl rfl ?_; refine KL.v rfl (Val.move rfl) ?_)
              refine KL.skipG rfl rfl rfl ?_
              refine KL.skipG rfl rfl rfl ?_
              (refine KL.yes rfl rfl ?_; refine KL.v rfl (Val.pickF rfl rfl rfl) ?_)
              (refine KL.v rfl (Val.pickF rfl rfl rfl) ?_)
              (refine KL.v rfl (Val.move rfl) ?_)
              (refine KL.yes rfl rfl ?_; refine KL.v rfl (Val.fieldAddr0 (k := 4) rfl rfl) ?_)
              (refine KL.yes rfl rfl ?_; refine KL.v rfl (Val.loadP rfl rfl (Sees.cell byTake rfl)) ?_)
              (refine KL.yes rfl rfl ?_; refine KL.callc rfl rfl byEvL fun T hT => ?_)
              refine (CallV.part (CallV.fn (hpl' _)) byPart).mono ?_
              rintro _ _ ⟨rfl, rfl⟩
              refine hT _ _ ?_; clear hT; clear T
              (refine KL.yes rfl rfl ?_; refine KL.v rfl (Val.isF (Val.neq rfl rfl) byLt) ?_)
              (refine KL.v rfl (Val.pickF rfl rfl rfl) ?_)
              (refine KL.v rfl (Val.move rfl) ?_)
              (refine KL.yes rfl rfl ?_; refine KL.v rfl (Val.fieldAddr0 (k := 4) rfl rfl) ?_)
              (refine KL.yes rfl rfl ?_; refine KL.v rfl (Val.loadP rfl rfl (Sees.cell byTake rfl)) ?_)
              (refine KL.yes rfl rfl ?_; refine KL.callc rfl rfl byEvL fun T hT => ?_)
              refine (CallV.part (CallV.fn (hac _)) byPart).mono ?_
              rintro _ _ ⟨rfl, rfl⟩
              refine hT _ _ ?_; clear hT; clear T
              (refine KL.v rfl (Val.pickF rfl rfl rfl) ?_)
              refine KL.nil ?_
              exact KE.meet () bySub byPart trivial
            · have hkz : ((k : Nat) : Int) > 0 := by omega
              have hfz : ((fr : Nat) : Int) = 0 := by have := hfr0 (by omega); omega
              unfold woL
              refine K.region ?_
              (refine KL.v rfl (Val.move rfl) ?_)
              (refine KL.v rfl (Val.isF (Val.neq rfl rfl) byLt) ?_)
              (refine KL.v rfl (Val.move rfl) ?_)
              (refine KL.yes rfl rfl ?_; refine KL.v rfl (Val.move rfl) ?_)
              (refine KL.yes rfl rfl ?_; refine KL.v rfl (Val.isT (Val.gtr rfl rfl) byLt) ?_)
              (refine KL.yes rfl rfl ?_; refine KL.v rfl (Val.move rfl) ?_)
              (refine KL.yes rfl rfl ?_; refine KL.v rfl (Val.move rfl) ?_)
              (refine KL.yes rfl rfl ?_; refine KL.v rfl (Val.isF (Val.neq rfl rfl) byLt) ?_)
              (refine KL.yes rfl rfl ?_; refine KL.v rfl (Val.pickT rfl rfl rfl) ?_)
              (refine KL.v rfl (Val.pickF rfl rfl rfl) ?_)
              (refine KL.v rfl (Val.move rfl) ?_)
              (refine KL.yes rfl rfl ?_; refine KL.v rfl (Val.fieldAddr0 (k := 4) rfl rfl) ?_)
              (refine KL.yes rfl rfl ?_; refine KL.v rfl (Val.loadP rfl rfl (Sees.cell byTake rfl)) ?_)
              (refine KL.yes rfl rfl ?_; refine KL.callc rfl rfl byEvL fun T hT => ?_)
              refine (CallV.part (CallV.fn (hpl' _)) byPart).mono ?_
              rintro _ _ ⟨rfl, rfl⟩
              refine hT _ _ ?_; clear hT; clear T
              (refine KL.yes rfl rfl ?_; refine KL.v rfl (Val.isF (Val.neq rfl rfl) byLt) ?_)
              (refine KL.v rfl (Val.pickF rfl rfl rfl) ?_)
              (refine KL.v rfl (Val.move rfl) ?_)
              (refine KL.yes rfl rfl ?_; refine KL.v rfl (Val.fieldAddr0 (k := 4) rfl rfl) ?_)
              (refine KL.yes rfl rfl ?_; refine KL.v rfl (Val.loadP rfl rfl (Sees.cell byTake rfl)) ?_)
              (refine KL.yes rfl rfl ?_; refine KL.callc rfl rfl byEvL fun T hT => ?_)
              refine (CallV.part (CallV.fn (hac _)) byPart).mono ?_
              rintro _ _ ⟨rfl, rfl⟩
              refine hT _ _ ?_; clear hT; clear T
              (refine KL.v rfl (Val.pickF rfl rfl rfl) ?_)
              refine KL.nil ?_
              exact KE.meet () bySub byPart trivial
          · rintro ⟨⟩ _
            (try dsimp only)
            unfold woL
            refine K.condF rfl ?_
            refine K.skip ?_
            refine KE.next ?_
            refine K.seq ?_
            refine K.region ?_
            (refine KL.v rfl (Val.assign rfl) ?_)
            refine KL.nil ?_
            refine KE.next ?_
            refine K.block ?_
            refine K.loopT (σ := LwD) [(2, _), (7, _), (10, _)] (fun s kp_ => (14, .int .i64 (s.i : Nat)) :: kp_) (fun s => woH W6 ++ ((b7, cells (woL W1) 47) :: F)) (fun s => s.i ≤ g.slots) (fun s => g.slots - s.i) (⟨0⟩) bySub byPart (Nat.zero_le _) ?_
            rintro ⟨j⟩ hj
            dsimp only at hj ⊢
            unfold woL
            by_cases hjs : j < g.slots
            · have hjl : ((j : Nat) : Int) < (s1.C.length : Nat) := by omega
              obtain ⟨a, hav⟩ := get_of_lt (l := s1.A) (k := j) (by omega)
              obtain ⟨cc, hcv⟩ := get_of_lt (l := s1.C) (k := j) (by omega)
              have hal := lt_of_get hav
              have hcl' := lt_of_get hcv
              have hhas := fun A => wHas_K (w0 := w0) (F := A) (i := (j : Nat)) hp6
              have hget : getB (stopS g t).A (j : Nat) = (a && decide (cc = 2)) := by
                rw [getB_in, hleft j hjs]
                unfold leftP
                rw [hav, hcv]
                simp
              simp only [hsm6.a, hget] at hhas
              cases a with
              | false =>
                simp only [Bool.false_and] at hhas
                refine K.seq ?_
                refine K.seq ?_
                refine K.region ?_
                (refine KL.v rfl (Val.move rfl) ?_)
                (refine KL.v rfl (Val.fieldAddr0 (k := 18) rfl rfl) ?_)
                (refine KL.v rfl (Val.loadP rfl rfl (Sees.cell byTake rfl)) ?_)
                (refine KL.v rfl (Val.lenSl rfl rfl bySli) ?_)
                (refine KL.v rfl (Val.isT (Val.lss rfl rfl) byLt) ?_)
                refine KL.nil ?_
                refine KE.next ?_
                refine K.condT rfl ?_
                refine K.skip ?_
                refine KE.next ?_
                refine K.seq ?_
                refine K.block ?_
                refine byCodeD ?_
                (first | refine K.seq (K.drawn _ [(0, 0), (1, 0), (2, 0), (4, 1), (5, 1), (6, 1), (7, 1), (8, 1), (9, 1), (3, 2), (10, 0), (11, 0), (12, 0), (13, 0), (14, 0), (15, 0), (16, 0), (17, 0), (18, 0)] (by kernel_rfl) (by kernel_rfl) (by kernel_rfl) (by kernel_rfl) (by kernel_rfl) (by kernel_rfl) Part.all ?_) | refine K.seq (K.seq (K.drawn _ [(0, 0), (1, 0), (2, 0), (4, 1), (5, 1), (6, 1), (7, 1), (8, 1), (9, 1), (3, 2), (10, 0), (11, 0), (12, 0), (13, 0), (14, 0), (15, 0), (16, 0), (17, 0), (18, 0)] (by kernel_rfl) (by kernel_rfl) (by kernel_rfl) (by kernel_rfl) (by kernel_rfl) (by kernel_rfl) Part.all ?_)) | refine K.drawn _ [(0, 0), (1, 0), (2, 0), (4, 1), (5, 1), (6, 1), (7, 1), (8, 1), (9, 1), (3, 2), (10, 0), (11, 0), (12, 0), (13, 0), (14, 0), (15, 0), (16, 0), (17, 0), (18, 0)] (by kernel_rfl) (by kernel_rfl) (by kernel_rfl) (by kernel_rfl) (by kernel_rfl) (by kernel_rfl) Part.all ?_)
                (first | refine KD.v0 rfl rfl (Val.fieldSl (k := 1) rfl rfl) ?_ | refine KD.v0 rfl rfl (Val.fieldAddr0 (k := 1) rfl rfl) ?_ | refine KD.v0 rfl rfl (Val.fieldAddrZ rfl rfl) ?_ | refine KD.v0 rfl rfl (Val.fieldAddr (k := 1) rfl rfl) ?_)
                (first | refine KD.v0 rfl rfl (Val.loadP rfl rfl bySee) ?_ | refine KD.v0 rfl rfl (Val.loadP rfl rfl (Sees.more (by assumption) byPart)) ?_)
                refine KD.v0 rfl rfl (Val.move rfl) ?_
                (first | refine KD.v1 rfl rfl (Val.fieldSl (k := 5) rfl rfl) ?_ | refine KD.v1 rfl rfl (Val.fieldAddr0 (k := 5) rfl rfl) ?_ | refine KD.v1 rfl rfl (Val.fieldAddrZ rfl rfl) ?_ | refine KD.v1 rfl rfl (Val.fieldAddr (k := 5) rfl rfl) ?_)
                (first | refine KD.v1 rfl rfl (Val.fieldSl (k := 5) rfl rfl) ?_ | refine KD.v1 rfl rfl (Val.fieldAddr0 (k := 5) rfl rfl) ?_ | refine KD.v1 rfl rfl (Val.fieldAddrZ rfl rfl) ?_ | refine KD.v1 rfl rfl (Val.fieldAddr (k := 5) rfl rfl) ?_)
                (first | refine KD.v1 rfl rfl (Val.loadP rfl rfl bySee) ?_ | refine KD.v1 rfl rfl (Val.loadP rfl rfl (Sees.more (by assumption) byPart)) ?_)
                refine KD.v1 rfl rfl (Val.move rfl) ?_
                (first | refine KD.v1 rfl rfl (Val.idxSl rfl rfl rfl bySli rfl byLt) ?_ | refine KD.v1 rfl rfl (Val.idxSlZ rfl rfl rfl bySli rfl (by omega)) ?_ | refine KD.v1 rfl rfl (Val.indexS1 rfl rfl rfl rfl (by omega)) ?_ | refine KD.v1 rfl rfl (Val.indexS rfl rfl rfl rfl (by omega)) ?_ | refine KD.v1 rfl rfl (Val.indexSO rfl rfl rfl rfl (by omega)) ?_ | refine KD.v1 rfl rfl (Val.indexSG rfl rfl rfl rfl (by omega)) ?_)
                (first | refine KD.v1 rfl rfl (Val.loadP rfl rfl bySee) ?_ | refine KD.v1 rfl rfl (Val.loadP rfl rfl (Sees.more (by assumption) byPart)) ?_)
                refine KD.callc rfl rfl rfl byEvL fun T hT => ?_
                refine (CallV.part (CallV.fn (hhas _)) byPart).mono ?_
                rintro _ _ ⟨rfl, rfl⟩
                refine hT _ _ byPart ?_; clear hT; clear T
                refine KD.v0 rfl rfl (Val.move rfl) ?_
                (first | refine KD.no rfl rfl rfl rfl rfl ?_ | refine KD.noU rfl rfl rfl rfl rfl ?_ | refine KD.y0 rfl rfl rfl rfl (Val.fieldSl (k := 18) rfl rfl) ?_ | refine KD.y0 rfl rfl rfl rfl (Val.fieldAddr0 (k := 18) rfl rfl) ?_ | refine KD.y0 rfl rfl rfl rfl (Val.fieldAddrZ rfl rfl) ?_ | refine KD.y0 rfl rfl rfl rfl (Val.fieldAddr (k := 18) rfl rfl) ?_)
                (first | refine KD.no rfl rfl rfl rfl rfl ?_ | refine KD.noU rfl rfl rfl rfl rfl ?_ | refine KD.y0 rfl rfl rfl rfl (Val.loadP rfl rfl bySee) ?_ | refine KD.y0 rfl rfl rfl rfl (Val.loadP rfl rfl (Sees.more (by assumption) byPart)) ?_)
                (first | refine KD.no rfl rfl rfl rfl rfl ?_ | refine KD.noU rfl rfl rfl rfl rfl ?_ | refine KD.y0 rfl rfl rfl rfl (Val.move rfl) ?_)
                (first | refine KD.no rfl rfl rfl rfl rfl ?_ | refine KD.noU rfl rfl rfl rfl rfl ?_ | refine KD.y0 rfl rfl rfl rfl (Val.idxSl rfl rfl rfl bySli rfl byLt) ?_ | refine KD.y0 rfl rfl rfl rfl (Val.idxSlZ rfl rfl rfl bySli rfl (by omega)) ?_ | refine KD.y0 rfl rfl rfl rfl (Val.indexS1 rfl rfl rfl rfl (by omega)) ?_ | refine KD.y0 rfl rfl rfl rfl (Val.indexS rfl rfl rfl rfl (by omega)) ?_ | refine KD.y0 rfl rfl rfl rfl (Val.indexSO rfl rfl rfl rfl (by omega)) ?_ | refine KD.y0 rfl rfl rfl rfl (Val.indexSG rfl rfl rfl rfl (by omega)) ?_)
                (first | refine KD.no rfl rfl rfl rfl rfl ?_ | refine KD.noU rfl rfl rfl rfl rfl ?_ | refine KD.y0 rfl rfl rfl rfl (Val.loadP rfl rfl bySee) ?_ | refine KD.y0 rfl rfl rfl rfl (Val.loadP rfl rfl (Sees.more (by assumption) byPart)) ?_)
                (first | refine KD.no rfl rfl rfl rfl rfl ?_ | refine KD.noU rfl rfl rfl rfl rfl ?_ | refine KD.y0 rfl rfl rfl rfl (Val.isT (Val.eql rfl rfl) byLt) ?_ | refine KD.y0 rfl rfl rfl rfl (Val.isF (Val.eql rfl rfl) byLt) ?_ | refine KD.y0 rfl rfl rfl rfl (Val.eql rfl rfl) ?_)
                (first | refine KD.v0 rfl rfl (Val.pickT rfl rfl rfl) ?_ | refine KD.v0 rfl rfl (Val.pickF rfl rfl rfl) ?_ | refine KD.v0 rfl rfl (Val.pickB rfl rfl rfl) ?_)
                refine KD.v0 rfl rfl (Val.neqB rfl rfl rfl) ?_
                refine KD.nil ?_
                refine KE.next ?_
                refine K.condF rfl ?_
                refine K.skip ?_
                refine KE.blkN ?_
                refine KE.next ?_
                refine K.region ?_
                (refine KL.v rfl (Val.move rfl) ?_)
                (refine KL.v rfl (Val.add rfl rfl (by simp only [Go.Proofs.YtalholahapcpkaaGreatDoor.lo, Go.Proofs.YtalholahapcpkaaGreatDoor.hi]; omega)) ?_)
                (refine KL.v rfl (Val.assign rfl) ?_)
                refine KL.nil ?_
                exact KE.again ⟨j + 1⟩ bySub byPart hjs (by show g.slots - (j + 1) < g.slots - j; omega)
              | true =>
                by_cases hc2 : cc = 2
                · rw [decide_eq_true hc2] at hhas
                  refine K.seq ?_
                  refine K.seq ?_
                  refine K.region ?_
                  (refine KL.v rfl (Val.move rfl) ?_)
                  (refine KL.v rfl (Val.fieldAddr0 (k := 18) rfl rfl) ?_)
                  (refine KL.v rfl (Val.loadP rfl rfl (Sees.cell byTake rfl)) ?_)
                  (refine KL.v rfl (Val.lenSl rfl rfl bySli) ?_)
                  (refine KL.v rfl (Val.isT (Val.lss rfl rfl) byLt) ?_)
                  refine KL.nil ?_
                  refine KE.next ?_
                  refine K.condT rfl ?_
                  refine K.skip ?_
                  refine KE.next ?_
                  refine K.seq ?_
                  refine K.block ?_
                  refine byCodeD ?_
                  (first | refine K.seq (K.drawn _ [(0, 0), (1, 0), (2, 0), (4, 1), (5, 1), (6, 1), (7, 1), (8, 1), (9, 1), (3, 2), (10, 0), (11, 0), (12, 0), (13, 0), (14, 0), (15, 0), (16, 0), (17, 0), (18, 0)] (by kernel_rfl) (by kernel_rfl) (by kernel_rfl) (by kernel_rfl) (by kernel_rfl) (by kernel_rfl) Part.all ?_) | refine K.seq (K.seq (K.drawn _ [(0, 0), (1, 0), (2, 0), (4, 1), (5, 1), (6, 1), (7, 1), (8, 1), (9, 1), (3, 2), (10, 0), (11, 0), (12, 0), (13, 0), (14, 0), (15, 0), (16, 0), (17, 0), (18, 0)] (by kernel_rfl) (by kernel_rfl) (by kernel_rfl) (by kernel_rfl) (by kernel_rfl) (by kernel_rfl) Part.all ?_)) | refine K.drawn _ [(0, 0), (1, 0), (2, 0), (4, 1), (5, 1), (6, 1), (7, 1), (8, 1), (9, 1), (3, 2), (10, 0), (11, 0), (12, 0), (13, 0), (14, 0), (15, 0), (16, 0), (17, 0), (18, 0)] (by kernel_rfl) (by kernel_rfl) (by kernel_rfl) (by kernel_rfl) (by kernel_rfl) (by kernel_rfl) Part.all ?_)
                  (first | refine KD.v0 rfl rfl (Val.fieldSl (k := 1) rfl rfl) ?_ | refine KD.v0 rfl rfl (Val.fieldAddr0 (k := 1) rfl rfl) ?_ | refine KD.v0 rfl rfl (Val.fieldAddrZ rfl rfl) ?_ | refine KD.v0 rfl rfl (Val.fieldAddr (k := 1) rfl rfl) ?_)
                  (first | refine KD.v0 rfl rfl (Val.loadP rfl rfl bySee) ?_ | refine KD.v0 rfl rfl (Val.loadP rfl rfl (Sees.more (by assumption) byPart)) ?_)
                  refine KD.v0 rfl rfl (Val.move rfl) ?_
                  (first | refine KD.v1 rfl rfl (Val.fieldSl (k := 5) rfl rfl) ?_ | refine KD.v1 rfl rfl (Val.fieldAddr0 (k := 5) rfl rfl) ?_ | refine KD.v1 rfl rfl (Val.fieldAddrZ rfl rfl) ?_ | refine KD.v1 rfl rfl (Val.fieldAddr (k := 5) rfl rfl) ?_)
                  (first | refine KD.v1 rfl rfl (Val.fieldSl (k := 5) rfl rfl) ?_ | refine KD.v1 rfl rfl (Val.fieldAddr0 (k := 5) rfl rfl) ?_ | refine KD.v1 rfl rfl (Val.fieldAddrZ rfl rfl) ?_ | refine KD.v1 rfl rfl (Val.fieldAddr (k := 5) rfl rfl) ?_)
                  (first | refine KD.v1 rfl rfl (Val.loadP rfl rfl bySee) ?_ | refine KD.v1 rfl rfl (Val.loadP rfl rfl (Sees.more (by assumption) byPart)) ?_)
                  refine KD.v1 rfl rfl (Val.move rfl) ?_
                  (first | refine KD.v1 rfl rfl (Val.idxSl rfl rfl rfl bySli rfl byLt) ?_ | refine KD.v1 rfl rfl (Val.idxSlZ rfl rfl rfl bySli rfl (by omega)) ?_ | refine KD.v1 rfl rfl (Val.indexS1 rfl rfl rfl rfl (by omega)) ?_ | refine KD.v1 rfl rfl (Val.indexS rfl rfl rfl rfl (by omega)) ?_ | refine KD.v1 rfl rfl (Val.indexSO rfl rfl rfl rfl (by omega)) ?_ | refine KD.v1 rfl rfl (Val.indexSG rfl rfl rfl rfl (by omega)) ?_)
                  (first | refine KD.v1 rfl rfl (Val.loadP rfl rfl bySee) ?_ | refine KD.v1 rfl rfl (Val.loadP rfl rfl (Sees.more (by assumption) byPart)) ?_)
                  refine KD.callc rfl rfl rfl byEvL fun T hT => ?_
                  refine (CallV.part (CallV.fn (hhas _)) byPart).mono ?_
                  rintro _ _ ⟨rfl, rfl⟩
                  refine hT _ _ byPart ?_; clear hT; clear T
                  refine KD.v0 rfl rfl (Val.move rfl) ?_
                  (first | refine KD.no rfl rfl rfl rfl rfl ?_ | refine KD.noU rfl rfl rfl rfl rfl ?_ | refine KD.y0 rfl rfl rfl rfl (Val.fieldSl (k := 18) rfl rfl) ?_ | refine KD.y0 rfl rfl rfl rfl (Val.fieldAddr0 (k := 18) rfl rfl) ?_ | refine KD.y0 rfl rfl rfl rfl (Val.fieldAddrZ rfl rfl) ?_ | refine KD.y0 rfl rfl rfl rfl (Val.fieldAddr (k := 18) rfl rfl) ?_)
                  (first | refine KD.no rfl rfl rfl rfl rfl ?_ | refine KD.noU rfl rfl rfl rfl rfl ?_ | refine KD.y0 rfl rfl rfl rfl (Val.loadP rfl rfl bySee) ?_ | refine KD.y0 rfl rfl rfl rfl (Val.loadP rfl rfl (Sees.more (by assumption) byPart)) ?_)
                  (first | refine KD.no rfl rfl rfl rfl rfl ?_ | refine KD.noU rfl rfl rfl rfl rfl ?_ | refine KD.y0 rfl rfl rfl rfl (Val.move rfl) ?_)
                  (first | refine KD.no rfl rfl rfl rfl rfl ?_ | refine KD.noU rfl rfl rfl rfl rfl ?_ | refine KD.y0 rfl rfl rfl rfl (Val.idxSl rfl rfl rfl bySli rfl byLt) ?_ | refine KD.y0 rfl rfl rfl rfl (Val.idxSlZ rfl rfl rfl bySli rfl (by omega)) ?_ | refine KD.y0 rfl rfl rfl rfl (Val.indexS1 rfl rfl rfl rfl (by omega)) ?_ | refine KD.y0 rfl rfl rfl rfl (Val.indexS rfl rfl rfl rfl (by omega)) ?_ | refine KD.y0 rfl rfl rfl rfl (Val.indexSO rfl rfl rfl rfl (by omega)) ?_ | refine KD.y0 rfl rfl rfl rfl (Val.indexSG rfl rfl rfl rfl (by omega)) ?_)
                  (first | refine KD.no rfl rfl rfl rfl rfl ?_ | refine KD.noU rfl rfl rfl rfl rfl ?_ | refine KD.y0 rfl rfl rfl rfl (Val.loadP rfl rfl bySee) ?_ | refine KD.y0 rfl rfl rfl rfl (Val.loadP rfl rfl (Sees.more (by assumption) byPart)) ?_)
                  (first | refine KD.no rfl rfl rfl rfl rfl ?_ | refine KD.noU rfl rfl rfl rfl rfl ?_ | refine KD.y0 rfl rfl rfl rfl (Val.isT (Val.eql rfl rfl) byLt) ?_ | refine KD.y0 rfl rfl rfl rfl (Val.isF (Val.eql rfl rfl) byLt) ?_ | refine KD.y0 rfl rfl rfl rfl (Val.eql rfl rfl) ?_)
                  (first | refine KD.v0 rfl rfl (Val.pickT rfl rfl rfl) ?_ | refine KD.v0 rfl rfl (Val.pickF rfl rfl rfl) ?_ | refine KD.v0 rfl rfl (Val.pickB rfl rfl rfl) ?_)
                  refine KD.v0 rfl rfl (Val.neqB rfl rfl rfl) ?_
                  refine KD.nil ?_
                  refine KE.next ?_
                  refine K.condF rfl ?_
                  refine K.skip ?_
                  refine KE.blkN ?_
                  refine KE.next ?_
                  refine K.region ?_
                  (refine KL.v rfl (Val.move rfl) ?_)
                  (refine KL.v rfl (Val.add rfl rfl (by simp only [Go.Proofs.YtalholahapcpkaaGreatDoor.lo, Go.Proofs.YtalholahapcpkaaGreatDoor.hi]; omega)) ?_)
                  (refine KL.v rfl (Val.assign rfl) ?_)
                  refine KL.nil ?_
                  exact KE.again ⟨j + 1⟩ bySub byPart hjs (by show g.slots - (j + 1) < g.slots - j; omega)
                · rw [decide_eq_false hc2] at hhas
                  refine K.seq ?_
                  refine K.seq ?_
                  refine K.region ?_
                  (refine KL.v rfl (Val.move rfl) ?_)
                  (refine KL.v rfl (Val.fieldAddr0 (k := 18) rfl rfl) ?_)
                  (refine KL.v rfl (Val.loadP rfl rfl (Sees.cell byTake rfl)) ?_)
                  (refine KL.v rfl (Val.lenSl rfl rfl bySli) ?_)
                  (refine KL.v rfl (Val.isT (Val.lss rfl rfl) byLt) ?_)
                  refine KL.nil ?_
                  refine KE.next ?_
                  refine K.condT rfl ?_
                  refine K.skip ?_
                  refine KE.next ?_
                  refine K.seq ?_
                  refine K.block ?_
                  refine byCodeD ?_
                  (first | refine K.seq (K.drawn _ [(0, 0), (1, 0), (2, 0), (4, 1), (5, 1), (6, 1), (7, 1), (8, 1), (9, 1), (3, 2), (10, 0), (11, 0), (12, 0), (13, 0), (14, 0), (15, 0), (16, 0), (17, 0), (18, 0)] (by kernel_rfl) (by kernel_rfl) (by kernel_rfl) (by kernel_rfl) (by kernel_rfl) (by kernel_rfl) Part.all ?_) | refine K.seq (K.seq (K.drawn _ [(0, 0), (1, 0), (2, 0), (4, 1), (5, 1), (6, 1), (7, 1), (8, 1), (9, 1), (3, 2), (10, 0), (11, 0), (12, 0), (13, 0), (14, 0), (15, 0), (16, 0), (17, 0), (18, 0)] (by kernel_rfl) (by kernel_rfl) (by kernel_rfl) (by kernel_rfl) (by kernel_rfl) (by kernel_rfl) Part.all ?_)) | refine K.drawn _ [(0, 0), (1, 0), (2, 0), (4, 1), (5, 1), (6, 1), (7, 1), (8, 1), (9, 1), (3, 2), (10, 0), (11, 0), (12, 0), (13, 0), (14, 0), (15, 0), (16, 0), (17, 0), (18, 0)] (by kernel_rfl) (by kernel_rfl) (by kernel_rfl) (by kernel_rfl) (by kernel_rfl) (by kernel_rfl) Part.all ?_)
                  (first | refine KD.v0 rfl rfl (Val.fieldSl (k := 1) rfl rfl) ?_ | refine KD.v0 rfl rfl (Val.fieldAddr0 (k := 1) rfl rfl) ?_ | refine KD.v0 rfl rfl (Val.fieldAddrZ rfl rfl) ?_ | refine KD.v0 rfl rfl (Val.fieldAddr (k := 1) rfl rfl) ?_)
                  (first | refine KD.v0 rfl rfl (Val.loadP rfl rfl bySee) ?_ | refine KD.v0 rfl rfl (Val.loadP rfl rfl (Sees.more (by assumption) byPart)) ?_)
                  refine KD.v0 rfl rfl (Val.move rfl) ?_
                  (first | refine KD.v1 rfl rfl (Val.fieldSl (k := 5) rfl rfl) ?_ | refine KD.v1 rfl rfl (Val.fieldAddr0 (k := 5) rfl rfl) ?_ | refine KD.v1 rfl rfl (Val.fieldAddrZ rfl rfl) ?_ | refine KD.v1 rfl rfl (Val.fieldAddr (k := 5) rfl rfl) ?_)
                  (first | refine KD.v1 rfl rfl (Val.fieldSl (k := 5) rfl rfl) ?_ | refine KD.v1 rfl rfl (Val.fieldAddr0 (k := 5) rfl rfl) ?_ | refine KD.v1 rfl rfl (Val.fieldAddrZ rfl rfl) ?_ | refine KD.v1 rfl rfl (Val.fieldAddr (k := 5) rfl rfl) ?_)
                  (first | refine KD.v1 rfl rfl (Val.loadP rfl rfl bySee) ?_ | refine KD.v1 rfl rfl (Val.loadP rfl rfl (Sees.more (by assumption) byPart)) ?_)
                  refine KD.v1 rfl rfl (Val.move rfl) ?_
                  (first | refine KD.v1 rfl rfl (Val.idxSl rfl rfl rfl bySli rfl byLt) ?_ | refine KD.v1 rfl rfl (Val.idxSlZ rfl rfl rfl bySli rfl (by omega)) ?_ | refine KD.v1 rfl rfl (Val.indexS1 rfl rfl rfl rfl (by omega)) ?_ | refine KD.v1 rfl rfl (Val.indexS rfl rfl rfl rfl (by omega)) ?_ | refine KD.v1 rfl rfl (Val.indexSO rfl rfl rfl rfl (by omega)) ?_ | refine KD.v1 rfl rfl (Val.indexSG rfl rfl rfl rfl (by omega)) ?_)
                  (first | refine KD.v1 rfl rfl (Val.loadP rfl rfl bySee) ?_ | refine KD.v1 rfl rfl (Val.loadP rfl rfl (Sees.more (by assumption) byPart)) ?_)
                  refine KD.callc rfl rfl rfl byEvL fun T hT => ?_
                  refine (CallV.part (CallV.fn (hhas _)) byPart).mono ?_
                  rintro _ _ ⟨rfl, rfl⟩
                  refine hT _ _ byPart ?_; clear hT; clear T
                  refine KD.v0 rfl rfl (Val.move rfl) ?_
                  (first | refine KD.no rfl rfl rfl rfl rfl ?_ | refine KD.noU rfl rfl rfl rfl rfl ?_ | refine KD.y0 rfl rfl rfl rfl (Val.fieldSl (k := 18) rfl rfl) ?_ | refine KD.y0 rfl rfl rfl rfl (Val.fieldAddr0 (k := 18) rfl rfl) ?_ | refine KD.y0 rfl rfl rfl rfl (Val.fieldAddrZ rfl rfl) ?_ | refine KD.y0 rfl rfl rfl rfl (Val.fieldAddr (k := 18) rfl rfl) ?_)
                  (first | refine KD.no rfl rfl rfl rfl rfl ?_ | refine KD.noU rfl rfl rfl rfl rfl ?_ | refine KD.y0 rfl rfl rfl rfl (Val.loadP rfl rfl bySee) ?_ | refine KD.y0 rfl rfl rfl rfl (Val.loadP rfl rfl (Sees.more (by assumption) byPart)) ?_)
                  (first | refine KD.no rfl rfl rfl rfl rfl ?_ | refine KD.noU rfl rfl rfl rfl rfl ?_ | refine KD.y0 rfl rfl rfl rfl (Val.move rfl) ?_)
                  (first | refine KD.no rfl rfl rfl rfl rfl ?_ | refine KD.noU rfl rfl rfl rfl rfl ?_ | refine KD.y0 rfl rfl rfl rfl (Val.idxSl rfl rfl rfl bySli rfl byLt) ?_ | refine KD.y0 rfl rfl rfl rfl (Val.idxSlZ rfl rfl rfl bySli rfl (by omega)) ?_ | refine KD.y0 rfl rfl rfl rfl (Val.indexS1 rfl rfl rfl rfl (by omega)) ?_ | refine KD.y0 rfl rfl rfl rfl (Val.indexS rfl rfl rfl rfl (by omega)) ?_ | refine KD.y0 rfl rfl rfl rfl (Val.indexSO rfl rfl rfl rfl (by omega)) ?_ | refine KD.y0 rfl rfl rfl rfl (Val.indexSG rfl rfl rfl rfl (by omega)) ?_)
                  (first | refine KD.no rfl rfl rfl rfl rfl ?_ | refine KD.noU rfl rfl rfl rfl rfl ?_ | refine KD.y0 rfl rfl rfl rfl (Val.loadP rfl rfl bySee) ?_ | refine KD.y0 rfl rfl rfl rfl (Val.loadP rfl rfl (Sees.more (by assumption) byPart)) ?_)
                  (first | refine KD.no rfl rfl rfl rfl rfl ?_ | refine KD.noU rfl rfl rfl rfl rfl ?_ | refine KD.y0 rfl rfl rfl rfl (Val.isT (Val.eql rfl rfl) byLt) ?_ | refine KD.y0 rfl rfl rfl rfl (Val.isF (Val.eql rfl rfl) byLt) ?_ | refine KD.y0 rfl rfl rfl rfl (Val.eql rfl rfl) ?_)
                  (first | refine KD.v0 rfl rfl (Val.pickT rfl rfl rfl) ?_ | refine KD.v0 rfl rfl (Val.pickF rfl rfl rfl) ?_ | refine KD.v0 rfl rfl (Val.pickB rfl rfl rfl) ?_)
                  refine KD.v0 rfl rfl (Val.neqB rfl rfl rfl) ?_
                  refine KD.nil ?_
                  refine KE.next ?_
                  refine K.condF rfl ?_
                  refine K.skip ?_
                  refine KE.blkN ?_
                  refine KE.next ?_
                  refine K.region ?_
                  (refine KL.v rfl (Val.move rfl) ?_)
                  (refine KL.v rfl (Val.add rfl rfl (by simp only [Go.Proofs.YtalholahapcpkaaGreatDoor.lo, Go.Proofs.YtalholahapcpkaaGreatDoor.hi]; omega)) ?_)
                  (refine KL.v rfl (Val.assign rfl) ?_)
                  refine KL.nil ?_
                  exact KE.again ⟨j + 1⟩ bySub byPart hjs (by show g.slots - (j + 1) < g.slots - j; omega)
            · have hjl : ¬ ((j : Nat) : Int) < (s1.C.length : Nat) := by omega
              refine K.seq ?_
              refine K.seq ?_
              refine K.region ?_
              (refine KL.v rfl (Val.move rfl) ?_)
              (refine KL.v rfl (Val.fieldAddr0 (k := 18) rfl rfl) ?_)
              (refine KL.v rfl (Val.loadP rfl rfl (Sees.cell byTake rfl)) ?_)
              (refine KL.v rfl (Val.lenSl rfl rfl bySli) ?_)
              (refine KL.v rfl (Val.isF (Val.lss rfl rfl) byLt) ?_)
              refine KL.nil ?_
              refine KE.next ?_
              refine K.condF rfl ?_
              refine K.exit ?_
              refine KE.passX ?_
              refine KE.passX ?_
              refine KE.blkX ?_
              refine KE.blkN ?_
              refine KE.next ?_
              refine K.region ?_
              (refine KL.v rfl (Val.move rfl) ?_)
              (refine KL.v rfl (Val.add rfl rfl (by simp only [Go.Proofs.YtalholahapcpkaaGreatDoor.lo, Go.Proofs.YtalholahapcpkaaGreatDoor.hi]; omega)) ?_)
              (refine KL.v rfl (Val.assign rfl) ?_)
              refine KL.nil ?_
              exact KE.again ⟨k + 1, W6, stopS g t⟩ bySub byPart ⟨hkt, hp6, hsm6, hag', rfl⟩ (by show 2 + times % 3 - (k + 1) < 2 + times % 3 - k; omega)
      · have hkt' : ¬ ((k : Nat) : Int) < 2 + ((times : Nat) : Int) % 3 := by omega
        refine K.seq ?_
        refine K.seq ?_
        refine K.region ?_
        (refine KL.v rfl (Val.move rfl) ?_)
        (refine KL.v rfl (Val.move rfl) ?_)
        (refine KL.v rfl (Val.remN rfl rfl (by omega)) ?_)
        (refine KL.v rfl (Val.conv rfl rfl rfl (by simp only [Go.Proofs.YtalholahapcpkaaGreatDoor.lo, Go.Proofs.YtalholahapcpkaaGreatDoor.hi]; omega)) ?_)
        (refine KL.v rfl (Val.add rfl rfl (by simp only [Go.Proofs.YtalholahapcpkaaGreatDoor.lo, Go.Proofs.YtalholahapcpkaaGreatDoor.hi]; omega)) ?_)
        (refine KL.v rfl (Val.isF (Val.lss rfl rfl) byLt) ?_)
        refine KL.nil ?_
        refine KE.next ?_
        refine K.condF rfl ?_
        refine K.exit ?_
        refine KE.passX ?_
        refine KE.passX ?_
        refine KE.blkX ?_
        refine KE.next ?_
        refine K.seq ?_
        refine K.region ?_
        (refine KL.callc rfl rfl byEvL fun T hT => ?_)
        refine (CallV.fn (hawake _)).mono ?_
        rintro _ _ ⟨rfl, rfl⟩
        refine hT _ _ ?_; clear hT; clear T
        (refine KL.v rfl (Val.assign rfl) ?_)
        refine KL.nil ?_
        refine KE.next ?_
        refine K.ret ?_
        exact KE.fin byMarks rfl byRes byPart ⟨rfl, rfl⟩
end Go.Proofs.YtalholahapcpkaaGreatDoor.Sw
