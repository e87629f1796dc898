/- Sweep: just what is white is freed. -/
import Derived.Test.YtalholahapcpkaaGreatDoorJ29
namespace Go.Proofs.YtalholahapcpkaaGreatDoor.Sw
open Go.RowKit
set_option linter.unusedVariables false
set_option linter.unusedSimpArgs false
set_option maxRecDepth 10000
structure LjA where
 i : Nat
 W : WoM
 s : SwP
structure LjB where
 k : Nat
 W : WoM
 s : SwP
structure LjC where
 n : Nat
 W : WoM
 t : SwP
structure LjD where
 i : Nat
structure LjE where
 i : Nat
structure LjF where
 k : Nat
theorem idx_get {bs : List Bool} {i : Nat} {z : Int} (h : (idxP bs)[i]? = some z) : ∃ k : Nat, z = (k : Nat) ∧ bs[k]? = some true := by
 have hm := List.mem_of_getElem? h
 unfold idxP at hm
 rw [List.mem_map] at hm
 obtain ⟨k, hk, rfl⟩ := hm
 rw [List.mem_filter] at hk
 obtain ⟨h1, h2⟩ := hk
 have hl := List.mem_range.1 h1
 refine ⟨k, rfl, ?_⟩
 rw [List.getElem?_eq_getElem hl] at h2 ⊢
 simpa using h2
theorem flat0 {R : List (List Int)} {x : List Int} (h : R[0]? = some x) {a : Nat} (ha : a < x.length) : R.flatten[a]? = x[a]? := by
 cases R with
 | nil => simp at h
 | cons y R =>
  simp at h
  subst h
  rw [List.flatten_cons, List.getElem?_append_left ha]
theorem flat_len0 {R R' : List (List Int)} {x y : List Int} (h : R[0]? = some x) (h' : R'[0]? = some y) (hl : x.length = y.length) (ht : R.tail = R'.tail) : R.flatten.length = R'.flatten.length ∧ x.length ≤ R.flatten.length := by
 cases R with
 | nil => simp at h
 | cons a R =>
  cases R' with
  | nil => simp at h'
  | cons b R' =>
   simp at h h' ht
   subst h h' ht
   simp [hl]
set_option maxHeartbeats 16000000 in
theorem sweepJust_K {w0 : World} {F : Heap} {c : Cfg} {vc vt vl : Value} {l : List ActP} (hG : Glob w0) (hR : CfgR w0 F c vc vt) (hC : Sli w0 [] iE vc c.cl) (hvc : vc.oneCell' = true) (hl : Sli w0 F actE vl l) (hlw : ∀ x ∈ l, x.w < 256) :
  Call Tryz.prog w0 3 [cfgV c vc vt, vl] F (fun r H' => r = .bool true ∧ H' = F) := by
 obtain ⟨okk, hokk⟩ : ∃ okk, okC c = okk := ⟨_, rfl⟩
 have hawake := fun A => awake_K (w0 := w0) (F := A) hG
 cases okk with
 | false =>
  have hno := fun A (hp : Part A F) => made_no (hR.part hp) hokk
  obtain ⟨cl, page, tn, workers, grey, gens⟩ := c
  simp only [cfgV, cfgL] at hno ⊢
  unfold wo0 at hno
  refine Call.enter2 (n := 219) (by kernel_rfl) Tryz.func3 rfl rfl rfl ?_
  refine K.seq (K.region ?_)
  refine KL.e rfl (Eff.box rfl rfl) ?_; rintro _ _ ⟨b2, rfl, rfl⟩
  refine KL.v rfl (Val.assign rfl) ?_
  refine KL.nil (KE.next (K.seq (K.region ?_)))
  refine KL.v rfl (Val.loadA rfl rfl rfl bySeeN) ?_
  refine KL.callc rfl rfl byEvL fun T hT => ?_
  refine (CallV.fn (hno _ byPart)).mono ?_
  rintro _ _ ⟨rfl, rfl⟩
  refine hT _ _ ?_; clear hT T
  refine KL.v rfl (Val.move rfl) ?_
  refine KL.v rfl (Val.extract rfl rfl) ?_
  refine KL.v rfl (Val.extract rfl rfl) ?_
  refine KL.e rfl (Eff.alloc rfl) ?_; rintro _ _ ⟨b5, rfl, rfl⟩
  refine KL.eN (Eff.storeAL rfl rfl rfl byTake byLay byOnes) ?_; rintro _ _ rfl
  refine KL.v rfl (Val.assign rfl) ?_
  refine KL.nil (KE.next (K.seq (K.seq (K.region ?_))))
  refine KL.v rfl (Val.move rfl) ?_
  refine KL.v rfl (Val.notF rfl) ?_
  refine KL.nil (KE.next (K.condT rfl (K.seq (K.region ?_))))
  refine KL.callc rfl rfl byEvL fun T hT => ?_
  refine (CallV.fn (hawake _)).mono ?_
  rintro _ _ ⟨rfl, rfl⟩
  refine hT _ _ ?_; clear hT T
  refine KL.v rfl (Val.assign rfl) ?_
  refine KL.nil (KE.next ?_)
  refine K.ret ?_
  refine KE.passR ?_
  exact KE.fin byMarks rfl byRes byPart ⟨rfl, rfl⟩
 | true =>
  have hmade := fun A (hp : Part A F) => made_K (Dc := []) (F := A) hG (hR.part hp) hokk hC hvc
  obtain ⟨cl, page, tn, workers, grey, gens⟩ := c
  simp only [cfgV, cfgL] at hmade ⊢
  clear hokk hR
  refine Call.enter2 (n := 219) (by kernel_rfl) Tryz.func3 rfl rfl rfl ?_
  refine K.seq (K.region ?_)
  refine KL.e rfl (Eff.box rfl rfl) ?_; rintro _ _ ⟨b2, rfl, rfl⟩
  refine KL.v rfl (Val.assign rfl) ?_
  refine KL.nil (KE.next (K.seq (K.region ?_)))
  refine KL.v rfl (Val.loadA rfl rfl rfl bySeeN) ?_
  refine KL.callc rfl rfl byEvL fun T hT => ?_
  refine (CallV.fn (hmade _ byPart)).mono ?_
  rintro _ _ ⟨W, ⟨s0, hs0, hg, hW, hK⟩, rfl, rfl⟩
  obtain ⟨q1, q2, q3, q4, q5, q6, q7, q8⟩ := hW.o
  have ha0 : s0.act = false := by rw [hs0]; rfl
  clear hs0 hg hmade
  obtain ⟨g, hg⟩ : ∃ g, W.B.p.g = g := ⟨_, rfl⟩
  unfold woL
  refine hT _ _ ?_; clear hT T
  refine KL.v rfl (Val.move rfl) ?_
  refine KL.v rfl (Val.extract rfl rfl) ?_
  refine KL.v rfl (Val.extract rfl rfl) ?_
  refine KL.e rfl (Eff.alloc rfl) ?_; rintro _ _ ⟨b5, rfl, rfl⟩
  refine KL.eN (Eff.storeAL rfl rfl rfl byTake byLay byOnes) ?_; rintro _ _ rfl
  refine KL.v rfl (Val.assign rfl) ?_
  refine KL.nil (KE.next (K.seq (K.seq (K.region ?_))))
  refine KL.v rfl (Val.move rfl) ?_
  refine KL.v rfl (Val.notT rfl) ?_
  refine KL.nil (KE.next (K.condF rfl (K.skip (KE.next ?_))))
  refine byCode ?_
  refine KL.v rfl (Val.assign rfl) ?_
  refine KL.nil (KE.next ?_)
  refine K.cutE (σ := LjA) [(5, _)] bySub (fun s kp_ => kp_) (fun s => woH s.W ++ ((b5, cells (woL s.W) 47) :: F)) (fun s => WoR w0 s.W s.s ∧ WoK w0 s.W s.s ∧ s.W.B.p.g = g ∧ s.s.act = false) ?_ ?_
  ·refine K.block ?_
   refine K.loopT (σ := LjA) [(1, _), (5, _)] (fun s kp_ => (7, .int .i64 (s.i : Nat)) :: kp_) (fun s => woH s.W ++ ((b5, cells (woL s.W) 47) :: F)) (fun s => s.i ≤ l.length ∧ WoR w0 s.W s.s ∧ WoK w0 s.W s.s ∧ s.W.B.p.g = g ∧ s.s.act = false) (fun s => l.length - s.i) (⟨0, W, s0⟩) bySub byPart (⟨Nat.zero_le _, hW, hK, hg, ha0⟩) ?_
   rintro ⟨i, W1, s1⟩ ⟨hi, hW1, hK1, hg1, ha1⟩
   dsimp only at hi hW1 hK1 hg1 ha1 ⊢
   clear q1 q2 q3 q4 q5 q6 q7 q8 hW hK ha0 hg
   obtain ⟨q1, q2, q3, q4, q5, q6, q7, q8⟩ := hW1.o
   by_cases hlt : i < l.length ∧ i < 60
   ·obtain ⟨h1, h2⟩ := hlt
    have h2' : ((i : Nat) : Int) < 60 := by omega
    obtain ⟨x, hx⟩ := get_of_lt h1
    have hxw := hlw x (List.mem_of_getElem? hx)
    have hdoes := fun A => does_K (w0 := w0) (F := A) (what := x.w) (n := x.n) hG hW1 hK1 hxw
    by_cases hx6 : x.w % 6 < 4
    ·unfold woL
     refine K.seq (K.seq (K.region ?_))
     refine KL.v rfl (Val.move rfl) ?_
     refine KL.v rfl (Val.move rfl) ?_
     refine KL.v rfl (Val.lenSl rfl rfl bySli) ?_
     refine KL.v rfl (Val.isT (Val.lss rfl rfl) byLt) ?_
     refine KL.v rfl (Val.move rfl) ?_
     refine KL.yes rfl rfl ?_; refine KL.v rfl (Val.move rfl) ?_
     refine KL.yes rfl rfl ?_; refine KL.v rfl (Val.isT (Val.lss rfl rfl) byLt) ?_
     refine KL.v rfl (Val.pickT rfl rfl rfl) ?_
     refine KL.nil (KE.next (K.condT rfl (K.skip (KE.next (K.seq (K.block (K.seq (K.region ?_))))))))
     refine KL.v rfl (Val.move rfl) ?_
     refine KL.v rfl (Val.move rfl) ?_
     refine KL.v rfl (Val.idxSl rfl rfl rfl bySli rfl byLt) ?_
     refine KL.v rfl (Val.fieldSl (k := 0) rfl rfl) ?_
     refine KL.v rfl (Val.loadP rfl rfl bySee) ?_
     refine KL.v rfl (Val.remN rfl rfl (by omega)) ?_
     refine KL.v rfl (Val.isT (Val.lss rfl rfl) byLt) ?_
     refine KL.nil (KE.next (K.condT rfl ?_))
     refine byCodeD ?_
     (first | refine K.seq (K.drawn ([]) [(0, 0), (1, 0), (2, 0), (3, 0), (4, 0), (5, 2), (6, 0), (7, 0), (8, 1), (9, 2)] (by kernel_rfl) (by kernel_rfl) (by kernel_rfl) (by kernel_rfl) (by kernel_rfl) (by kernel_rfl) byPart ?_) | refine K.seq (K.seq (K.drawn ([]) [(0, 0), (1, 0), (2, 0), (3, 0), (4, 0), (5, 2), (6, 0), (7, 0), (8, 1), (9, 2)] (by kernel_rfl) (by kernel_rfl) (by kernel_rfl) (by kernel_rfl) (by kernel_rfl) (by kernel_rfl) byPart ?_)) | refine K.drawn ([]) [(0, 0), (1, 0), (2, 0), (3, 0), (4, 0), (5, 2), (6, 0), (7, 0), (8, 1), (9, 2)] (by kernel_rfl) (by kernel_rfl) (by kernel_rfl) (by kernel_rfl) (by kernel_rfl) (by kernel_rfl) byPart ?_)
     (first | refine KD.v0 rfl rfl (Val.loadAP rfl rfl rfl bySeeA) ?_ | refine KD.v0 rfl rfl (Val.loadA rfl rfl rfl bySeeN) ?_)
     refine KD.v0 rfl rfl (Val.move rfl) ?_
     refine KD.v0 rfl rfl (Val.move rfl) ?_
     (first | refine KD.v0 rfl rfl (Val.idxSl rfl rfl rfl bySli rfl byLt) ?_ | refine KD.v0 rfl rfl (Val.idxSlZ rfl rfl rfl bySli rfl (by omega)) ?_ | refine KD.v0 rfl rfl (Val.indexS1 rfl rfl rfl rfl (by omega)) ?_ | refine KD.v0 rfl rfl (Val.indexS rfl rfl rfl rfl (by omega)) ?_ | refine KD.v0 rfl rfl (Val.indexSO rfl rfl rfl rfl (by omega)) ?_ | refine KD.v0 rfl rfl (Val.indexSG rfl rfl rfl rfl (by omega)) ?_)
     (first | refine KD.v0 rfl rfl (Val.loadAP rfl rfl rfl bySeeA) ?_ | refine KD.v0 rfl rfl (Val.loadA rfl rfl rfl bySeeN) ?_)
     refine KD.callc rfl rfl rfl byEvL fun T hT => ?_
     refine (CallV.part (CallV.fn (hdoes _)) byPart).mono ?_
     rintro _ _ ⟨W2, hW2, hK2, hg2, rfl, rfl⟩
     obtain ⟨r1, r2, r3, r4, r5, r6, r7, r8⟩ := hW2.o
     unfold woL
     refine hT _ _ byPart ?_; clear hT T
     refine KD.v0 rfl rfl (Val.move rfl) ?_
     refine KD.v0 rfl rfl (Val.extract rfl rfl) ?_
     refine KD.v1 rfl rfl (Val.extract rfl rfl) ?_
     (first | (refine KD.eN rfl (Eff.storeAL rfl rfl rfl byTake byLay byOnes) ?_; rintro _ _ rfl; refine ⟨byPart, ?_⟩) | (refine KD.eN rfl (Eff.stSlA rfl rfl rfl rfl byTakeL (by assumption) (by assumption)) ?_; rintro _ _ rfl; refine ⟨byPart, ?_⟩))
     refine KD.nil ?_
     refine KE.blkN ?_
     refine KE.next (K.region ?_)
     refine KL.v rfl (Val.move rfl) ?_
     refine KL.v rfl (Val.add rfl rfl (by simp only [Go.Proofs.YtalholahapcpkaaGreatDoor.lo, Go.Proofs.YtalholahapcpkaaGreatDoor.hi]; omega)) ?_
     refine KL.v rfl (Val.assign rfl) ?_
     refine KL.nil ?_
     exact KE.again ⟨i + 1, W2, _⟩ bySub byPart ⟨h1, hW2, hK2, hg2.trans hg1, actS_act.trans ha1⟩ (by show l.length - (i + 1) < l.length - i; omega)
    ·unfold woL
     refine K.seq (K.seq (K.region ?_))
     refine KL.v rfl (Val.move rfl) ?_
     refine KL.v rfl (Val.move rfl) ?_
     refine KL.v rfl (Val.lenSl rfl rfl bySli) ?_
     refine KL.v rfl (Val.isT (Val.lss rfl rfl) byLt) ?_
     refine KL.v rfl (Val.move rfl) ?_
     refine KL.yes rfl rfl ?_; refine KL.v rfl (Val.move rfl) ?_
     refine KL.yes rfl rfl ?_; refine KL.v rfl (Val.isT (Val.lss rfl rfl) byLt) ?_
     refine KL.v rfl (Val.pickT rfl rfl rfl) ?_
     refine KL.nil (KE.next (K.condT rfl (K.skip (KE.next (K.seq (K.block (K.seq (K.region ?_))))))))
     refine KL.v rfl (Val.move rfl) ?_
     refine KL.v rfl (Val.move rfl) ?_
     refine KL.v rfl (Val.idxSl rfl rfl rfl bySli rfl byLt) ?_
     refine KL.v rfl (Val.fieldSl (k := 0) rfl rfl) ?_
     refine KL.v rfl (Val.loadP rfl rfl bySee) ?_
     refine KL.v rfl (Val.remN rfl rfl (by omega)) ?_
     refine KL.v rfl (Val.isF (Val.lss rfl rfl) byLt) ?_
     refine KL.nil (KE.next (K.condF rfl (K.skip ?_)))
     refine KE.blkN ?_
     refine KE.next (K.region ?_)
     refine KL.v rfl (Val.move rfl) ?_
     refine KL.v rfl (Val.add rfl rfl (by simp only [Go.Proofs.YtalholahapcpkaaGreatDoor.lo, Go.Proofs.YtalholahapcpkaaGreatDoor.hi]; omega)) ?_
     refine KL.v rfl (Val.assign rfl) ?_
     refine KL.nil ?_
     exact KE.again ⟨i + 1, W1, s1⟩ bySub byPart ⟨h1, hW1, hK1, hg1, ha1⟩ (by show l.length - (i + 1) < l.length - i; omega)
   ·by_cases h1 : i < l.length
    ·have h2 : ¬ ((i : Nat) : Int) < 60 := by omega
     clear hlt
     unfold woL
     refine K.seq (K.seq (K.region ?_))
     refine KL.v rfl (Val.move rfl) ?_
     refine KL.v rfl (Val.move rfl) ?_
     refine KL.v rfl (Val.lenSl rfl rfl bySli) ?_
     refine KL.v rfl (Val.isT (Val.lss rfl rfl) byLt) ?_
     refine KL.v rfl (Val.move rfl) ?_
     refine KL.yes rfl rfl ?_; refine KL.v rfl (Val.move rfl) ?_
     refine KL.yes rfl rfl ?_; refine KL.v rfl (Val.isF (Val.lss rfl rfl) byLt) ?_
     refine KL.v rfl (Val.pickT rfl rfl rfl) ?_
     refine KL.nil (KE.next (K.condF rfl ?_))
     refine K.exit ?_
     refine KE.passX ?_
     refine KE.passX ?_
     refine KE.blkX ?_
     exact KE.meet ⟨0, W1, s1⟩ bySub byPart ⟨hW1, hK1, hg1, ha1⟩
    ·clear hlt
     unfold woL
     refine K.seq (K.seq (K.region ?_))
     refine KL.v rfl (Val.move rfl) ?_
     refine KL.v rfl (Val.move rfl) ?_
     refine KL.v rfl (Val.lenSl rfl rfl bySli) ?_
     refine KL.v rfl (Val.isF (Val.lss rfl rfl) byLt) ?_
     refine KL.v rfl (Val.move rfl) ?_
     refine KL.skipG rfl rfl rfl ?_
     refine KL.skipG rfl rfl rfl ?_
     refine KL.v rfl (Val.pickF rfl rfl rfl) ?_
     refine KL.nil (KE.next (K.condF rfl ?_))
     refine K.exit ?_
     refine KE.passX ?_
     refine KE.passX ?_
     refine KE.blkX ?_
     exact KE.meet ⟨0, W1, s1⟩ bySub byPart ⟨hW1, hK1, hg1, ha1⟩
  ·rintro ⟨_, W1, s1⟩ ⟨hW1, hK1, hg1, ha1⟩
   dsimp only at hW1 hK1 hg1 ha1 ⊢
   clear q1 q2 q3 q4 q5 q6 q7 q8 hW hK ha0 hg
   obtain ⟨q1, q2, q3, q4, q5, q6, q7, q8⟩ := hW1.o
   unfold woL
   have hgs := hW1.bo.p.g.slots
   rw [hg1] at hgs
   have hplok : PlOk g := by have := hW1.bo.p.g; rw [hg1] at this; exact this
   have hok1 : SwOk g s1 := by have := hW1.ok; rw [hg1] at this; exact this
   have hAl := hok1.A
   have hCl := hok1.C
   have hall := fun A => wAll_K (w0 := w0) (F := A) hW1.p
   refine K.seq (K.region ?_)
   refine KL.v rfl (Val.fieldAddr0 (k := 0) rfl rfl) ?_
   refine KL.v rfl (Val.loadP rfl rfl (Sees.cell byTake rfl)) ?_
   refine KL.callc rfl rfl byEvL fun T hT => ?_
   refine (CallV.part (CallV.fn (hall _)) byPart).mono ?_
   rintro _ _ ⟨o1, ko1, rfl, rfl⟩
   have hstart := fun A => wStart_K (w0 := w0) (F := A) hW1.p ha1
   refine hT _ _ ?_; clear hT T
   refine KL.v rfl (Val.assign rfl) ?_
   refine KL.nil (KE.next (K.seq (K.seq (K.region ?_))))
   refine KL.v rfl (Val.fieldAddr0 (k := 4) rfl rfl) ?_
   refine KL.v rfl (Val.loadP rfl rfl (Sees.cell byTake rfl)) ?_
   refine KL.callc rfl rfl byEvL fun T hT => ?_
   refine (CallV.part (CallV.fn (hstart _)) byPart).mono ?_
   rintro _ _ ⟨rfl, W3, hp3, hsm3, _, _, _, _, _, _, _, _, rfl⟩
   have hr3 : Run g s1 0 (startS s1) := run_start hok1 ha1
   refine hT _ _ ?_; clear hT T
   refine KL.v rfl (Val.isF (Val.neq rfl rfl) byLt) ?_
   refine KL.nil (KE.next (K.condF rfl (K.skip (KE.next (K.seq (K.region ?_))))))
   refine KL.v rfl (Val.assign rfl) ?_
   refine KL.nil (KE.next (K.seq (K.block ?_)))
   refine K.loopT (σ := LjC) [(5, _), (8, _)] (fun s kp_ => (9, .int .i64 (s.n : Nat)) :: kp_) (fun s => woH s.W ++ (oH uE 64 s1.R.flatten o1 ++ ((b5, cells (woL W1) 47) :: F))) (fun s => s.n ≤ g.slots ∧ WpR s.W s.t ∧ Wsame W1 s.W ∧ Run g s1 s.n s.t) (fun s => g.slots + 1 - s.n) (⟨0, W3, startS s1⟩) bySub byPart (⟨Nat.zero_le _, hp3, hsm3, hr3⟩) ?_
   rintro ⟨n, W4, t⟩ ⟨hn, hp4, hsm4, hr4⟩
   dsimp only at hn hp4 hsm4 hr4 ⊢
   have hg4 : W4.B.p.g = g := hsm4.g.trans hg1
   have hok4 : SwOk g t := by have := hp4.ok; rw [hg4] at this; exact this
   have hD4 : Part (woH W4) W1.D := by rw [← hsm4.D]; unfold woH; exact byPart
   have hvC := hW1.dC.part hD4
   unfold woL
   by_cases hns : n < g.slots
   ·obtain ⟨t', ht', hr', hok'⟩ := run_ok hplok (startS_ok hok1) hr4 hok4 hns
    have hst := fun A => wStep_K (w0 := w0) (F := A) hp4 (by rw [hg4]; exact ht') hr4.act (by rw [hg4, hr4.at_]; exact hns)
    simp only [hsm4.sp] at hst
    have hnl : ((n : Nat) : Int) ≤ (s1.C.length : Nat) := by omega
    refine K.seq (K.seq (K.region ?_))
    refine KL.v rfl (Val.fieldAddr0 (k := 4) rfl rfl) ?_
    refine KL.v rfl (Val.loadP rfl rfl (Sees.cell byTake rfl)) ?_
    refine KL.callc rfl rfl byEvL fun T hT => ?_
    refine (CallV.part (CallV.fn (hst _)) byPart).mono ?_
    rintro _ _ ⟨rfl, W5, hp5, hsm5, rfl⟩
    have hvC5 := hW1.dC.part (show Part (woH W5) W1.D by rw [← (hsm4.trans hsm5).D]; unfold woH; exact byPart)
    refine hT _ _ ?_; clear hT T
    refine KL.v rfl (Val.move rfl) ?_
    refine KL.yes rfl rfl ?_; refine KL.v rfl (Val.move rfl) ?_
    refine KL.yes rfl rfl ?_; refine KL.v rfl (Val.fieldAddr0 (k := 18) rfl rfl) ?_
    refine KL.yes rfl rfl ?_; refine KL.v rfl (Val.loadP rfl rfl (Sees.cell byTake rfl)) ?_
    refine KL.yes rfl rfl ?_; refine KL.v rfl (Val.lenSl rfl rfl bySli) ?_
    refine KL.yes rfl rfl ?_; refine KL.v rfl (Val.isT (Val.leq rfl rfl) byLt) ?_
    refine KL.v rfl (Val.pickT rfl rfl rfl) ?_
    refine KL.nil (KE.next (K.condT rfl (K.skip (KE.next (K.block (K.region ?_))))))
    refine KL.v rfl (Val.move rfl) ?_
    refine KL.v rfl (Val.add rfl rfl (by simp only [Go.Proofs.YtalholahapcpkaaGreatDoor.lo, Go.Proofs.YtalholahapcpkaaGreatDoor.hi]; omega)) ?_
    refine KL.v rfl (Val.assign rfl) ?_
    refine KL.nil ?_
    refine KE.blkN ?_
    exact KE.again ⟨n + 1, W5, t'⟩ bySub byPart ⟨hns, hp5, hsm4.trans hsm5, hr'⟩ (by show g.slots + 1 - (n + 1) < g.slots + 1 - n; omega)
   ·have hnn : n = g.slots := by omega
    subst hnn
    have hend := fun A => step_mod (w0 := w0) (F := A) hp4 (by rw [hg4, hr4.at_]; rintro ⟨_, h⟩; omega)
    simp only [hsm4.sp] at hend
    have hdo := fun A => wDoomed_K (w0 := w0) (F := A) hG hp4
    simp only [hsm4.sp] at hdo
    have hib := idxP_len t.D
    have hDl := hok4.D
    refine K.seq (K.seq (K.region ?_))
    refine KL.v rfl (Val.fieldAddr0 (k := 4) rfl rfl) ?_
    refine KL.v rfl (Val.loadP rfl rfl (Sees.cell byTake rfl)) ?_
    refine KL.callc rfl rfl byEvL fun T hT => ?_
    refine (CallV.part (CallV.fn (hend _)) byPart).mono ?_
    rintro _ _ ⟨rfl, rfl⟩
    refine hT _ _ ?_; clear hT T
    refine KL.v rfl (Val.move rfl) ?_
    refine KL.skipG rfl rfl rfl ?_
    refine KL.skipG rfl rfl rfl ?_
    refine KL.skipG rfl rfl rfl ?_
    refine KL.skipG rfl rfl rfl ?_
    refine KL.skipG rfl rfl rfl ?_
    refine KL.v rfl (Val.pickF rfl rfl rfl) ?_
    refine KL.nil (KE.next (K.condF rfl ?_))
    refine K.exit ?_
    refine KE.passX ?_
    refine KE.passX ?_
    refine KE.blkX ?_
    refine KE.next (K.seq (K.region ?_))
    refine KL.v rfl (Val.fieldAddr0 (k := 4) rfl rfl) ?_
    refine KL.v rfl (Val.loadP rfl rfl (Sees.cell byTake rfl)) ?_
    refine KL.callc rfl rfl byEvL fun T hT => ?_
    refine (CallV.part (CallV.fn (hdo _)) byPart).mono ?_
    rintro _ _ ⟨o2, ko2, rfl, rfl⟩
    refine hT _ _ ?_; clear hT T
    refine KL.v rfl (Val.assign rfl) ?_
    refine KL.nil (KE.next (K.seq (K.seq (K.region ?_))))
    refine KL.v rfl (Val.assign rfl) ?_
    refine KL.nil (KE.next (K.block ?_))
    refine K.loopT (σ := LjD) [(5, _), (8, _), (9, _), (10, _)] (fun s kp_ => (11, .int .i64 (s.i : Nat)) :: kp_) (fun s => woH W4 ++ (oH iE 3 (idxP t.D) o2 ++ (oH uE 64 s1.R.flatten o1 ++ ((b5, cells (woL W1) 47) :: F)))) (fun s => s.i ≤ (idxP t.D).length) (fun s => (idxP t.D).length - s.i) (⟨0⟩) bySub byPart (Nat.zero_le _) ?_
    rintro ⟨i⟩ hi
    dsimp only at hi ⊢
    unfold woL
    by_cases his : i < (idxP t.D).length
    ·obtain ⟨z, hz⟩ := get_of_lt his
     obtain ⟨kz, rfl, hkz⟩ := idx_get hz
     have hkl : kz < g.slots := by have := lt_of_get hkz; omega
     have hget : getB t.A (kz : Nat) = true := by
      rw [getB_in, hr4.A]
      rw [hr4.D kz hkl] at hkz
      simp only [goneP, Option.some.injEq, Bool.and_eq_true] at hkz
      exact hkz.2.1
     have hhas := fun A => wHas_K (w0 := w0) (F := A) (i := (kz : Nat)) hp4
     simp only [hsm4.a, hget] at hhas
     refine K.seq (K.seq (K.region ?_))
     refine KL.v rfl (Val.move rfl) ?_
     refine KL.v rfl (Val.move rfl) ?_
     refine KL.v rfl (Val.lenSl rfl rfl (Sli.own byTakeL (by assumption) byLen)) ?_
     refine KL.v rfl (Val.isT (Val.lss rfl rfl) byLt) ?_
     refine KL.nil (KE.next (K.condT rfl (K.skip (KE.next (K.seq (K.block ?_))))))
     refine byCodeD ?_
     (first | refine K.seq (K.drawn _ [(0, 0), (1, 0), (2, 0), (3, 0), (4, 0), (5, 0), (6, 2), (7, 0)] (by kernel_rfl) (by kernel_rfl) (by kernel_rfl) (by kernel_rfl) (by kernel_rfl) (by kernel_rfl) Part.all ?_) | refine K.seq (K.seq (K.drawn _ [(0, 0), (1, 0), (2, 0), (3, 0), (4, 0), (5, 0), (6, 2), (7, 0)] (by kernel_rfl) (by kernel_rfl) (by kernel_rfl) (by kernel_rfl) (by kernel_rfl) (by kernel_rfl) Part.all ?_)) | refine K.drawn _ [(0, 0), (1, 0), (2, 0), (3, 0), (4, 0), (5, 0), (6, 2), (7, 0)] (by kernel_rfl) (by kernel_rfl) (by kernel_rfl) (by kernel_rfl) (by kernel_rfl) (by kernel_rfl) Part.all ?_)
     (first | refine KD.v0 rfl rfl (Val.fieldSl (k := 1) rfl rfl) ?_ | refine KD.v0 rfl rfl (Val.fieldAddr0 (k := 1) rfl rfl) ?_ | refine KD.v0 rfl rfl (Val.fieldAddrZ rfl rfl) ?_ | refine KD.v0 rfl rfl (Val.fieldAddr (k := 1) rfl rfl) ?_)
     (first | refine KD.v0 rfl rfl (Val.loadP rfl rfl bySee) ?_ | refine KD.v0 rfl rfl (Val.loadP rfl rfl (Sees.more (by assumption) byPart)) ?_)
     refine KD.v0 rfl rfl (Val.move rfl) ?_
     refine KD.v0 rfl rfl (Val.move rfl) ?_
     (first | refine KD.v0 rfl rfl (Val.idxSl rfl rfl rfl bySli rfl byLt) ?_ | refine KD.v0 rfl rfl (Val.idxSlZ rfl rfl rfl bySli rfl (by omega)) ?_ | refine KD.v0 rfl rfl (Val.indexS1 rfl rfl rfl rfl (by omega)) ?_ | refine KD.v0 rfl rfl (Val.indexS rfl rfl rfl rfl (by omega)) ?_ | refine KD.v0 rfl rfl (Val.indexSO rfl rfl rfl rfl (by omega)) ?_ | refine KD.v0 rfl rfl (Val.indexSG rfl rfl rfl rfl (by omega)) ?_)
     (first | refine KD.v0 rfl rfl (Val.loadP rfl rfl bySee) ?_ | refine KD.v0 rfl rfl (Val.loadP rfl rfl (Sees.more (by assumption) byPart)) ?_)
     refine KD.callc rfl rfl rfl byEvL fun T hT => ?_
     refine (CallV.part (CallV.fn (hhas _)) byPart).mono ?_
     rintro _ _ ⟨rfl, rfl⟩
     refine hT _ _ byPart ?_; clear hT T
     (first | refine KD.v0 rfl rfl (Val.notT rfl) ?_ | refine KD.v0 rfl rfl (Val.notF rfl) ?_ | refine KD.v0 rfl rfl (Val.not rfl) ?_ | refine KD.v0 rfl rfl (Val.notB rfl) ?_)
     refine KD.nil ?_
     refine KE.next (K.condF rfl (K.skip ?_))
     refine KE.blkN ?_
     refine KE.next (K.region ?_)
     refine KL.v rfl (Val.move rfl) ?_
     refine KL.v rfl (Val.add rfl rfl (by simp only [Go.Proofs.YtalholahapcpkaaGreatDoor.lo, Go.Proofs.YtalholahapcpkaaGreatDoor.hi]; omega)) ?_
     refine KL.v rfl (Val.assign rfl) ?_
     refine KL.nil ?_
     exact KE.again ⟨i + 1⟩ bySub byPart his (by show (idxP t.D).length - (i + 1) < (idxP t.D).length - i; omega)
    ·have hstop := fun A => wStop_K (w0 := w0) (F := A) hG hp4 hr4.act (by rw [hr4.at_, hg4])
     simp only [hsm4.sp, hg4, run_count hr4] at hstop
     refine K.seq (K.seq (K.region ?_))
     refine KL.v rfl (Val.move rfl) ?_
     refine KL.v rfl (Val.move rfl) ?_
     refine KL.v rfl (Val.lenSl rfl rfl (Sli.own byTakeL (by assumption) byLen)) ?_
     refine KL.v rfl (Val.isF (Val.lss rfl rfl) byLt) ?_
     refine KL.nil (KE.next (K.condF rfl ?_))
     refine K.exit ?_
     refine KE.passX ?_
     refine KE.passX ?_
     refine KE.blkX ?_
     refine KE.next (K.seq (K.region ?_))
     refine KL.v rfl (Val.fieldAddr0 (k := 4) rfl rfl) ?_
     refine KL.v rfl (Val.loadP rfl rfl (Sees.cell byTake rfl)) ?_
     refine KL.callc rfl rfl byEvL fun T hT => ?_
     refine (CallV.part (CallV.fn (hstop _)) byPart).mono ?_
     rintro _ _ ⟨rfl, W6, hp6, hsm6', _, _, _, _, _, rfl⟩
     have hsm6 := hsm4.trans hsm6'
     have hg6 : W6.B.p.g = g := hsm6.g.trans hg1
     have hal6 := fun A => wAll_K (w0 := w0) (F := A) hp6
     simp only [hsm6.m, show (stopS g t).R = t.R from rfl] at hal6
     have hD6 : Part (woH W6) W1.D := by rw [← hsm6.D]; unfold woH; exact byPart
     have hvC6 := hW1.dC.part hD6
     have hvA6 := hW1.dA.a.part hD6
     have hvL6 : Sli w0 (woH W6) slE W1.v.L g.L := by have h := hW1.dA.p.L.part hD6; rw [hg1] at h; exact h
     obtain ⟨hrs1, hrs2⟩ := run_stop hok1 hr4
     have hsx := hok1.x
     have hLl := L_len (g := g)
     clear hvC
     refine hT _ _ ?_; clear hT T
     refine KL.v rfl (Val.move rfl) ?_
     refine KL.v rfl (Val.extract rfl rfl) ?_
     refine KL.v rfl (Val.extract rfl rfl) ?_
     refine KL.v rfl (Val.assign rfl) ?_
     refine KL.v rfl (Val.assign rfl) ?_
     refine KL.nil (KE.next (K.seq (K.region ?_)))
     refine KL.v rfl (Val.fieldAddr0 (k := 0) rfl rfl) ?_
     refine KL.v rfl (Val.loadP rfl rfl (Sees.cell byTake rfl)) ?_
     refine KL.callc rfl rfl byEvL fun T hT => ?_
     refine (CallV.part (CallV.fn (hal6 _)) byPart).mono ?_
     rintro _ _ ⟨o3, ko3, rfl, rfl⟩
     refine hT _ _ ?_; clear hT T
     refine KL.v rfl (Val.assign rfl) ?_
     refine KL.nil (KE.next (K.seq (K.region ?_)))
     refine KL.v rfl (Val.assign rfl) ?_
     refine KL.nil (KE.next (K.seq (K.seq (K.region ?_))))
     refine KL.v rfl (Val.assign rfl) ?_
     refine KL.nil (KE.next (K.block ?_))
     refine K.loopT (σ := LjE) [(5, _), (8, _), (9, _), (12, _), (13, _), (14, _)] (fun s kp_ => (16, .int .i64 (s.i : Nat)) :: (15, .int .i64 (manyP s1 s.i : Nat)) :: kp_) (fun s => woH W6 ++ (oH uE 64 t.R.flatten o3 ++ (oH uE 64 s1.R.flatten o1 ++ ((b5, cells (woL W1) 47) :: F)))) (fun s => s.i ≤ g.slots) (fun s => g.slots - s.i) (⟨0⟩) bySub byPart (Nat.zero_le _) ?_
     rintro ⟨i⟩ hi
     dsimp only at hi ⊢
     unfold woL
     have hml := many_le s1 i
     by_cases his' : i < g.slots
     ·have hil : ((i : Nat) : Int) < (s1.C.length : Nat) := by omega
      obtain ⟨a, hav⟩ := get_of_lt (l := s1.A) (k := i) (by omega)
      obtain ⟨cc, hcv⟩ := get_of_lt (l := s1.C) (k := i) (by omega)
      obtain ⟨y, hy⟩ := L_ex (g := g) (i := i) his'
      have hal := lt_of_get hav
      have hcl' := lt_of_get hcv
      have hyl := lt_of_get hy
      have hfit := hplok.fits hy
      have hww := hplok.words
      have hgone : goneP s1 i = (a && decide (cc = 0)) := by unfold goneP; rw [hav, hcv]; simp
      have hmn := many_next s1 i
      have hhas := fun A => wHas_K (w0 := w0) (F := A) (i := (i : Nat)) hp6
      have hget : getB (stopS g t).A (i : Nat) = (a && !(a && decide (cc = 0))) := by
       rw [getB_in]
       show ((giveAllP t.A t.D).2[i]?).getD false = _
       rw [hrs1]
       show ((lessL s1.A t.D)[i]?).getD false = _
       rw [hrs2 i his', hgone, hav]; rfl
      simp only [hsm6.a, hget] at hhas
      rw [hgone] at hmn
      obtain ⟨gb, hgb⟩ : ∃ gb, (a && decide (cc = 0)) = gb := ⟨_, rfl⟩
      obtain ⟨mn, hmnd⟩ : ∃ mn, manyP s1 (i + 1) = mn := ⟨_, rfl⟩
      rw [hgb] at hgone hget hhas hmn
      rw [hmnd] at hmn
      refine K.seq (K.seq (K.region ?_))
      refine KL.v rfl (Val.move rfl) ?_
      refine KL.v rfl (Val.fieldAddr0 (k := 18) rfl rfl) ?_
      refine KL.v rfl (Val.loadP rfl rfl (Sees.cell byTake rfl)) ?_
      refine KL.v rfl (Val.lenSl rfl rfl bySli) ?_
      refine KL.v rfl (Val.isT (Val.lss rfl rfl) byLt) ?_
      refine KL.nil (KE.next (K.condT rfl (K.skip (KE.next (K.seq (K.block ?_))))))
      refine K.cutT (σ := Unit) [(5, _), (8, _), (9, _), (12, _), (13, _), (14, _), (15, _), (16, _)] bySub (fun s kp_ => (17, .bool gb) :: kp_) (fun s => woH W6 ++ (oH uE 64 t.R.flatten o3 ++ (oH uE 64 s1.R.flatten o1 ++ ((b5, cells (woL W1) 47) :: F)))) (fun s => True) ?_ ?_
      ·unfold woL
       cases a with
       | false =>
        have hgf : gb = false := by rw [← hgb]; rfl
        rw [hgf]
        refine K.region ?_
        refine KL.v rfl (Val.fieldAddr0 (k := 5) rfl rfl) ?_
        refine KL.v rfl (Val.fieldAddr (k := 5) rfl rfl) ?_
        refine KL.v rfl (Val.loadP rfl rfl (Sees.cell byTake rfl)) ?_
        refine KL.v rfl (Val.move rfl) ?_
        refine KL.v rfl (Val.idxSl rfl rfl rfl bySli rfl byLt) ?_
        refine KL.v rfl (Val.loadP rfl rfl bySee) ?_
        refine KL.v rfl (Val.move rfl) ?_
        refine KL.skipG rfl rfl rfl ?_
        refine KL.skipG rfl rfl rfl ?_
        refine KL.skipG rfl rfl rfl ?_
        refine KL.skipG rfl rfl rfl ?_
        refine KL.skipG rfl rfl rfl ?_
        refine KL.skipG rfl rfl rfl ?_
        refine KL.v rfl (Val.pickF rfl rfl rfl) ?_
        refine KL.v rfl (Val.assign rfl) ?_
        refine KL.nil ?_
        exact KE.meet () bySub byPart trivial
       | true =>
        by_cases hc0 : cc = 0
        ·have hgf : gb = true := by rw [← hgb, decide_eq_true hc0]; rfl
         rw [hgf]
         refine K.region ?_
         refine KL.v rfl (Val.fieldAddr0 (k := 5) rfl rfl) ?_
         refine KL.v rfl (Val.fieldAddr (k := 5) rfl rfl) ?_
         refine KL.v rfl (Val.loadP rfl rfl (Sees.cell byTake rfl)) ?_
         refine KL.v rfl (Val.move rfl) ?_
         refine KL.v rfl (Val.idxSl rfl rfl rfl bySli rfl byLt) ?_
         refine KL.v rfl (Val.loadP rfl rfl bySee) ?_
         refine KL.v rfl (Val.move rfl) ?_
         refine KL.yes rfl rfl ?_; refine KL.v rfl (Val.fieldAddr0 (k := 18) rfl rfl) ?_
         refine KL.yes rfl rfl ?_; refine KL.v rfl (Val.loadP rfl rfl (Sees.cell byTake rfl)) ?_
         refine KL.yes rfl rfl ?_; refine KL.v rfl (Val.move rfl) ?_
         refine KL.yes rfl rfl ?_; refine KL.v rfl (Val.idxSl rfl rfl rfl bySli rfl byLt) ?_
         refine KL.yes rfl rfl ?_; refine KL.v rfl (Val.loadP rfl rfl bySee) ?_
         refine KL.yes rfl rfl ?_; refine KL.v rfl (Val.isT (Val.eql rfl rfl) byLt) ?_
         refine KL.v rfl (Val.pickT rfl rfl rfl) ?_
         refine KL.v rfl (Val.assign rfl) ?_
         refine KL.nil ?_
         exact KE.meet () bySub byPart trivial
        ·have hgf : gb = false := by rw [← hgb, decide_eq_false hc0]; rfl
         rw [hgf]
         refine K.region ?_
         refine KL.v rfl (Val.fieldAddr0 (k := 5) rfl rfl) ?_
         refine KL.v rfl (Val.fieldAddr (k := 5) rfl rfl) ?_
         refine KL.v rfl (Val.loadP rfl rfl (Sees.cell byTake rfl)) ?_
         refine KL.v rfl (Val.move rfl) ?_
         refine KL.v rfl (Val.idxSl rfl rfl rfl bySli rfl byLt) ?_
         refine KL.v rfl (Val.loadP rfl rfl bySee) ?_
         refine KL.v rfl (Val.move rfl) ?_
         refine KL.yes rfl rfl ?_; refine KL.v rfl (Val.fieldAddr0 (k := 18) rfl rfl) ?_
         refine KL.yes rfl rfl ?_; refine KL.v rfl (Val.loadP rfl rfl (Sees.cell byTake rfl)) ?_
         refine KL.yes rfl rfl ?_; refine KL.v rfl (Val.move rfl) ?_
         refine KL.yes rfl rfl ?_; refine KL.v rfl (Val.idxSl rfl rfl rfl bySli rfl byLt) ?_
         refine KL.yes rfl rfl ?_; refine KL.v rfl (Val.loadP rfl rfl bySee) ?_
         refine KL.yes rfl rfl ?_; refine KL.v rfl (Val.isF (Val.eql rfl rfl) byLt) ?_
         refine KL.v rfl (Val.pickT rfl rfl rfl) ?_
         refine KL.v rfl (Val.assign rfl) ?_
         refine KL.nil ?_
         exact KE.meet () bySub byPart trivial
      ·rintro ⟨⟩ _
       (try dsimp only)
       refine K.cutT (σ := Unit) [(5, _), (8, _), (9, _), (12, _), (13, _), (14, _), (15, _), (16, _), (17, _)] bySub (fun s kp_ => kp_) (fun s => woH W6 ++ (oH uE 64 t.R.flatten o3 ++ (oH uE 64 s1.R.flatten o1 ++ ((b5, cells (woL W1) 47) :: F)))) (fun s => True) ?_ ?_
       ·unfold woL
        cases a with
        | false =>
         have hgf : gb = false := by rw [← hgb]; rfl
         rw [hgf] at hhas ⊢
         simp only [Bool.false_and] at hhas
         refine byCodeD ?_
         (first | refine K.seq (K.drawn _ [(0, 0), (1, 0), (2, 0), (4, 1), (5, 1), (6, 1), (7, 1), (8, 1), (9, 1), (3, 2), (10, 0), (11, 0), (12, 0), (13, 0), (14, 0)] (by kernel_rfl) (by kernel_rfl) (by kernel_rfl) (by kernel_rfl) (by kernel_rfl) (by kernel_rfl) Part.all ?_) | refine K.seq (K.seq (K.drawn _ [(0, 0), (1, 0), (2, 0), (4, 1), (5, 1), (6, 1), (7, 1), (8, 1), (9, 1), (3, 2), (10, 0), (11, 0), (12, 0), (13, 0), (14, 0)] (by kernel_rfl) (by kernel_rfl) (by kernel_rfl) (by kernel_rfl) (by kernel_rfl) (by kernel_rfl) Part.all ?_)) | refine K.drawn _ [(0, 0), (1, 0), (2, 0), (4, 1), (5, 1), (6, 1), (7, 1), (8, 1), (9, 1), (3, 2), (10, 0), (11, 0), (12, 0), (13, 0), (14, 0)] (by kernel_rfl) (by kernel_rfl) (by kernel_rfl) (by kernel_rfl) (by kernel_rfl) (by kernel_rfl) Part.all ?_)
         (first | refine KD.v0 rfl rfl (Val.fieldSl (k := 1) rfl rfl) ?_ | refine KD.v0 rfl rfl (Val.fieldAddr0 (k := 1) rfl rfl) ?_ | refine KD.v0 rfl rfl (Val.fieldAddrZ rfl rfl) ?_ | refine KD.v0 rfl rfl (Val.fieldAddr (k := 1) rfl rfl) ?_)
         (first | refine KD.v0 rfl rfl (Val.loadP rfl rfl bySee) ?_ | refine KD.v0 rfl rfl (Val.loadP rfl rfl (Sees.more (by assumption) byPart)) ?_)
         refine KD.v0 rfl rfl (Val.move rfl) ?_
         (first | refine KD.v1 rfl rfl (Val.fieldSl (k := 5) rfl rfl) ?_ | refine KD.v1 rfl rfl (Val.fieldAddr0 (k := 5) rfl rfl) ?_ | refine KD.v1 rfl rfl (Val.fieldAddrZ rfl rfl) ?_ | refine KD.v1 rfl rfl (Val.fieldAddr (k := 5) rfl rfl) ?_)
         (first | refine KD.v1 rfl rfl (Val.fieldSl (k := 5) rfl rfl) ?_ | refine KD.v1 rfl rfl (Val.fieldAddr0 (k := 5) rfl rfl) ?_ | refine KD.v1 rfl rfl (Val.fieldAddrZ rfl rfl) ?_ | refine KD.v1 rfl rfl (Val.fieldAddr (k := 5) rfl rfl) ?_)
         (first | refine KD.v1 rfl rfl (Val.loadP rfl rfl bySee) ?_ | refine KD.v1 rfl rfl (Val.loadP rfl rfl (Sees.more (by assumption) byPart)) ?_)
         refine KD.v1 rfl rfl (Val.move rfl) ?_
         (first | refine KD.v1 rfl rfl (Val.idxSl rfl rfl rfl bySli rfl byLt) ?_ | refine KD.v1 rfl rfl (Val.idxSlZ rfl rfl rfl bySli rfl (by omega)) ?_ | refine KD.v1 rfl rfl (Val.indexS1 rfl rfl rfl rfl (by omega)) ?_ | refine KD.v1 rfl rfl (Val.indexS rfl rfl rfl rfl (by omega)) ?_ | refine KD.v1 rfl rfl (Val.indexSO rfl rfl rfl rfl (by omega)) ?_ | refine KD.v1 rfl rfl (Val.indexSG rfl rfl rfl rfl (by omega)) ?_)
         (first | refine KD.v1 rfl rfl (Val.loadP rfl rfl bySee) ?_ | refine KD.v1 rfl rfl (Val.loadP rfl rfl (Sees.more (by assumption) byPart)) ?_)
         refine KD.callc rfl rfl rfl byEvL fun T hT => ?_
         refine (CallV.part (CallV.fn (hhas _)) byPart).mono ?_
         rintro _ _ ⟨rfl, rfl⟩
         refine hT _ _ byPart ?_; clear hT T
         refine KD.v0 rfl rfl (Val.move rfl) ?_
         (first | refine KD.no rfl rfl rfl rfl rfl ?_ | refine KD.noU rfl rfl rfl rfl rfl ?_ | refine KD.y0 rfl rfl rfl rfl (Val.move rfl) ?_)
         (first | refine KD.no rfl rfl rfl rfl rfl ?_ | refine KD.noU rfl rfl rfl rfl rfl ?_ | refine KD.y0 rfl rfl rfl rfl (Val.notT rfl) ?_ | refine KD.y0 rfl rfl rfl rfl (Val.notF rfl) ?_ | refine KD.y0 rfl rfl rfl rfl (Val.not rfl) ?_ | refine KD.y0 rfl rfl rfl rfl (Val.notB rfl) ?_)
         (first | refine KD.v0 rfl rfl (Val.pickT rfl rfl rfl) ?_ | refine KD.v0 rfl rfl (Val.pickF rfl rfl rfl) ?_ | refine KD.v0 rfl rfl (Val.pickB rfl rfl rfl) ?_)
         refine KD.v0 rfl rfl (Val.neqB rfl rfl rfl) ?_
         refine KD.nil ?_
         refine KE.next (K.condF rfl (K.skip ?_))
         exact KE.meet () bySub byPart trivial
        | true =>
         cases gb with
         | false =>
          simp only [Bool.not_false, Bool.and_self] at hhas
          refine byCodeD ?_
          (first | refine K.seq (K.drawn _ [(0, 0), (1, 0), (2, 0), (4, 1), (5, 1), (6, 1), (7, 1), (8, 1), (9, 1), (3, 2), (10, 0), (11, 0), (12, 0), (13, 0), (14, 0)] (by kernel_rfl) (by kernel_rfl) (by kernel_rfl) (by kernel_rfl) (by kernel_rfl) (by kernel_rfl) Part.all ?_) | refine K.seq (K.seq (K.drawn _ [(0, 0), (1, 0), (2, 0), (4, 1), (5, 1), (6, 1), (7, 1), (8, 1), (9, 1), (3, 2), (10, 0), (11, 0), (12, 0), (13, 0), (14, 0)] (by kernel_rfl) (by kernel_rfl) (by kernel_rfl) (by kernel_rfl) (by kernel_rfl) (by kernel_rfl) Part.all ?_)) | refine K.drawn _ [(0, 0), (1, 0), (2, 0), (4, 1), (5, 1), (6, 1), (7, 1), (8, 1), (9, 1), (3, 2), (10, 0), (11, 0), (12, 0), (13, 0), (14, 0)] (by kernel_rfl) (by kernel_rfl) (by kernel_rfl) (by kernel_rfl) (by kernel_rfl) (by kernel_rfl) Part.all ?_)
          (first | refine KD.v0 rfl rfl (Val.fieldSl (k := 1) rfl rfl) ?_ | refine KD.v0 rfl rfl (Val.fieldAddr0 (k := 1) rfl rfl) ?_ | refine KD.v0 rfl rfl (Val.fieldAddrZ rfl rfl) ?_ | refine KD.v0 rfl rfl (Val.fieldAddr (k := 1) rfl rfl) ?_)
          (first | refine KD.v0 rfl rfl (Val.loadP rfl rfl bySee) ?_ | refine KD.v0 rfl rfl (Val.loadP rfl rfl (Sees.more (by assumption) byPart)) ?_)
          refine KD.v0 rfl rfl (Val.move rfl) ?_
          (first | refine KD.v1 rfl rfl (Val.fieldSl (k := 5) rfl rfl) ?_ | refine KD.v1 rfl rfl (Val.fieldAddr0 (k := 5) rfl rfl) ?_ | refine KD.v1 rfl rfl (Val.fieldAddrZ rfl rfl) ?_ | refine KD.v1 rfl rfl (Val.fieldAddr (k := 5) rfl rfl) ?_)
          (first | refine KD.v1 rfl rfl (Val.fieldSl (k := 5) rfl rfl) ?_ | refine KD.v1 rfl rfl (Val.fieldAddr0 (k := 5) rfl rfl) ?_ | refine KD.v1 rfl rfl (Val.fieldAddrZ rfl rfl) ?_ | refine KD.v1 rfl rfl (Val.fieldAddr (k := 5) rfl rfl) ?_)
          (first | refine KD.v1 rfl rfl (Val.loadP rfl rfl bySee) ?_ | refine KD.v1 rfl rfl (Val.loadP rfl rfl (Sees.more (by assumption) byPart)) ?_)
          refine KD.v1 rfl rfl (Val.move rfl) ?_
          (first | refine KD.v1 rfl rfl (Val.idxSl rfl rfl rfl bySli rfl byLt) ?_ | refine KD.v1 rfl rfl (Val.idxSlZ rfl rfl rfl bySli rfl (by omega)) ?_ | refine KD.v1 rfl rfl (Val.indexS1 rfl rfl rfl rfl (by omega)) ?_ | refine KD.v1 rfl rfl (Val.indexS rfl rfl rfl rfl (by omega)) ?_ | refine KD.v1 rfl rfl (Val.indexSO rfl rfl rfl rfl (by omega)) ?_ | refine KD.v1 rfl rfl (Val.indexSG rfl rfl rfl rfl (by omega)) ?_)
          (first | refine KD.v1 rfl rfl (Val.loadP rfl rfl bySee) ?_ | refine KD.v1 rfl rfl (Val.loadP rfl rfl (Sees.more (by assumption) byPart)) ?_)
          refine KD.callc rfl rfl rfl byEvL fun T hT => ?_
          refine (CallV.part (CallV.fn (hhas _)) byPart).mono ?_
          rintro _ _ ⟨rfl, rfl⟩
          refine hT _ _ byPart ?_; clear hT T
          refine KD.v0 rfl rfl (Val.move rfl) ?_
          (first | refine KD.no rfl rfl rfl rfl rfl ?_ | refine KD.noU rfl rfl rfl rfl rfl ?_ | refine KD.y0 rfl rfl rfl rfl (Val.move rfl) ?_)
          (first | refine KD.no rfl rfl rfl rfl rfl ?_ | refine KD.noU rfl rfl rfl rfl rfl ?_ | refine KD.y0 rfl rfl rfl rfl (Val.notT rfl) ?_ | refine KD.y0 rfl rfl rfl rfl (Val.notF rfl) ?_ | refine KD.y0 rfl rfl rfl rfl (Val.not rfl) ?_ | refine KD.y0 rfl rfl rfl rfl (Val.notB rfl) ?_)
          (first | refine KD.v0 rfl rfl (Val.pickT rfl rfl rfl) ?_ | refine KD.v0 rfl rfl (Val.pickF rfl rfl rfl) ?_ | refine KD.v0 rfl rfl (Val.pickB rfl rfl rfl) ?_)
          refine KD.v0 rfl rfl (Val.neqB rfl rfl rfl) ?_
          refine KD.nil ?_
          refine KE.next (K.condF rfl (K.skip ?_))
          exact KE.meet () bySub byPart trivial
         | true =>
          simp only [Bool.not_true, Bool.and_false] at hhas
          refine byCodeD ?_
          (first | refine K.seq (K.drawn _ [(0, 0), (1, 0), (2, 0), (4, 1), (5, 1), (6, 1), (7, 1), (8, 1), (9, 1), (3, 2), (10, 0), (11, 0), (12, 0), (13, 0), (14, 0)] (by kernel_rfl) (by kernel_rfl) (by kernel_rfl) (by kernel_rfl) (by kernel_rfl) (by kernel_rfl) Part.all ?_) | refine K.seq (K.seq (K.drawn _ [(0, 0), (1, 0), (2, 0), (4, 1), (5, 1), (6, 1), (7, 1), (8, 1), (9, 1), (3, 2), (10, 0), (11, 0), (12, 0), (13, 0), (14, 0)] (by kernel_rfl) (by kernel_rfl) (by kernel_rfl) (by kernel_rfl) (by kernel_rfl) (by kernel_rfl) Part.all ?_)) | refine K.drawn _ [(0, 0), (1, 0), (2, 0), (4, 1), (5, 1), (6, 1), (7, 1), (8, 1), (9, 1), (3, 2), (10, 0), (11, 0), (12, 0), (13, 0), (14, 0)] (by kernel_rfl) (by kernel_rfl) (by kernel_rfl) (by kernel_rfl) (by kernel_rfl) (by kernel_rfl) Part.all ?_)
          (first | refine KD.v0 rfl rfl (Val.fieldSl (k := 1) rfl rfl) ?_ | refine KD.v0 rfl rfl (Val.fieldAddr0 (k := 1) rfl rfl) ?_ | refine KD.v0 rfl rfl (Val.fieldAddrZ rfl rfl) ?_ | refine KD.v0 rfl rfl (Val.fieldAddr (k := 1) rfl rfl) ?_)
          (first | refine KD.v0 rfl rfl (Val.loadP rfl rfl bySee) ?_ | refine KD.v0 rfl rfl (Val.loadP rfl rfl (Sees.more (by assumption) byPart)) ?_)
          refine KD.v0 rfl rfl (Val.move rfl) ?_
          (first | refine KD.v1 rfl rfl (Val.fieldSl (k := 5) rfl rfl) ?_ | refine KD.v1 rfl rfl (Val.fieldAddr0 (k := 5) rfl rfl) ?_ | refine KD.v1 rfl rfl (Val.fieldAddrZ rfl rfl) ?_ | refine KD.v1 rfl rfl (Val.fieldAddr (k := 5) rfl rfl) ?_)
          (first | refine KD.v1 rfl rfl (Val.fieldSl (k := 5) rfl rfl) ?_ | refine KD.v1 rfl rfl (Val.fieldAddr0 (k := 5) rfl rfl) ?_ | refine KD.v1 rfl rfl (Val.fieldAddrZ rfl rfl) ?_ | refine KD.v1 rfl rfl (Val.fieldAddr (k := 5) rfl rfl) ?_)
          (first | refine KD.v1 rfl rfl (Val.loadP rfl rfl bySee) ?_ | refine KD.v1 rfl rfl (Val.loadP rfl rfl (Sees.more (by assumption) byPart)) ?_)
          refine KD.v1 rfl rfl (Val.move rfl) ?_
          (first | refine KD.v1 rfl rfl (Val.idxSl rfl rfl rfl bySli rfl byLt) ?_ | refine KD.v1 rfl rfl (Val.idxSlZ rfl rfl rfl bySli rfl (by omega)) ?_ | refine KD.v1 rfl rfl (Val.indexS1 rfl rfl rfl rfl (by omega)) ?_ | refine KD.v1 rfl rfl (Val.indexS rfl rfl rfl rfl (by omega)) ?_ | refine KD.v1 rfl rfl (Val.indexSO rfl rfl rfl rfl (by omega)) ?_ | refine KD.v1 rfl rfl (Val.indexSG rfl rfl rfl rfl (by omega)) ?_)
          (first | refine KD.v1 rfl rfl (Val.loadP rfl rfl bySee) ?_ | refine KD.v1 rfl rfl (Val.loadP rfl rfl (Sees.more (by assumption) byPart)) ?_)
          refine KD.callc rfl rfl rfl byEvL fun T hT => ?_
          refine (CallV.part (CallV.fn (hhas _)) byPart).mono ?_
          rintro _ _ ⟨rfl, rfl⟩
          refine hT _ _ byPart ?_; clear hT T
          refine KD.v0 rfl rfl (Val.move rfl) ?_
          (first | refine KD.no rfl rfl rfl rfl rfl ?_ | refine KD.noU rfl rfl rfl rfl rfl ?_ | refine KD.y0 rfl rfl rfl rfl (Val.move rfl) ?_)
          (first | refine KD.no rfl rfl rfl rfl rfl ?_ | refine KD.noU rfl rfl rfl rfl rfl ?_ | refine KD.y0 rfl rfl rfl rfl (Val.notT rfl) ?_ | refine KD.y0 rfl rfl rfl rfl (Val.notF rfl) ?_ | refine KD.y0 rfl rfl rfl rfl (Val.not rfl) ?_ | refine KD.y0 rfl rfl rfl rfl (Val.notB rfl) ?_)
          (first | refine KD.v0 rfl rfl (Val.pickT rfl rfl rfl) ?_ | refine KD.v0 rfl rfl (Val.pickF rfl rfl rfl) ?_ | refine KD.v0 rfl rfl (Val.pickB rfl rfl rfl) ?_)
          refine KD.v0 rfl rfl (Val.neqB rfl rfl rfl) ?_
          refine KD.nil ?_
          refine KE.next (K.condF rfl (K.skip ?_))
          exact KE.meet () bySub byPart trivial
       ·rintro ⟨⟩ _
        (try dsimp only)
        clear hhas hget hav hcv hgb
        skip
        refine K.cutT (σ := Unit) [(5, _), (8, _), (9, _), (12, _), (13, _), (14, _), (16, _)] bySub (fun s kp_ => (17, .bool gb) :: (15, .int .i64 (mn : Nat)) :: kp_) (fun s => woH W6 ++ (oH uE 64 t.R.flatten o3 ++ (oH uE 64 s1.R.flatten o1 ++ ((b5, cells (woL W1) 47) :: F)))) (fun s => True) ?_ ?_
        ·cases gb with
         | true =>
          simp only [if_true] at hmn
          rw [hmn]
          refine K.seq (K.region ?_)
          refine KL.v rfl (Val.move rfl) ?_
          refine KL.nil (KE.next (K.condT rfl (K.region ?_)))
          refine KL.v rfl (Val.move rfl) ?_
          refine KL.v rfl (Val.add rfl rfl (by simp only [Go.Proofs.YtalholahapcpkaaGreatDoor.lo, Go.Proofs.YtalholahapcpkaaGreatDoor.hi]; omega)) ?_
          refine KL.v rfl (Val.assign rfl) ?_
          refine KL.nil ?_
          exact KE.meet () bySub byPart trivial
         | false =>
          simp only [Bool.false_eq_true, if_false, Nat.add_zero] at hmn
          rw [hmn]
          refine K.seq (K.region ?_)
          refine KL.v rfl (Val.move rfl) ?_
          refine KL.nil (KE.next (K.condF rfl (K.skip ?_)))
          exact KE.meet () bySub byPart trivial
        ·rintro ⟨⟩ _
         (try dsimp only)
         rw [← hmnd]
         clear hmn hmnd
         unfold woL
         refine K.seq (K.region ?_)
         refine KL.v rfl (Val.assign rfl) ?_
         refine KL.nil (KE.next (K.block ?_))
         refine K.loopT (σ := LjF) [(5, _), (8, _), (9, _), (12, _), (13, _), (14, _), (15, _), (16, _), (17, _)] (fun s kp_ => (18, .int .i64 (s.k : Nat)) :: kp_) (fun s => woH W6 ++ (oH uE 64 t.R.flatten o3 ++ (oH uE 64 s1.R.flatten o1 ++ ((b5, cells (woL W1) 47) :: F)))) (fun s => s.k ≤ y.size) (fun s => y.size - s.k) (⟨0⟩) bySub byPart (Nat.zero_le _) ?_
         rintro ⟨k⟩ hk
         dsimp only at hk ⊢
         unfold woL
         by_cases hks : k < y.size
         ·have hai : ((y.addr : Nat) : Int) + ((k : Nat) : Int) = ((y.addr + k : Nat) : Int) := by omega
          obtain ⟨v2, hv2⟩ := get_of_lt (l := s1.x) (k := y.addr + k) (by omega)
          have hwas : s1.R.flatten[y.addr + k]? = some v2 := by rw [flat0 hok1.R (by omega)]; exact hv2
          have hnow' : t.R.flatten[y.addr + k]? = some (if gb = true then 0 else v2) := by
           rw [flat0 hr4.R (by rw [hr4.xl]; omega), hr4.x i y hy (y.addr + k) (by omega) (by omega), hgone]
           cases gb
           ·simp; exact hv2
           ·simp [his']
          have hwl := lt_of_get hwas
          cases gb with
          | false =>
           have hnow : t.R.flatten[y.addr + k]? = some v2 := hnow'
           clear hnow'
           have hnwl := lt_of_get hnow
           have hge1 : ¬ ((y.addr + k : Nat) : Int) ≥ ((t.R.flatten.length : Nat) : Int) := by omega
           have hge2 : ¬ ((y.addr + k : Nat) : Int) ≥ ((s1.R.flatten.length : Nat) : Int) := by omega
           refine K.seq (K.seq (K.region ?_))
           refine KL.v rfl (Val.move rfl) ?_
           refine KL.v rfl (Val.fieldAddr0 (k := 11) rfl rfl) ?_
           refine KL.v rfl (Val.fieldAddr (k := 2) rfl rfl) ?_
           refine KL.v rfl (Val.fieldAddrZ rfl rfl) ?_
           refine KL.v rfl (Val.loadP rfl rfl (Sees.cell byTake rfl)) ?_
           refine KL.v rfl (Val.move rfl) ?_
           refine KL.v rfl (Val.idxSl rfl rfl rfl bySli rfl byLt) ?_
           refine KL.v rfl (Val.fieldSl (k := 1) rfl rfl) ?_
           refine KL.v rfl (Val.loadP rfl rfl bySee) ?_
           refine KL.v rfl (Val.isT (Val.lss rfl rfl) byLt) ?_
           refine KL.nil (KE.next (K.condT rfl (K.skip (KE.next (K.seq (K.block (K.seq (K.region ?_))))))))
           refine KL.v rfl (Val.fieldAddr0 (k := 11) rfl rfl) ?_
           refine KL.v rfl (Val.fieldAddr (k := 2) rfl rfl) ?_
           refine KL.v rfl (Val.fieldAddrZ rfl rfl) ?_
           refine KL.v rfl (Val.loadP rfl rfl (Sees.cell byTake rfl)) ?_
           refine KL.v rfl (Val.move rfl) ?_
           refine KL.v rfl (Val.idxSl rfl rfl rfl bySli rfl byLt) ?_
           refine KL.v rfl (Val.fieldSl (k := 2) rfl rfl) ?_
           refine KL.v rfl (Val.loadP rfl rfl bySee) ?_
           refine KL.v rfl (Val.move rfl) ?_
           refine KL.v rfl (Val.add rfl rfl (by simp only [Go.Proofs.YtalholahapcpkaaGreatDoor.lo, Go.Proofs.YtalholahapcpkaaGreatDoor.hi]; omega)) ?_
           refine KL.v rfl (Val.assign rfl) ?_
           refine KL.nil (KE.next ?_)
           rw [hai]
           refine K.seq ?_
           refine K.drawn [] ((0, 0) :: (1, 0) :: (2, 0) :: (3, 0) :: (4, 0) :: (5, 0) :: (6, 0) :: (7, 0) :: (8, 0) :: (9, 0) :: (10, 0) :: (11, 0) :: (12, 0) :: (13, 0) :: (14, 0) :: (15, 0) :: (16, 0) :: (17, 0) :: (18, 0) :: (19, 0) :: (20, 0) :: (21, 0) :: (22, 0) :: (23, 0) :: (24, 0) :: (25, 0) :: (26, 0) :: (27, 0) :: (28, 0) :: (29, 0) :: (30, 0) :: (31, 0) :: (32, 0) :: (33, 0) :: (34, 0) :: []) (by kernel_rfl) (by kernel_rfl) (by kernel_rfl) (by kernel_rfl) (by kernel_rfl) (by kernel_rfl) Part.nil ?_
           refine KD.v0 rfl rfl (Val.move rfl) ?_
           refine KD.v0 rfl rfl (Val.move rfl) ?_
           refine KD.v0 rfl rfl (Val.lenSl rfl rfl (Sli.own byTakeL (by assumption) byLen)) ?_
           refine KD.v0 rfl rfl (Val.isF (Val.geq rfl rfl) byLt) ?_
           refine KD.v0 rfl rfl (Val.move rfl) ?_
           refine KD.y0 rfl rfl rfl rfl (Val.move rfl) ?_
           refine KD.y0 rfl rfl rfl rfl (Val.move rfl) ?_
           refine KD.y0 rfl rfl rfl rfl (Val.lenSl rfl rfl (Sli.own byTakeL (by assumption) byLen)) ?_
           refine KD.y0 rfl rfl rfl rfl (Val.isF (Val.geq rfl rfl) byLt) ?_
           refine KD.v0 rfl rfl (Val.pickF rfl rfl rfl) ?_
           refine KD.v0 rfl rfl (Val.move rfl) ?_
           refine KD.y0 rfl rfl rfl rfl (Val.move rfl) ?_
           refine KD.y0 rfl rfl rfl rfl (Val.move rfl) ?_
           refine KD.no rfl rfl rfl rfl rfl ?_
           refine KD.no rfl rfl rfl rfl rfl ?_
           refine KD.no rfl rfl rfl rfl rfl ?_
           refine KD.no rfl rfl rfl rfl rfl ?_
           refine KD.no rfl rfl rfl rfl rfl ?_
           refine KD.y0 rfl rfl rfl rfl (Val.pickF rfl rfl rfl) ?_
           refine KD.v0 rfl rfl (Val.pickF rfl rfl rfl) ?_
           refine KD.v0 rfl rfl (Val.move rfl) ?_
           refine KD.y0 rfl rfl rfl rfl (Val.move rfl) ?_
           refine KD.y0 rfl rfl rfl rfl (Val.notF rfl) ?_
           refine KD.y0 rfl rfl rfl rfl (Val.move rfl) ?_
           refine KD.y0 rfl rfl rfl rfl (Val.move rfl) ?_
           refine KD.y0 rfl rfl rfl rfl (Val.move rfl) ?_
           refine KD.y0 rfl rfl rfl rfl (Val.idxSl rfl rfl rfl (Sli.own byTakeL (by assumption) byLen) rfl byLt) ?_
           refine KD.y0 rfl rfl rfl rfl (Val.loadP rfl rfl (Sees.sl0 (Sli.own byTakeL (by assumption) byLen) (by assumption) rfl)) ?_
           refine KD.y0 rfl rfl rfl rfl (Val.move rfl) ?_
           refine KD.y0 rfl rfl rfl rfl (Val.move rfl) ?_
           refine KD.y0 rfl rfl rfl rfl (Val.idxSl rfl rfl rfl (Sli.own byTakeL (by assumption) byLen) rfl byLt) ?_
           refine KD.y0 rfl rfl rfl rfl (Val.loadP rfl rfl (Sees.sl0 (Sli.own byTakeL (by assumption) byLen) (by assumption) rfl)) ?_
           refine KD.y0 rfl rfl rfl rfl (Val.isF (Val.neq rfl rfl) byLt) ?_
           refine KD.y0 rfl rfl rfl rfl (Val.pickT rfl rfl rfl) ?_
           refine KD.v0 rfl rfl (Val.pickF rfl rfl rfl) ?_
           refine KD.nil ?_
           refine KE.next (K.condF rfl (K.skip ?_))
           refine KE.blkN ?_
           refine KE.next (K.region ?_)
           refine KL.v rfl (Val.move rfl) ?_
           refine KL.v rfl (Val.add rfl rfl (by simp only [Go.Proofs.YtalholahapcpkaaGreatDoor.lo, Go.Proofs.YtalholahapcpkaaGreatDoor.hi]; omega)) ?_
           refine KL.v rfl (Val.assign rfl) ?_
           refine KL.nil ?_
           exact KE.again ⟨k + 1⟩ bySub byPart hks (by show y.size - (k + 1) < y.size - k; omega)
          | true =>
           have hnow : t.R.flatten[y.addr + k]? = some 0 := hnow'
           clear hnow'
           have hnwl := lt_of_get hnow
           have hge1 : ¬ ((y.addr + k : Nat) : Int) ≥ ((t.R.flatten.length : Nat) : Int) := by omega
           have hge2 : ¬ ((y.addr + k : Nat) : Int) ≥ ((s1.R.flatten.length : Nat) : Int) := by omega
           refine K.seq (K.seq (K.region ?_))
           refine KL.v rfl (Val.move rfl) ?_
           refine KL.v rfl (Val.fieldAddr0 (k := 11) rfl rfl) ?_
           refine KL.v rfl (Val.fieldAddr (k := 2) rfl rfl) ?_
           refine KL.v rfl (Val.fieldAddrZ rfl rfl) ?_
           refine KL.v rfl (Val.loadP rfl rfl (Sees.cell byTake rfl)) ?_
           refine KL.v rfl (Val.move rfl) ?_
           refine KL.v rfl (Val.idxSl rfl rfl rfl bySli rfl byLt) ?_
           refine KL.v rfl (Val.fieldSl (k := 1) rfl rfl) ?_
           refine KL.v rfl (Val.loadP rfl rfl bySee) ?_
           refine KL.v rfl (Val.isT (Val.lss rfl rfl) byLt) ?_
           refine KL.nil (KE.next (K.condT rfl (K.skip (KE.next (K.seq (K.block (K.seq (K.region ?_))))))))
           refine KL.v rfl (Val.fieldAddr0 (k := 11) rfl rfl) ?_
           refine KL.v rfl (Val.fieldAddr (k := 2) rfl rfl) ?_
           refine KL.v rfl (Val.fieldAddrZ rfl rfl) ?_
           refine KL.v rfl (Val.loadP rfl rfl (Sees.cell byTake rfl)) ?_
           refine KL.v rfl (Val.move rfl) ?_
           refine KL.v rfl (Val.idxSl rfl rfl rfl bySli rfl byLt) ?_
           refine KL.v rfl (Val.fieldSl (k := 2) rfl rfl) ?_
           refine KL.v rfl (Val.loadP rfl rfl bySee) ?_
           refine KL.v rfl (Val.move rfl) ?_
           refine KL.v rfl (Val.add rfl rfl (by simp only [Go.Proofs.YtalholahapcpkaaGreatDoor.lo, Go.Proofs.YtalholahapcpkaaGreatDoor.hi]; omega)) ?_
           refine KL.v rfl (Val.assign rfl) ?_
           refine KL.nil (KE.next ?_)
           rw [hai]
           refine K.seq ?_
           refine K.drawn [] ((0, 0) :: (1, 0) :: (2, 0) :: (3, 0) :: (4, 0) :: (5, 0) :: (6, 0) :: (7, 0) :: (8, 0) :: (9, 0) :: (10, 0) :: (11, 0) :: (12, 0) :: (13, 0) :: (14, 0) :: (15, 0) :: (16, 0) :: (17, 0) :: (18, 0) :: (19, 0) :: (20, 0) :: (21, 0) :: (22, 0) :: (23, 0) :: (24, 0) :: (25, 0) :: (26, 0) :: (27, 0) :: (28, 0) :: (29, 0) :: (30, 0) :: (31, 0) :: (32, 0) :: (33, 0) :: (34, 0) :: []) (by kernel_rfl) (by kernel_rfl) (by kernel_rfl) (by kernel_rfl) (by kernel_rfl) (by kernel_rfl) Part.nil ?_
           refine KD.v0 rfl rfl (Val.move rfl) ?_
           refine KD.v0 rfl rfl (Val.move rfl) ?_
           refine KD.v0 rfl rfl (Val.lenSl rfl rfl (Sli.own byTakeL (by assumption) byLen)) ?_
           refine KD.v0 rfl rfl (Val.isF (Val.geq rfl rfl) byLt) ?_
           refine KD.v0 rfl rfl (Val.move rfl) ?_
           refine KD.y0 rfl rfl rfl rfl (Val.move rfl) ?_
           refine KD.y0 rfl rfl rfl rfl (Val.move rfl) ?_
           refine KD.y0 rfl rfl rfl rfl (Val.lenSl rfl rfl (Sli.own byTakeL (by assumption) byLen)) ?_
           refine KD.y0 rfl rfl rfl rfl (Val.isF (Val.geq rfl rfl) byLt) ?_
           refine KD.v0 rfl rfl (Val.pickF rfl rfl rfl) ?_
           refine KD.v0 rfl rfl (Val.move rfl) ?_
           refine KD.y0 rfl rfl rfl rfl (Val.move rfl) ?_
           refine KD.y0 rfl rfl rfl rfl (Val.move rfl) ?_
           refine KD.y0 rfl rfl rfl rfl (Val.move rfl) ?_
           refine KD.y0 rfl rfl rfl rfl (Val.move rfl) ?_
           refine KD.y0 rfl rfl rfl rfl (Val.idxSl rfl rfl rfl (Sli.own byTakeL (by assumption) byLen) rfl byLt) ?_
           refine KD.y0 rfl rfl rfl rfl (Val.loadP rfl rfl (Sees.sl0 (Sli.own byTakeL (by assumption) byLen) (by assumption) rfl)) ?_
           refine KD.y0 rfl rfl rfl rfl (Val.isF (Val.neq rfl rfl) byLt) ?_
           refine KD.y0 rfl rfl rfl rfl (Val.pickT rfl rfl rfl) ?_
           refine KD.v0 rfl rfl (Val.pickF rfl rfl rfl) ?_
           refine KD.v0 rfl rfl (Val.move rfl) ?_
           refine KD.y0 rfl rfl rfl rfl (Val.move rfl) ?_
           refine KD.y0 rfl rfl rfl rfl (Val.notT rfl) ?_
           refine KD.y0 rfl rfl rfl rfl (Val.move rfl) ?_
           refine KD.no rfl rfl rfl rfl rfl ?_
           refine KD.no rfl rfl rfl rfl rfl ?_
           refine KD.no rfl rfl rfl rfl rfl ?_
           refine KD.no rfl rfl rfl rfl rfl ?_
           refine KD.no rfl rfl rfl rfl rfl ?_
           refine KD.no rfl rfl rfl rfl rfl ?_
           refine KD.no rfl rfl rfl rfl rfl ?_
           refine KD.no rfl rfl rfl rfl rfl ?_
           refine KD.no rfl rfl rfl rfl rfl ?_
           refine KD.y0 rfl rfl rfl rfl (Val.pickF rfl rfl rfl) ?_
           refine KD.v0 rfl rfl (Val.pickF rfl rfl rfl) ?_
           refine KD.nil ?_
           refine KE.next (K.condF rfl (K.skip ?_))
           refine KE.blkN ?_
           refine KE.next (K.region ?_)
           refine KL.v rfl (Val.move rfl) ?_
           refine KL.v rfl (Val.add rfl rfl (by simp only [Go.Proofs.YtalholahapcpkaaGreatDoor.lo, Go.Proofs.YtalholahapcpkaaGreatDoor.hi]; omega)) ?_
           refine KL.v rfl (Val.assign rfl) ?_
           refine KL.nil ?_
           exact KE.again ⟨k + 1⟩ bySub byPart hks (by show y.size - (k + 1) < y.size - k; omega)
         ·refine K.seq ?_
          refine K.seq (K.region ?_)
          refine KL.v rfl (Val.move rfl) ?_
          refine KL.v rfl (Val.fieldAddr0 (k := 11) rfl rfl) ?_
          refine KL.v rfl (Val.fieldAddr (k := 2) rfl rfl) ?_
          refine KL.v rfl (Val.fieldAddrZ rfl rfl) ?_
          refine KL.v rfl (Val.loadP rfl rfl (Sees.cell byTake rfl)) ?_
          refine KL.v rfl (Val.move rfl) ?_
          refine KL.v rfl (Val.idxSl rfl rfl rfl bySli rfl byLt) ?_
          refine KL.v rfl (Val.fieldSl (k := 1) rfl rfl) ?_
          refine KL.v rfl (Val.loadP rfl rfl bySee) ?_
          refine KL.v rfl (Val.isF (Val.lss rfl rfl) byLt) ?_
          refine KL.nil (KE.next (K.condF rfl ?_))
          refine K.exit ?_
          refine KE.passX ?_
          refine KE.passX ?_
          refine KE.blkX ?_
          refine KE.blkN ?_
          refine KE.next (K.region ?_)
          refine KL.v rfl (Val.move rfl) ?_
          refine KL.v rfl (Val.add rfl rfl (by simp only [Go.Proofs.YtalholahapcpkaaGreatDoor.lo, Go.Proofs.YtalholahapcpkaaGreatDoor.hi]; omega)) ?_
          refine KL.v rfl (Val.assign rfl) ?_
          refine KL.nil ?_
          exact KE.again ⟨i + 1⟩ bySub byPart his' (by show g.slots - (i + 1) < g.slots - i; omega)
     ·have hil : ¬ ((i : Nat) : Int) < (s1.C.length : Nat) := by omega
      have hie : i = g.slots := by omega
      subst hie
      have hll : ((s1.R.flatten.length : Nat) : Int) = ((t.R.flatten.length : Nat) : Int) := by
       have := (flat_len0 hok1.R hr4.R (by rw [hr4.xl, hok1.x]) hr4.tl.symm).1
       omega
      refine K.seq (K.seq (K.region ?_))
      refine KL.v rfl (Val.move rfl) ?_
      refine KL.v rfl (Val.fieldAddr0 (k := 18) rfl rfl) ?_
      refine KL.v rfl (Val.loadP rfl rfl (Sees.cell byTake rfl)) ?_
      refine KL.v rfl (Val.lenSl rfl rfl bySli) ?_
      refine KL.v rfl (Val.isF (Val.lss rfl rfl) byLt) ?_
      refine KL.nil (KE.next (K.condF rfl ?_))
      refine K.exit ?_
      refine KE.passX ?_
      refine KE.passX ?_
      refine KE.blkX ?_
      refine KE.next (K.seq (K.region ?_))
      refine KL.v rfl (Val.move rfl) ?_
      refine KL.v rfl (Val.fieldAddr0 (k := 18) rfl rfl) ?_
      refine KL.v rfl (Val.loadP rfl rfl (Sees.cell byTake rfl)) ?_
      refine KL.v rfl (Val.lenSl rfl rfl bySli) ?_
      refine KL.v rfl (Val.isT (Val.eql rfl rfl) byLt) ?_
      refine KL.v rfl (Val.move rfl) ?_
      refine KL.yes rfl rfl ?_; refine KL.v rfl (Val.move rfl) ?_
      refine KL.yes rfl rfl ?_; refine KL.v rfl (Val.move rfl) ?_
      refine KL.yes rfl rfl ?_; refine KL.v rfl (Val.isT (Val.eql rfl rfl) byLt) ?_
      refine KL.v rfl (Val.pickT rfl rfl rfl) ?_
      refine KL.v rfl (Val.move rfl) ?_
      refine KL.yes rfl rfl ?_; refine KL.v rfl (Val.move rfl) ?_
      refine KL.yes rfl rfl ?_; refine KL.v rfl (Val.isT (Val.eql rfl rfl) byLt) ?_
      refine KL.v rfl (Val.pickT rfl rfl rfl) ?_
      refine KL.v rfl (Val.move rfl) ?_
      refine KL.yes rfl rfl ?_; refine KL.v rfl (Val.move rfl) ?_
      refine KL.yes rfl rfl ?_; refine KL.v rfl (Val.lenSl rfl rfl (Sli.own byTakeL (by assumption) byLen)) ?_
      refine KL.yes rfl rfl ?_; refine KL.v rfl (Val.move rfl) ?_
      refine KL.yes rfl rfl ?_; refine KL.v rfl (Val.lenSl rfl rfl (Sli.own byTakeL (by assumption) byLen)) ?_
      refine KL.yes rfl rfl ?_; refine KL.v rfl (Val.isT (Val.eql rfl rfl) byLt) ?_
      refine KL.v rfl (Val.pickT rfl rfl rfl) ?_
      refine KL.v rfl (Val.move rfl) ?_
      refine KL.yes rfl rfl ?_; refine KL.callc rfl rfl byEvL fun T hT => ?_
      refine (CallV.fn (hawake _)).mono ?_
      rintro _ _ ⟨rfl, rfl⟩
      refine hT _ _ ?_; clear hT T
      refine KL.v rfl (Val.pickT rfl rfl rfl) ?_
      refine KL.v rfl (Val.assign rfl) ?_
      refine KL.nil (KE.next ?_)
      refine K.ret ?_
      exact KE.fin byMarks rfl byRes byPart ⟨rfl, rfl⟩
end Go.Proofs.YtalholahapcpkaaGreatDoor.Sw
