/- The walker and the contracts that the law needs, part 27. -/
import Derived.Test.YtalholahapcpkaaGreatDoorJ24
import Derived.Test.YtalholahapcpkaaGreatDoorJ26
namespace Go.Proofs.YtalholahapcpkaaGreatDoor.Sw
open Go.Proofs.YtalholahapcpkaaGreatDoor renaming lo → qL, hi → qH
open Go.RowKit
set_option linter.unusedVariables false
set_option linter.unusedSimpArgs false
set_option maxRecDepth 10000
section
variable {w0 : World} {D F : Heap} {v : PlV} {vr : Value} {g : PlG} {R : List RwD} {t s : Nat} {x : List Int} {y : SlotP}
theorem rbfield_K {ref : Bool} {i : Int} (hB : BoD w0 D v vr g R) (hf : BoF g R t x) (hy : g.L[s]? = some y) :
  Call Tryz.prog w0 163 [.agg (boL v g vr t).toArray, .int .i64 (s : Nat), .int .i64 i, .bool ref] (D ++ F) (fun r H' => r = .int .i64 (fldP x y ref i) ∧ H' = D ++ F) := by
 have ho := hB.m.o
 have q1 := hB.p.oL
 have q2 := hB.p.oF
 have q3 := hB.p.oM
 have q4 := hB.p.oC
 have hhead := fun A => rbHead_K (w0 := w0) (D := D) (F := A) hB hf hy
 have hfl : fldP x y ref i = match headP x y with | none => 5 | some h => if 0 ≤ i ∧ i < h.r + h.w ∧ decide (i < h.r) = ref then 0 else 110 := rfl
 have hhm : ∀ h, headP x y = some h → mayH h = true := fun h e => (lies_of (headP_of e).2).1
 unfold headV at hhead
 unfold boL at *
 cases hh : headP x y with
 | none =>
  rw [hh] at hfl
  simp only [hh] at hhead
  dsimp only at hfl
  rw [hfl]
  unfold hdV at hhead
  dsimp only at hhead
  refine Call.enter4 (n := 35) (by kernel_rfl) Tryz.func163 rfl rfl rfl ?_
  refine K.seq (K.region ?_)
  refine KL.e rfl (Eff.box rfl rfl) ?_; rintro _ _ ⟨b4, rfl, rfl⟩
  refine KL.v rfl (Val.assign rfl) ?_
  refine KL.nil (KE.next (K.seq (K.region ?_)))
  refine KL.v rfl (Val.loadA rfl rfl rfl bySeeN) ?_
  refine KL.v rfl (Val.move rfl) ?_
  refine KL.callc rfl rfl byEvL fun T hT => ?_
  refine (CallV.part (CallV.fn (hhead _)) byPart).mono ?_
  rintro _ _ ⟨rfl, rfl⟩
  refine hT _ _ ?_; clear hT T
  refine KL.v rfl (Val.move rfl) ?_
  refine KL.v rfl (Val.extract rfl rfl) ?_
  refine KL.v rfl (Val.extract rfl rfl) ?_
  refine KL.e rfl (Eff.alloc rfl) ?_; rintro _ _ ⟨b9, rfl, rfl⟩
  refine KL.eN (Eff.storeAL rfl rfl rfl byTake byLay byOnes) ?_; rintro _ _ rfl
  refine KL.v rfl (Val.assign rfl) ?_
  refine KL.nil (KE.next (K.seq (K.seq (K.region ?_))))
  refine KL.v rfl (Val.move rfl) ?_
  refine KL.v rfl (Val.isT (Val.neq rfl rfl) byLt) ?_
  refine KL.nil (KE.next (K.condT rfl (K.seq (K.region ?_))))
  refine KL.v rfl (Val.move rfl) ?_
  refine KL.v rfl (Val.assign rfl) ?_
  refine KL.nil (KE.next ?_)
  refine K.ret ?_
  refine KE.passR ?_
  exact KE.fin byMarks rfl byRes byPart ⟨rfl, rfl⟩
 | some h =>
  rw [hh] at hfl
  simp only [hh] at hhead
  dsimp only at hfl
  have hm := hhm h hh
  have hF := fun A => rField_K (w0 := w0) (H := A) (h := h) (i := i)
  have hfd : fieldH h i = if i < 0 ∨ i ≥ h.r + h.w then (false, 110) else (decide (i < h.r), 0) := by unfold fieldH; rw [if_pos hm]
  obtain ⟨c, r, w⟩ := h
  unfold hdV at *
  dsimp only at *
  clear hhm
  by_cases h1 : i < 0 ∨ i ≥ r + w
  ·rw [if_pos h1] at hfd
   rw [if_neg (by omega)] at hfl
   simp only [hfd] at hF
   rw [hfl]
   refine Call.enter4 (n := 35) (by kernel_rfl) Tryz.func163 rfl rfl rfl ?_
   refine K.seq (K.region ?_)
   refine KL.e rfl (Eff.box rfl rfl) ?_; rintro _ _ ⟨b4, rfl, rfl⟩
   refine KL.v rfl (Val.assign rfl) ?_
   refine KL.nil (KE.next (K.seq (K.region ?_)))
   refine KL.v rfl (Val.loadA rfl rfl rfl bySeeN) ?_
   refine KL.v rfl (Val.move rfl) ?_
   refine KL.callc rfl rfl byEvL fun T hT => ?_
   refine (CallV.part (CallV.fn (hhead _)) byPart).mono ?_
   rintro _ _ ⟨rfl, rfl⟩
   refine hT _ _ ?_; clear hT T
   refine KL.v rfl (Val.move rfl) ?_
   refine KL.v rfl (Val.extract rfl rfl) ?_
   refine KL.v rfl (Val.extract rfl rfl) ?_
   refine KL.e rfl (Eff.alloc rfl) ?_; rintro _ _ ⟨b9, rfl, rfl⟩
   refine KL.eN (Eff.storeAL rfl rfl rfl byTake byLay byOnes) ?_; rintro _ _ rfl
   refine KL.v rfl (Val.assign rfl) ?_
   refine KL.nil (KE.next (K.seq (K.seq (K.region ?_))))
   refine KL.v rfl (Val.move rfl) ?_
   refine KL.v rfl (Val.isF (Val.neq rfl rfl) byLt) ?_
   refine KL.nil (KE.next (K.condF rfl (K.skip (KE.next (K.seq (K.region ?_))))))
   refine KL.v rfl (Val.loadA rfl rfl rfl bySeeN) ?_
   refine KL.v rfl (Val.move rfl) ?_
   refine KL.callc rfl rfl byEvL fun T hT => ?_
   refine (CallV.fn (hF _)).mono ?_
   rintro _ _ ⟨rfl, rfl⟩
   refine hT _ _ ?_; clear hT T
   refine KL.v rfl (Val.move rfl) ?_
   refine KL.v rfl (Val.extract rfl rfl) ?_
   refine KL.v rfl (Val.extract rfl rfl) ?_
   refine KL.v rfl (Val.assign rfl) ?_
   refine KL.v rfl (Val.assign rfl) ?_
   refine KL.nil (KE.next (K.seq (K.seq (K.region ?_))))
   refine KL.v rfl (Val.move rfl) ?_
   refine KL.v rfl (Val.isT (Val.neq rfl rfl) byLt) ?_
   refine KL.v rfl (Val.move rfl) ?_
   refine KL.skipG rfl rfl rfl ?_
   refine KL.skipG rfl rfl rfl ?_
   refine KL.skipG rfl rfl rfl ?_
   refine KL.v rfl (Val.pickT rfl rfl rfl) ?_
   refine KL.nil (KE.next (K.condT rfl (K.seq (K.region ?_))))
   refine KL.v rfl (Val.assign rfl) ?_
   refine KL.nil (KE.next ?_)
   refine K.ret ?_
   refine KE.passR ?_
   exact KE.fin byMarks rfl byRes byPart ⟨rfl, rfl⟩
  ·rw [if_neg h1] at hfd
   simp only [hfd] at hF
   by_cases h2 : decide (i < r) = ref
   ·rw [if_pos ⟨by omega, by omega, h2⟩] at hfl
    rw [hfl]
    subst h2
    have hbn : (decide (i < r) != decide (i < r)) = false := by simp
    refine Call.enter4 (n := 35) (by kernel_rfl) Tryz.func163 rfl rfl rfl ?_
    refine K.seq (K.region ?_)
    refine KL.e rfl (Eff.box rfl rfl) ?_; rintro _ _ ⟨b4, rfl, rfl⟩
    refine KL.v rfl (Val.assign rfl) ?_
    refine KL.nil (KE.next (K.seq (K.region ?_)))
    refine KL.v rfl (Val.loadA rfl rfl rfl bySeeN) ?_
    refine KL.v rfl (Val.move rfl) ?_
    refine KL.callc rfl rfl byEvL fun T hT => ?_
    refine (CallV.part (CallV.fn (hhead _)) byPart).mono ?_
    rintro _ _ ⟨rfl, rfl⟩
    refine hT _ _ ?_; clear hT T
    refine KL.v rfl (Val.move rfl) ?_
    refine KL.v rfl (Val.extract rfl rfl) ?_
    refine KL.v rfl (Val.extract rfl rfl) ?_
    refine KL.e rfl (Eff.alloc rfl) ?_; rintro _ _ ⟨b9, rfl, rfl⟩
    refine KL.eN (Eff.storeAL rfl rfl rfl byTake byLay byOnes) ?_; rintro _ _ rfl
    refine KL.v rfl (Val.assign rfl) ?_
    refine KL.nil (KE.next (K.seq (K.seq (K.region ?_))))
    refine KL.v rfl (Val.move rfl) ?_
    refine KL.v rfl (Val.isF (Val.neq rfl rfl) byLt) ?_
    refine KL.nil (KE.next (K.condF rfl (K.skip (KE.next (K.seq (K.region ?_))))))
    refine KL.v rfl (Val.loadA rfl rfl rfl bySeeN) ?_
    refine KL.v rfl (Val.move rfl) ?_
    refine KL.callc rfl rfl byEvL fun T hT => ?_
    refine (CallV.fn (hF _)).mono ?_
    rintro _ _ ⟨rfl, rfl⟩
    refine hT _ _ ?_; clear hT T
    refine KL.v rfl (Val.move rfl) ?_
    refine KL.v rfl (Val.extract rfl rfl) ?_
    refine KL.v rfl (Val.extract rfl rfl) ?_
    refine KL.v rfl (Val.assign rfl) ?_
    refine KL.v rfl (Val.assign rfl) ?_
    refine KL.nil (KE.next (K.seq (K.seq (K.region ?_))))
    refine KL.v rfl (Val.move rfl) ?_
    refine KL.v rfl (Val.isF (Val.neq rfl rfl) byLt) ?_
    refine KL.v rfl (Val.move rfl) ?_
    refine KL.yes rfl rfl ?_; refine KL.v rfl (Val.move rfl) ?_
    refine KL.yes rfl rfl ?_; refine KL.v rfl (Val.move rfl) ?_
    refine KL.yes rfl rfl ?_; refine KL.v rfl (Val.neqB rfl rfl rfl) ?_
    refine KL.v rfl (Val.pickF rfl rfl rfl) ?_
    refine KL.nil (KE.next ?_)
    rw [hbn]
    refine K.condF rfl (K.skip (KE.next (K.seq (K.region ?_))))
    refine KL.v rfl (Val.assign rfl) ?_
    refine KL.nil (KE.next ?_)
    refine K.ret ?_
    exact KE.fin byMarks rfl byRes byPart ⟨rfl, rfl⟩
   ·rw [if_neg (by intro h; exact h2 h.2.2)] at hfl
    rw [hfl]
    have hbn : (decide (i < r) != ref) = true := by
     cases hd : decide (i < r) <;> cases ref <;> simp_all
    refine Call.enter4 (n := 35) (by kernel_rfl) Tryz.func163 rfl rfl rfl ?_
    refine K.seq (K.region ?_)
    refine KL.e rfl (Eff.box rfl rfl) ?_; rintro _ _ ⟨b4, rfl, rfl⟩
    refine KL.v rfl (Val.assign rfl) ?_
    refine KL.nil (KE.next (K.seq (K.region ?_)))
    refine KL.v rfl (Val.loadA rfl rfl rfl bySeeN) ?_
    refine KL.v rfl (Val.move rfl) ?_
    refine KL.callc rfl rfl byEvL fun T hT => ?_
    refine (CallV.part (CallV.fn (hhead _)) byPart).mono ?_
    rintro _ _ ⟨rfl, rfl⟩
    refine hT _ _ ?_; clear hT T
    refine KL.v rfl (Val.move rfl) ?_
    refine KL.v rfl (Val.extract rfl rfl) ?_
    refine KL.v rfl (Val.extract rfl rfl) ?_
    refine KL.e rfl (Eff.alloc rfl) ?_; rintro _ _ ⟨b9, rfl, rfl⟩
    refine KL.eN (Eff.storeAL rfl rfl rfl byTake byLay byOnes) ?_; rintro _ _ rfl
    refine KL.v rfl (Val.assign rfl) ?_
    refine KL.nil (KE.next (K.seq (K.seq (K.region ?_))))
    refine KL.v rfl (Val.move rfl) ?_
    refine KL.v rfl (Val.isF (Val.neq rfl rfl) byLt) ?_
    refine KL.nil (KE.next (K.condF rfl (K.skip (KE.next (K.seq (K.region ?_))))))
    refine KL.v rfl (Val.loadA rfl rfl rfl bySeeN) ?_
    refine KL.v rfl (Val.move rfl) ?_
    refine KL.callc rfl rfl byEvL fun T hT => ?_
    refine (CallV.fn (hF _)).mono ?_
    rintro _ _ ⟨rfl, rfl⟩
    refine hT _ _ ?_; clear hT T
    refine KL.v rfl (Val.move rfl) ?_
    refine KL.v rfl (Val.extract rfl rfl) ?_
    refine KL.v rfl (Val.extract rfl rfl) ?_
    refine KL.v rfl (Val.assign rfl) ?_
    refine KL.v rfl (Val.assign rfl) ?_
    refine KL.nil (KE.next (K.seq (K.seq (K.region ?_))))
    refine KL.v rfl (Val.move rfl) ?_
    refine KL.v rfl (Val.isF (Val.neq rfl rfl) byLt) ?_
    refine KL.v rfl (Val.move rfl) ?_
    refine KL.yes rfl rfl ?_; refine KL.v rfl (Val.move rfl) ?_
    refine KL.yes rfl rfl ?_; refine KL.v rfl (Val.move rfl) ?_
    refine KL.yes rfl rfl ?_; refine KL.v rfl (Val.neqB rfl rfl rfl) ?_
    refine KL.v rfl (Val.pickF rfl rfl rfl) ?_
    refine KL.nil (KE.next ?_)
    rw [hbn]
    refine K.condT rfl (K.seq (K.region ?_))
    refine KL.v rfl (Val.assign rfl) ?_
    refine KL.nil (KE.next ?_)
    refine K.ret ?_
    refine KE.passR ?_
    exact KE.fin byMarks rfl byRes byPart ⟨rfl, rfl⟩
theorem rbSetWord_K {i w : Int} (hB : BoD w0 D v vr g R) (hf : BoF g R t x) (hy : g.L[s]? = some y) :
  Call Tryz.prog w0 73 [.agg (boL v g vr t).toArray, .int .i64 (s : Nat), .int .i64 i, .int .u64 w] (D ++ F) (fun r H' => ∃ (vr' : Value) (R' : List RwD) (N : Heap), BoD w0 (N ++ D) v vr' g R' ∧ rwX R' = (rwX R).set t (setWordP x y i w).2 ∧ r = .tuple [.agg (boL v g vr' t).toArray, .int .i64 (setWordP x y i w).1].toArray ∧ H' = N ++ (D ++ F)) := by
 have ho := hB.m.o
 have q1 := hB.p.oL
 have q2 := hB.p.oF
 have q3 := hB.p.oM
 have q4 := hB.p.oC
 have hself := hf.self
 have hfit := hf.ok.fits hy
 have hww := hf.ok.words
 have hlx := hf.l
 rw [setWord_def]
 dsimp only
 have hfld := fun A => rbfield_K (w0 := w0) (D := D) (F := A) (ref := false) (i := i) hB hf hy
 by_cases e : fldP x y false i = 0
 ·obtain ⟨p1, p2, p3⟩ := fld_in e
  have hi1 : (1 : Int) + i = ((1 + i.toNat : Nat) : Int) := by omega
  have hfa : y.addr + (1 + i.toNat) = fAt y i := by unfold fAt; omega
  have hst := fun A => rbstore_K (w0 := w0) (D := D) (F := A) (i := 1 + i.toNat) (w := w) hB hf hy (by omega)
  rw [hfa] at hst
  simp only [e] at hfld
  rw [if_pos e, e]
  unfold boL at *
  refine Call.enter4 (n := 25) (by kernel_rfl) Tryz.func73 rfl rfl rfl ?_
  refine K.seq (K.region ?_)
  refine KL.e rfl (Eff.box rfl rfl) ?_; rintro _ _ ⟨b4, rfl, rfl⟩
  refine KL.e rfl (Eff.alloc rfl) ?_; rintro _ _ ⟨b8, rfl, rfl⟩
  refine KL.v rfl (Val.assign rfl) ?_
  refine KL.nil (KE.next (K.seq (K.region ?_)))
  refine KL.v rfl (Val.loadA rfl rfl rfl bySeeN) ?_
  refine KL.v rfl (Val.move rfl) ?_
  refine KL.v rfl (Val.move rfl) ?_
  refine KL.callc rfl rfl byEvL fun T hT => ?_
  refine (CallV.part (CallV.fn (hfld _)) byPart).mono ?_
  rintro _ _ ⟨rfl, rfl⟩
  refine hT _ _ ?_; clear hT T
  refine KL.v rfl (Val.assign rfl) ?_
  refine KL.nil (KE.next (K.seq (K.seq (K.region ?_))))
  refine KL.v rfl (Val.move rfl) ?_
  refine KL.v rfl (Val.isF (Val.neq rfl rfl) byLt) ?_
  refine KL.nil (KE.next (K.condF rfl (K.skip (KE.next (K.seq (K.region ?_))))))
  refine KL.v rfl (Val.loadA rfl rfl rfl bySeeN) ?_
  refine KL.v rfl (Val.move rfl) ?_
  refine KL.v rfl (Val.move rfl) ?_
  refine KL.v rfl (Val.add rfl rfl (by simp only [qL, qH]; omega)) ?_
  refine KL.v rfl (Val.move rfl) ?_
  refine KL.callc rfl rfl byEvL fun T hT => ?_
  rw [hi1]
  refine (CallV.part (CallV.fn (hst _)) byPart).mono ?_
  rintro _ _ ⟨vr', R', N, hM', hX, rfl, rfl⟩
  have ho' := hM'.m.o
  refine hT _ _ ?_; clear hT T
  refine KL.eN (Eff.storeAL rfl rfl rfl byTake byLay byOnes) ?_; rintro _ _ rfl
  refine KL.v rfl (Val.assign rfl) ?_
  refine KL.nil (KE.next ?_)
  refine K.ret ?_
  exact KE.fin byMarks rfl byRes byPart ⟨vr', R', N, hM', hX, rfl, rfl⟩
 ·rw [if_neg e]
  have hne : fldP x y false i ≠ 0 := e
  obtain ⟨fe, hfe⟩ : ∃ fe, fe = fldP x y false i := ⟨_, rfl⟩
  simp only [← hfe] at hfld hne ⊢
  unfold boL at *
  refine Call.enter4 (n := 25) (by kernel_rfl) Tryz.func73 rfl rfl rfl ?_
  refine K.seq (K.region ?_)
  refine KL.e rfl (Eff.box rfl rfl) ?_; rintro _ _ ⟨b4, rfl, rfl⟩
  refine KL.e rfl (Eff.alloc rfl) ?_; rintro _ _ ⟨b8, rfl, rfl⟩
  refine KL.v rfl (Val.assign rfl) ?_
  refine KL.nil (KE.next (K.seq (K.region ?_)))
  refine KL.v rfl (Val.loadA rfl rfl rfl bySeeN) ?_
  refine KL.v rfl (Val.move rfl) ?_
  refine KL.v rfl (Val.move rfl) ?_
  refine KL.callc rfl rfl byEvL fun T hT => ?_
  refine (CallV.part (CallV.fn (hfld _)) byPart).mono ?_
  rintro _ _ ⟨rfl, rfl⟩
  refine hT _ _ ?_; clear hT T
  refine KL.v rfl (Val.assign rfl) ?_
  refine KL.nil (KE.next (K.seq (K.seq (K.region ?_))))
  refine KL.v rfl (Val.move rfl) ?_
  refine KL.v rfl (Val.isT (Val.neq rfl rfl) byLt) ?_
  refine KL.nil (KE.next (K.condT rfl (K.seq (K.region ?_))))
  refine KL.v rfl (Val.loadA rfl rfl rfl bySeeN) ?_
  refine KL.v rfl (Val.move rfl) ?_
  refine KL.eN (Eff.storeAL rfl rfl rfl byTake byLay byOnes) ?_; rintro _ _ rfl
  refine KL.v rfl (Val.assign rfl) ?_
  refine KL.nil (KE.next ?_)
  refine K.ret ?_
  refine KE.passR ?_
  exact KE.fin byMarks rfl byRes byPart ⟨vr, R, [], hB, hself, rfl, rfl⟩
theorem rbMake_K {h : HdP} (hB : BoD w0 D v vr g R) (hf : BoF g R t x) (hy : g.L[s]? = some y) :
  Call Tryz.prog w0 71 [.agg (boL v g vr t).toArray, .int .i64 (s : Nat), hdV h] (D ++ F) (fun r H' => ∃ (vr' : Value) (R' : List RwD) (N : Heap), BoD w0 (N ++ D) v vr' g R' ∧ rwX R' = (rwX R).set t (makeP x y h).2 ∧ r = .tuple [.agg (boL v g vr' t).toArray, .int .i64 (makeP x y h).1].toArray ∧ H' = N ++ (D ++ F)) := by
 have ho := hB.m.o
 have q1 := hB.p.oL
 have q2 := hB.p.oF
 have q3 := hB.p.oM
 have q4 := hB.p.oC
 have hself := hf.self
 have hfit := hf.ok.fits hy
 have hww := hf.ok.words
 have hlx := hf.l
 have hHas := fun A => rHas_K (w0 := w0) (D := D) (F := A) (n := (s : Nat)) hB.p hf.ok
 simp only [has_slot hy] at hHas
 have hhead := fun A => rbHead_K (w0 := w0) (D := D) (F := A) hB hf hy
 have hwipe := fun A => rbWipe_K (w0 := w0) (D := D) (F := A) hB hf hy
 have hlies := fun A => rblies_K (w0 := w0) (D := D) (F := A) (t := t) (h := h) hB hy
 have hput := fun A => rPut_K (w0 := w0) (H := A) (h := h)
 have hmk : makeP x y h = if liesP y h then (if (headP x y).isSome then (8, x) else (0, (wipeP x y).set y.addr (putW h))) else (2, x) := rfl
 have hpw : putW h = (putN h.c.toNat h.r.toNat h.w.toNat : Nat) := rfl
 have hlm := fun e => (lies_of (p := y) (h := h) e).1
 have hpp : mayH h = true → putP h = .tuple [.int .u64 (putW h), .int .i64 0].toArray := fun e => by unfold putP; rw [if_pos e]; rfl
 obtain ⟨pw, hpw'⟩ : ∃ pw, pw = putW h := ⟨_, rfl⟩
 rw [← hpw'] at hmk hpp
 obtain ⟨mk, hmk'⟩ : ∃ mk, mk = makeP x y h := ⟨_, rfl⟩
 rw [← hmk'] at hmk ⊢
 obtain ⟨li, hli⟩ : ∃ li, li = liesP y h := ⟨_, rfl⟩
 rw [← hli] at hmk hlm
 simp only [← hli] at hlies
 obtain ⟨c, r, w⟩ := h
 unfold hdV boL at *
 unfold plL at hHas
 dsimp only at *
 clear hpw hpw' hmk' hli
 cases li with
 | false =>
  simp only [Bool.false_eq_true, if_false] at hmk
  rw [hmk]
  dsimp only
  refine Call.enter3 (n := 49) (by kernel_rfl) Tryz.func71 rfl rfl rfl ?_
  refine K.seq (K.region ?_)
  refine KL.e rfl (Eff.box rfl rfl) ?_; rintro _ _ ⟨b3, rfl, rfl⟩
  refine KL.e rfl (Eff.box rfl rfl) ?_; rintro _ _ ⟨b5, rfl, rfl⟩
  refine KL.e rfl (Eff.alloc rfl) ?_; rintro _ _ ⟨b6, rfl, rfl⟩
  refine KL.v rfl (Val.assign rfl) ?_
  refine KL.nil (KE.next (K.seq (K.seq (K.region ?_))))
  refine KL.v rfl (Val.fieldAddr0 (k := 2) rfl rfl) ?_
  refine KL.v rfl (Val.loadA rfl rfl rfl bySeeN) ?_
  refine KL.v rfl (Val.move rfl) ?_
  refine KL.callc rfl rfl byEvL fun T hT => ?_
  refine (CallV.part (CallV.fn (hHas _)) byPart).mono ?_
  rintro _ _ ⟨rfl, rfl⟩
  refine hT _ _ ?_; clear hT T
  refine KL.v rfl (Val.notT rfl) ?_
  refine KL.v rfl (Val.move rfl) ?_
  refine KL.yes rfl rfl ?_; refine KL.v rfl (Val.loadA rfl rfl rfl bySeeN) ?_
  refine KL.yes rfl rfl ?_; refine KL.v rfl (Val.move rfl) ?_
  refine KL.yes rfl rfl ?_; refine KL.v rfl (Val.loadA rfl rfl rfl bySeeN) ?_
  refine KL.yes rfl rfl ?_; refine KL.callc rfl rfl byEvL fun T hT => ?_
  refine (CallV.part (CallV.fn (hlies _)) byPart).mono ?_
  rintro _ _ ⟨rfl, rfl⟩
  refine hT _ _ ?_; clear hT T
  refine KL.yes rfl rfl ?_; refine KL.v rfl (Val.notF rfl) ?_
  refine KL.v rfl (Val.pickF rfl rfl rfl) ?_
  refine KL.nil (KE.next (K.condT rfl (K.seq (K.region ?_))))
  refine KL.v rfl (Val.loadA rfl rfl rfl bySeeN) ?_
  refine KL.eN (Eff.storeAL rfl rfl rfl byTake byLay byOnes) ?_; rintro _ _ rfl
  refine KL.v rfl (Val.assign rfl) ?_
  refine KL.nil (KE.next ?_)
  refine K.ret ?_
  refine KE.passR ?_
  exact KE.fin byMarks rfl byRes byPart ⟨vr, R, [], hB, hself, rfl, rfl⟩
 | true =>
  simp only [if_true] at hmk
  unfold headV hdV at hhead
  cases hh : headP x y with
  | some h' =>
   rw [hh] at hmk
   simp only [hh] at hhead
   simp only [Option.isSome, if_true] at hmk
   obtain ⟨c', r', w'⟩ := h'
   dsimp only at hhead
   rw [hmk]
   dsimp only
   refine Call.enter3 (n := 49) (by kernel_rfl) Tryz.func71 rfl rfl rfl ?_
   refine K.seq (K.region ?_)
   refine KL.e rfl (Eff.box rfl rfl) ?_; rintro _ _ ⟨b3, rfl, rfl⟩
   refine KL.e rfl (Eff.box rfl rfl) ?_; rintro _ _ ⟨b5, rfl, rfl⟩
   refine KL.e rfl (Eff.alloc rfl) ?_; rintro _ _ ⟨b6, rfl, rfl⟩
   refine KL.v rfl (Val.assign rfl) ?_
   refine KL.nil (KE.next (K.seq (K.seq (K.region ?_))))
   refine KL.v rfl (Val.fieldAddr0 (k := 2) rfl rfl) ?_
   refine KL.v rfl (Val.loadA rfl rfl rfl bySeeN) ?_
   refine KL.v rfl (Val.move rfl) ?_
   refine KL.callc rfl rfl byEvL fun T hT => ?_
   refine (CallV.part (CallV.fn (hHas _)) byPart).mono ?_
   rintro _ _ ⟨rfl, rfl⟩
   refine hT _ _ ?_; clear hT T
   refine KL.v rfl (Val.notT rfl) ?_
   refine KL.v rfl (Val.move rfl) ?_
   refine KL.yes rfl rfl ?_; refine KL.v rfl (Val.loadA rfl rfl rfl bySeeN) ?_
   refine KL.yes rfl rfl ?_; refine KL.v rfl (Val.move rfl) ?_
   refine KL.yes rfl rfl ?_; refine KL.v rfl (Val.loadA rfl rfl rfl bySeeN) ?_
   refine KL.yes rfl rfl ?_; refine KL.callc rfl rfl byEvL fun T hT => ?_
   refine (CallV.part (CallV.fn (hlies _)) byPart).mono ?_
   rintro _ _ ⟨rfl, rfl⟩
   refine hT _ _ ?_; clear hT T
   refine KL.yes rfl rfl ?_; refine KL.v rfl (Val.notT rfl) ?_
   refine KL.v rfl (Val.pickF rfl rfl rfl) ?_
   refine KL.nil (KE.next (K.condF rfl (K.skip (KE.next (K.seq (K.region ?_))))))
   refine KL.v rfl (Val.loadA rfl rfl rfl bySeeN) ?_
   refine KL.v rfl (Val.move rfl) ?_
   refine KL.callc rfl rfl byEvL fun T hT => ?_
   refine (CallV.part (CallV.fn (hhead _)) byPart).mono ?_
   rintro _ _ ⟨rfl, rfl⟩
   refine hT _ _ ?_; clear hT T
   refine KL.v rfl (Val.move rfl) ?_
   refine KL.v rfl (Val.extract rfl rfl) ?_
   refine KL.v rfl (Val.extract rfl rfl) ?_
   refine KL.e rfl (Eff.alloc rfl) ?_; rintro _ _ ⟨b8, rfl, rfl⟩
   refine KL.eN (Eff.storeAL rfl rfl rfl byTake byLay byOnes) ?_; rintro _ _ rfl
   refine KL.v rfl (Val.assign rfl) ?_
   refine KL.nil (KE.next (K.seq (K.seq (K.region ?_))))
   refine KL.v rfl (Val.move rfl) ?_
   refine KL.v rfl (Val.isT (Val.eql rfl rfl) byLt) ?_
   refine KL.nil (KE.next (K.condT rfl (K.seq (K.region ?_))))
   refine KL.v rfl (Val.loadA rfl rfl rfl bySeeN) ?_
   refine KL.eN (Eff.storeAL rfl rfl rfl byTake byLay byOnes) ?_; rintro _ _ rfl
   refine KL.v rfl (Val.assign rfl) ?_
   refine KL.nil (KE.next ?_)
   refine K.ret ?_
   refine KE.passR ?_
   exact KE.fin byMarks rfl byRes byPart ⟨vr, R, [], hB, hself, rfl, rfl⟩
  | none =>
   rw [hh] at hmk
   simp only [hh] at hhead
   simp only [Option.isSome, Bool.false_eq_true, if_false] at hmk
   rw [hmk]
   dsimp only
   simp only [hpp (hlm rfl)] at hput
   refine Call.enter3 (n := 49) (by kernel_rfl) Tryz.func71 rfl rfl rfl ?_
   refine K.seq (K.region ?_)
   refine KL.e rfl (Eff.box rfl rfl) ?_; rintro _ _ ⟨b3, rfl, rfl⟩
   refine KL.e rfl (Eff.box rfl rfl) ?_; rintro _ _ ⟨b5, rfl, rfl⟩
   refine KL.e rfl (Eff.alloc rfl) ?_; rintro _ _ ⟨b6, rfl, rfl⟩
   refine KL.v rfl (Val.assign rfl) ?_
   refine KL.nil (KE.next (K.seq (K.seq (K.region ?_))))
   refine KL.v rfl (Val.fieldAddr0 (k := 2) rfl rfl) ?_
   refine KL.v rfl (Val.loadA rfl rfl rfl bySeeN) ?_
   refine KL.v rfl (Val.move rfl) ?_
   refine KL.callc rfl rfl byEvL fun T hT => ?_
   refine (CallV.part (CallV.fn (hHas _)) byPart).mono ?_
   rintro _ _ ⟨rfl, rfl⟩
   refine hT _ _ ?_; clear hT T
   refine KL.v rfl (Val.notT rfl) ?_
   refine KL.v rfl (Val.move rfl) ?_
   refine KL.yes rfl rfl ?_; refine KL.v rfl (Val.loadA rfl rfl rfl bySeeN) ?_
   refine KL.yes rfl rfl ?_; refine KL.v rfl (Val.move rfl) ?_
   refine KL.yes rfl rfl ?_; refine KL.v rfl (Val.loadA rfl rfl rfl bySeeN) ?_
   refine KL.yes rfl rfl ?_; refine KL.callc rfl rfl byEvL fun T hT => ?_
   refine (CallV.part (CallV.fn (hlies _)) byPart).mono ?_
   rintro _ _ ⟨rfl, rfl⟩
   refine hT _ _ ?_; clear hT T
   refine KL.yes rfl rfl ?_; refine KL.v rfl (Val.notT rfl) ?_
   refine KL.v rfl (Val.pickF rfl rfl rfl) ?_
   refine KL.nil (KE.next (K.condF rfl (K.skip (KE.next (K.seq (K.region ?_))))))
   refine KL.v rfl (Val.loadA rfl rfl rfl bySeeN) ?_
   refine KL.v rfl (Val.move rfl) ?_
   refine KL.callc rfl rfl byEvL fun T hT => ?_
   refine (CallV.part (CallV.fn (hhead _)) byPart).mono ?_
   rintro _ _ ⟨rfl, rfl⟩
   refine hT _ _ ?_; clear hT T
   refine KL.v rfl (Val.move rfl) ?_
   refine KL.v rfl (Val.extract rfl rfl) ?_
   refine KL.v rfl (Val.extract rfl rfl) ?_
   refine KL.e rfl (Eff.alloc rfl) ?_; rintro _ _ ⟨b8, rfl, rfl⟩
   refine KL.eN (Eff.storeAL rfl rfl rfl byTake byLay byOnes) ?_; rintro _ _ rfl
   refine KL.v rfl (Val.assign rfl) ?_
   refine KL.nil (KE.next (K.seq (K.seq (K.region ?_))))
   refine KL.v rfl (Val.move rfl) ?_
   refine KL.v rfl (Val.isF (Val.eql rfl rfl) byLt) ?_
   refine KL.nil (KE.next (K.condF rfl (K.skip (KE.next (K.seq (K.region ?_))))))
   refine KL.v rfl (Val.loadA rfl rfl rfl bySeeN) ?_
   refine KL.callc rfl rfl byEvL fun T hT => ?_
   refine (CallV.fn (hput _)).mono ?_
   rintro _ _ ⟨rfl, rfl⟩
   refine hT _ _ ?_; clear hT T
   refine KL.v rfl (Val.move rfl) ?_
   refine KL.v rfl (Val.extract rfl rfl) ?_
   refine KL.v rfl (Val.extract rfl rfl) ?_
   refine KL.v rfl (Val.assign rfl) ?_
   refine KL.v rfl (Val.assign rfl) ?_
   refine KL.nil (KE.next (K.seq (K.region ?_)))
   refine KL.v rfl (Val.loadA rfl rfl rfl bySeeN) ?_
   refine KL.v rfl (Val.move rfl) ?_
   refine KL.callc rfl rfl byEvL fun T hT => ?_
   refine (CallV.part (CallV.fn (hwipe _)) byPart).mono ?_
   rintro _ _ ⟨vr1, R1, N1, hB1, hX1, rfl, rfl⟩
   have ho1 := hB1.m.o
   have hf1 := hf.next hX1 (wipe_len (by omega)) (WdOk.cleared hf.w)
   have hst := fun A => rbstore_K (w0 := w0) (D := N1 ++ D) (F := A) (i := 0) (w := pw) hB1 hf1 hy (by have := hf1.l; omega)
   unfold boL at hst
   refine hT _ _ ?_; clear hT T
   refine KL.v rfl (Val.move rfl) ?_
   refine KL.v rfl (Val.extract rfl rfl) ?_
   refine KL.v rfl (Val.extract rfl rfl) ?_
   refine KL.eN (Eff.storeAL rfl rfl rfl byTake byLay byOnes) ?_; rintro _ _ rfl
   refine KL.nil (KE.next (K.seq (K.region ?_)))
   refine KL.v rfl (Val.loadA rfl rfl rfl bySeeN) ?_
   refine KL.v rfl (Val.move rfl) ?_
   refine KL.v rfl (Val.move rfl) ?_
   refine KL.callc rfl rfl byEvL fun T hT => ?_
   refine (CallV.part (CallV.fn (hst _)) (by rw [List.append_assoc]; exact byPart)).mono ?_
   rintro _ _ ⟨vr2, R2, N2, hB2, hX2, rfl, rfl⟩
   have ho2 := hB2.m.o
   rw [hX1, List.set_set] at hX2
   rw [← List.append_assoc] at hB2
   refine hT _ _ ?_; clear hT T
   refine KL.eN (Eff.storeAL rfl rfl rfl byTake byLay byOnes) ?_; rintro _ _ rfl
   refine KL.v rfl (Val.assign rfl) ?_
   refine KL.nil (KE.next ?_)
   refine K.ret ?_
   exact KE.fin (H' := (N2 ++ N1) ++ (D ++ F)) byMarks rfl byRes (by simp only [List.append_assoc]; exact byPart) ⟨vr2, R2, N2 ++ N1, hB2, hX2, rfl, rfl⟩
end
set_option maxRecDepth 10000
theorem eq_take {α : Type} {l m : List α} {k : Nat} (hl : l.length = m.length) (h : l.take k = m.take k) (hk : l.length ≤ k) : l = m := by
 rwa [List.take_of_length_le hk, List.take_of_length_le (by omega)] at h
theorem take_eq {l m : List Int} {k : Nat} {a : Int} (h : l.take k = m.take k) (h1 : l[k]? = some a) (h2 : m[k]? = some a) : l.take (k + 1) = m.take (k + 1) := by
 rw [take_snoc h1, take_snoc h2, h]
structure SmQ where
 k : Nat
theorem SameInts_K {w0 : World} {H : Heap} {va vb : Value} {l m : List Int} (h1 : Sli w0 H iE va l) (h2 : Sli w0 H iE vb m) (hl : l.length ≤ 4294967296) :
  Call Tryz.prog w0 65 [va, vb] H (fun r H' => r = .bool (decide (l = m)) ∧ H' = H) := by
 refine Call.enter2 (n := 26) (by kernel_rfl) Tryz.func65 rfl rfl rfl ?_
 by_cases hlm : l.length = m.length
 ·have hne : ¬ ((l.length : Nat) : Int) ≠ ((m.length : Nat) : Int) := by omega
  refine K.seq (K.region ?_)
  refine KL.v rfl (Val.assign rfl) ?_
  refine KL.nil (KE.next (K.seq (K.seq (K.region ?_))))
  refine KL.v rfl (Val.move rfl) ?_
  refine KL.v rfl (Val.lenSl rfl rfl bySli) ?_
  refine KL.v rfl (Val.move rfl) ?_
  refine KL.v rfl (Val.lenSl rfl rfl bySli) ?_
  refine KL.v rfl (Val.isF (Val.neq rfl rfl) byLt) ?_
  refine KL.nil (KE.next (K.condF rfl (K.skip (KE.next (K.seq (K.seq (K.region ?_)))))))
  refine KL.v rfl (Val.assign rfl) ?_
  refine KL.nil (KE.next (K.block ?_))
  refine K.loopT (σ := SmQ) [(0, _), (1, _)] (fun s kp_ => (5, .int .i64 (s.k : Nat)) :: kp_) (fun s => H) (fun s => s.k ≤ l.length ∧ l.take s.k = m.take s.k) (fun s => l.length - s.k) (⟨0⟩) bySub byPart (⟨Nat.zero_le _, rfl⟩) ?_
  rintro ⟨k⟩ ⟨hk, he⟩
  dsimp only at hk he ⊢
  by_cases hlt : k < l.length
  ·obtain ⟨x, hx⟩ := get_of_lt hlt
   obtain ⟨y, hy⟩ := get_of_lt (l := m) (k := k) (by omega)
   by_cases hxy : x = y
   ·have hxy2 : ¬ x ≠ y := fun h => h hxy
    refine K.seq (K.seq (K.region ?_))
    refine KL.v rfl (Val.move rfl) ?_
    refine KL.v rfl (Val.move rfl) ?_
    refine KL.v rfl (Val.lenSl rfl rfl bySli) ?_
    refine KL.v rfl (Val.isT (Val.lss rfl rfl) byLt) ?_
    refine KL.nil (KE.next (K.condT rfl (K.skip (KE.next (K.seq (K.block (K.seq ?_)))))))
    refine K.drawn [] [(0, 0), (1, 0), (2, 0), (3, 0), (4, 0), (5, 0), (6, 0), (7, 0), (8, 0)] (by kernel_rfl) (by kernel_rfl) (by kernel_rfl) (by kernel_rfl) (by kernel_rfl) (by kernel_rfl) Part.nil ?_
    refine KD.v0 rfl rfl (Val.move rfl) ?_
    refine KD.v0 rfl rfl (Val.move rfl) ?_
    refine KD.v0 rfl rfl (Val.idxSl rfl rfl rfl bySli rfl byLt) ?_
    refine KD.v0 rfl rfl (Val.loadP rfl rfl bySee) ?_
    refine KD.v0 rfl rfl (Val.move rfl) ?_
    refine KD.v0 rfl rfl (Val.move rfl) ?_
    refine KD.v0 rfl rfl (Val.idxSl rfl rfl rfl bySli rfl byLt) ?_
    refine KD.v0 rfl rfl (Val.loadP rfl rfl bySee) ?_
    refine KD.v0 rfl rfl (Val.isF (Val.neq rfl rfl) byLt) ?_
    refine KD.nil ?_
    refine KE.next (K.condF rfl (K.skip ?_))
    refine KE.blkN ?_
    refine KE.next (K.region ?_)
    refine KL.v rfl (Val.move rfl) ?_
    refine KL.v rfl (Val.add rfl rfl (by simp only [qL, qH]; omega)) ?_
    refine KL.v rfl (Val.assign rfl) ?_
    refine KL.nil ?_
    subst hxy
    exact KE.again ⟨k + 1⟩ bySub byPart ⟨hlt, take_eq he hx hy⟩ (by show l.length - (k + 1) < l.length - k; omega)
   ·have hne2 : l ≠ m := fun h => hxy (by rw [h, hy] at hx; cases hx; rfl)
    refine K.seq (K.seq (K.region ?_))
    refine KL.v rfl (Val.move rfl) ?_
    refine KL.v rfl (Val.move rfl) ?_
    refine KL.v rfl (Val.lenSl rfl rfl bySli) ?_
    refine KL.v rfl (Val.isT (Val.lss rfl rfl) byLt) ?_
    refine KL.nil (KE.next (K.condT rfl (K.skip (KE.next (K.seq (K.block (K.seq ?_)))))))
    refine K.drawn [] [(0, 0), (1, 0), (2, 0), (3, 0), (4, 0), (5, 0), (6, 0), (7, 0), (8, 0)] (by kernel_rfl) (by kernel_rfl) (by kernel_rfl) (by kernel_rfl) (by kernel_rfl) (by kernel_rfl) Part.nil ?_
    refine KD.v0 rfl rfl (Val.move rfl) ?_
    refine KD.v0 rfl rfl (Val.move rfl) ?_
    refine KD.v0 rfl rfl (Val.idxSl rfl rfl rfl bySli rfl byLt) ?_
    refine KD.v0 rfl rfl (Val.loadP rfl rfl bySee) ?_
    refine KD.v0 rfl rfl (Val.move rfl) ?_
    refine KD.v0 rfl rfl (Val.move rfl) ?_
    refine KD.v0 rfl rfl (Val.idxSl rfl rfl rfl bySli rfl byLt) ?_
    refine KD.v0 rfl rfl (Val.loadP rfl rfl bySee) ?_
    refine KD.v0 rfl rfl (Val.isT (Val.neq rfl rfl) byLt) ?_
    refine KD.nil ?_
    refine KE.next (K.condT rfl (K.seq (K.region ?_)))
    refine KL.v rfl (Val.assign rfl) ?_
    refine KL.nil (KE.next ?_)
    refine K.ret ?_
    refine KE.blkR ?_
    refine KE.passR ?_
    refine KE.passR ?_
    refine KE.blkR ?_
    refine KE.passR ?_
    exact KE.fin byMarks rfl byRes byPart ⟨by rw [decide_eq_false hne2]; rfl, rfl⟩
  ·have heq : l = m := eq_take hlm he (by omega)
   refine K.seq (K.seq (K.region ?_))
   refine KL.v rfl (Val.move rfl) ?_
   refine KL.v rfl (Val.move rfl) ?_
   refine KL.v rfl (Val.lenSl rfl rfl bySli) ?_
   refine KL.v rfl (Val.isF (Val.lss rfl rfl) byLt) ?_
   refine KL.nil (KE.next (K.condF rfl ?_))
   refine K.exit ?_
   refine KE.passX ?_
   refine KE.passX ?_
   refine KE.blkX ?_
   refine KE.next (K.seq (K.region ?_))
   refine KL.v rfl (Val.assign rfl) ?_
   refine KL.nil (KE.next ?_)
   refine K.ret ?_
   exact KE.fin byMarks rfl byRes byPart ⟨by rw [decide_eq_true heq]; rfl, rfl⟩
 ·have hne : ((l.length : Nat) : Int) ≠ ((m.length : Nat) : Int) := by omega
  have hne2 : l ≠ m := fun h => hlm (by rw [h])
  refine K.seq (K.region ?_)
  refine KL.v rfl (Val.assign rfl) ?_
  refine KL.nil (KE.next (K.seq (K.seq (K.region ?_))))
  refine KL.v rfl (Val.move rfl) ?_
  refine KL.v rfl (Val.lenSl rfl rfl bySli) ?_
  refine KL.v rfl (Val.move rfl) ?_
  refine KL.v rfl (Val.lenSl rfl rfl bySli) ?_
  refine KL.v rfl (Val.isT (Val.neq rfl rfl) byLt) ?_
  refine KL.nil (KE.next (K.condT rfl (K.seq (K.region ?_))))
  refine KL.v rfl (Val.assign rfl) ?_
  refine KL.nil (KE.next ?_)
  refine K.ret ?_
  refine KE.passR ?_
  exact KE.fin byMarks rfl byRes byPart ⟨by rw [decide_eq_false hne2]; rfl, rfl⟩
structure RnS where
 k : Nat
 oo : Own
 R : List RwD
 N : Heap
theorem rmNew_K {w0 : World} {F : Heap} {c : Cfg} {vc vt : Value} (hR : CfgR w0 F c vc vt) (hc : cfgP c = true) :
  Call Tryz.prog w0 64 [cfgV c vc vt] F (fun r H' => ∃ (vr : Value) (R : List RwD) (N : Heap), MemD w0 N vr R ∧ rwX R = mR (fun t => wordsP c (t : Nat)) c.tn.length ∧ r = .agg [vr].toArray ∧ H' = N ++ F) := by
 have hok := (cfg_ok hc).tn
 have hB := fun k (hk : k < c.tn.length) => words_le hc hk
 have hreg := fun A (k : Nat) (hk : k < c.tn.length) (hp : Part A F) => rRegion_K (t := (k : Nat)) (hR.part hp)
 have hrin := fun k (hk : k < c.tn.length) => region_in hc hk
 obtain ⟨f, hf⟩ : ∃ f : Nat → Int, f = fun i => wordsP c (i : Nat) := ⟨_, rfl⟩
 have hfi : ∀ i : Nat, wordsP c (i : Nat) = f i := fun i => by rw [hf]
 simp only [hfi] at hB hrin ⊢
 obtain ⟨hS, hT', o1, o2, l1, l2⟩ := hR
 obtain ⟨cl, page, tn, workers, grey, gens⟩ := c
 dsimp only at hS hT' l1 l2 hok hB hreg hrin ⊢
 simp only [cfgV, cfgL, prV] at hreg ⊢
 clear hf hfi hc
 refine Call.enter1 (n := 28) (by kernel_rfl) Tryz.func64 rfl rfl rfl ?_
 refine K.seq (K.region ?_)
 refine KL.e rfl (Eff.box rfl rfl) ?_; rintro _ _ ⟨b1, rfl, rfl⟩
 refine KL.e rfl (Eff.alloc rfl) ?_; rintro _ _ ⟨b2, rfl, rfl⟩
 refine KL.nil (KE.next (K.seq (K.region ?_)))
 refine KL.e rfl (Eff.alloc rfl) ?_; rintro _ _ ⟨b3, rfl, rfl⟩
 refine KL.nil (KE.next (K.seq (K.seq (K.region ?_))))
 refine KL.v rfl (Val.assign rfl) ?_
 refine KL.nil (KE.next (K.block ?_))
 refine K.loopT (σ := RnS) [(1, _), (2, _), (3, _)] (fun s kp_ => (4, .int .i64 (s.k : Nat)) :: kp_) (fun s => (s.N ++ (oH rwE 54 s.R s.oo ++ ((b3, cells [oV s.oo s.R.length] 40) :: (b1, cells [vc, .int .i64 page, vt, .int .i64 workers, .int .i64 grey, .int .i64 gens] 25) :: (b2, cells [.slice none 0 0] 40) :: F)))) (fun s => s.k ≤ tn.length ∧ oOk rwE s.R s.oo ∧ rwX s.R = mR f s.k ∧ ∀ q' ∈ s.R, Sli w0 s.N uE (.slice q'.a q'.n q'.c) q'.x) (fun s => tn.length - s.k) (⟨0, none, [], []⟩) bySub byPart (⟨Nat.zero_le _, rfl, rfl, fun q' h => by cases h⟩) ?_
 rintro ⟨k, oo, R1, N1⟩ ⟨hk, hoo, hX1, hs1⟩
 dsimp only at hk hoo hX1 hs1 ⊢
 have hR1 : R1.length = k := by have := congrArg List.length hX1; simpa [rwX, mR_len] using this
 by_cases hlt : k < tn.length
 ·have hreg1 := fun A hp => hreg A k hlt hp
  have hbk := hB k hlt
  obtain ⟨n, hn⟩ : ∃ n : Nat, f k = n := ⟨(f k).toNat, by omega⟩
  simp only [hrin k hlt, hn] at hreg1
  rw [hn] at hbk
  have hXs : mR f (k + 1) = mR f k ++ [List.replicate n 0] := by simp [mR, List.range_succ, hn]
  clear hreg hrin hB
  refine K.seq (K.seq (K.region ?_))
  refine KL.v rfl (Val.move rfl) ?_
  refine KL.v rfl (Val.fieldAddr0 (k := 2) rfl rfl) ?_
  refine KL.v rfl (Val.loadP rfl rfl (Sees.cell byTake rfl)) ?_
  refine KL.v rfl (Val.lenSl rfl rfl bySli) ?_
  refine KL.v rfl (Val.isT (Val.lss rfl rfl) byLt) ?_
  refine KL.nil (KE.next (K.condT rfl (K.skip (KE.next (K.seq (K.block (K.seq (K.region ?_))))))))
  refine KL.v rfl (Val.loadA rfl rfl rfl bySeeN) ?_
  refine KL.v rfl (Val.move rfl) ?_
  refine KL.callc rfl rfl byEvL fun T hT => ?_
  refine (CallV.fn (hreg1 _ byPart)).mono ?_
  rintro _ _ ⟨rfl, rfl⟩
  refine hT _ _ ?_; clear hT T
  refine KL.v rfl (Val.move rfl) ?_
  refine KL.v rfl (Val.extract rfl rfl) ?_
  refine KL.v rfl (Val.extract rfl rfl) ?_
  refine KL.v rfl (Val.assign rfl) ?_
  refine KL.v rfl (Val.assign rfl) ?_
  refine KL.nil (KE.next ?_)
  refine byCodeD ?_
  (first | refine K.seq (K.drawn ([]) [(0, 0), (1, 0), (2, 0), (3, 5), (4, 5), (5, 2), (6, 0), (7, 2)] (by kernel_rfl) (by kernel_rfl) (by kernel_rfl) (by kernel_rfl) (by kernel_rfl) (by kernel_rfl) byPart ?_) | refine K.seq (K.seq (K.drawn ([]) [(0, 0), (1, 0), (2, 0), (3, 5), (4, 5), (5, 2), (6, 0), (7, 2)] (by kernel_rfl) (by kernel_rfl) (by kernel_rfl) (by kernel_rfl) (by kernel_rfl) (by kernel_rfl) byPart ?_)) | refine K.drawn ([]) [(0, 0), (1, 0), (2, 0), (3, 5), (4, 5), (5, 2), (6, 0), (7, 2)] (by kernel_rfl) (by kernel_rfl) (by kernel_rfl) (by kernel_rfl) (by kernel_rfl) (by kernel_rfl) byPart ?_)
  (first | refine KD.v0 rfl rfl (Val.fieldSl (k := 0) rfl rfl) ?_ | refine KD.v0 rfl rfl (Val.fieldAddr0 (k := 0) rfl rfl) ?_ | refine KD.v0 rfl rfl (Val.fieldAddrZ rfl rfl) ?_ | refine KD.v0 rfl rfl (Val.fieldAddr (k := 0) rfl rfl) ?_)
  (first | refine KD.v0 rfl rfl (Val.loadP rfl rfl bySee) ?_ | refine KD.v0 rfl rfl (Val.loadP rfl rfl (Sees.more (by assumption) byPart)) ?_)
  refine KD.v0 rfl rfl (Val.move rfl) ?_
  refine KD.eM rfl rfl (Eff.makeR (E := uE) (x0 := 0) rfl rfl rfl rfl rfl rfl (by first | assumption | omega | (simp <;> fail) | (simp; omega))) ?_; rintro _ _ ⟨o23, ok23, rfl, rfl⟩; refine ⟨byPart, ?_⟩
  refine KD.eM rfl rfl (Eff.buildS byParts rfl rfl rfl rfl rfl byFill) ?_; rintro _ _ ⟨b24, rfl, rfl⟩; refine ⟨byPart, ?_⟩
  -- STOP before op 5
  cases o23 with
  | none =>
   have hr0 : List.replicate n (0 : Int) = [] := ok23
   have hn0 : n = 0 := by simpa using congrArg List.length hr0
   subst hn0
   have hbd : (R1 ++ [(⟨none, 0, 0, List.replicate 0 0⟩ : RwD)]).length ≤ 4294967296 := by simp; omega
   have hS1 : Sli w0 [(b24, cells (flat rwE [(⟨none, 0, 0, List.replicate 0 0⟩ : RwD)]) 54)] rwE (.slice (some ⟨b24, 0, none⟩) 1 1) [(⟨none, 0, 0, List.replicate 0 0⟩ : RwD)] := Sli.blk Take.head rfl (by simp) (by decide) rfl
   refine KD.e rfl rfl (Eff.appZ (E := rwE) (xs := R1) (o := oo) (ys := [⟨none, 0, 0, List.replicate 0 0⟩]) (zs := R1 ++ [⟨none, 0, 0, List.replicate 0 0⟩]) rfl rfl rfl rfl rfl rfl byTakeL (by assumption) (by first | exact Sli.blk byTake rfl (by first | decide | simp) (by first | decide | (unfold maxLen; omega)) rfl | exact Sli.old (by assumption) | exact Sli.own byTakeL (by assumption) byLen | assumption | exact Sli.part (by assumption) byPart) (rfl) (by first | assumption | omega | (simp <;> fail) | (simp; omega)) rfl) ?_; rintro _ _ ⟨o', ok', rfl, rfl⟩; refine ⟨byPart, ?_⟩
   (first | refine KD.v0 rfl rfl (Val.fieldSl (k := 0) rfl rfl) ?_ | refine KD.v0 rfl rfl (Val.fieldAddr0 (k := 0) rfl rfl) ?_ | refine KD.v0 rfl rfl (Val.fieldAddrZ rfl rfl) ?_ | refine KD.v0 rfl rfl (Val.fieldAddr (k := 0) rfl rfl) ?_)
   (first | (refine KD.eN rfl (Eff.storeL rfl rfl byOne rfl byTake bySetAt) ?_; rintro _ _ rfl; refine ⟨byPart, ?_⟩) | (refine KD.eN rfl (Eff.stSl rfl rfl rfl rfl byTakeL (by assumption) (by assumption) rfl rfl) ?_; rintro _ _ rfl; refine ⟨byPart, ?_⟩) | (refine KD.eN rfl (Eff.stSl0 rfl rfl rfl rfl byTakeL (by assumption) (by assumption) rfl rfl) ?_; rintro _ _ rfl; refine ⟨byPart, ?_⟩))
   refine KD.nil ?_
   refine KE.blkN ?_
   refine KE.next (K.region ?_)
   refine KL.v rfl (Val.move rfl) ?_
   refine KL.v rfl (Val.add rfl rfl (by simp only [qL, qH]; omega)) ?_
   refine KL.v rfl (Val.assign rfl) ?_
   refine KL.nil ?_
   exact KE.again ⟨k + 1, o', R1 ++ [⟨none, 0, 0, List.replicate 0 0⟩], oH uE 64 (List.replicate 0 0) none ++ N1⟩ bySub byPart ⟨hlt, ok', by show rwX _ = _; rw [hXs, ← hX1]; simp [rwX], fun q2 h2 => by
    rcases List.mem_append.1 h2 with h2 | h2
    ·exact (hs1 q2 h2).part byPart
    ·rw [List.mem_singleton.1 h2]; exact Sli.own (o := none) byTakeL rfl rfl⟩ (by show tn.length - (k + 1) < tn.length - k; omega)
  | some ob =>
   have hbd : (R1 ++ [(⟨some ⟨ob.b, 0, none⟩, (List.replicate n (0 : Int)).length, ob.c, List.replicate n 0⟩ : RwD)]).length ≤ 4294967296 := by simp; omega
   have hS1 : Sli w0 [(b24, cells (flat rwE [(⟨some ⟨ob.b, 0, none⟩, (List.replicate n (0 : Int)).length, ob.c, List.replicate n 0⟩ : RwD)]) 54)] rwE (.slice (some ⟨b24, 0, none⟩) 1 1) [(⟨some ⟨ob.b, 0, none⟩, (List.replicate n (0 : Int)).length, ob.c, List.replicate n 0⟩ : RwD)] := Sli.blk Take.head rfl (by simp) (by decide) rfl
   refine KD.e rfl rfl (Eff.appZ (E := rwE) (xs := R1) (o := oo) (ys := [⟨some ⟨ob.b, 0, none⟩, (List.replicate n (0 : Int)).length, ob.c, List.replicate n 0⟩]) (zs := R1 ++ [⟨some ⟨ob.b, 0, none⟩, (List.replicate n (0 : Int)).length, ob.c, List.replicate n 0⟩]) rfl rfl rfl rfl rfl rfl byTakeL (by assumption) (by first | exact Sli.blk byTake rfl (by first | decide | simp) (by first | decide | (unfold maxLen; omega)) rfl | exact Sli.old (by assumption) | exact Sli.own byTakeL (by assumption) byLen | assumption | exact Sli.part (by assumption) byPart) (rfl) (by first | assumption | omega | (simp <;> fail) | (simp; omega)) rfl) ?_; rintro _ _ ⟨o', ok', rfl, rfl⟩; refine ⟨byPart, ?_⟩
   -- nothing is left
   refine KD.v0 rfl rfl (Val.fieldAddr0 (k := 0) rfl rfl) ?_
   refine KD.eN rfl (Eff.storeL rfl rfl byOne rfl byTake bySetAt) ?_; rintro _ _ rfl; refine ⟨byPart, ?_⟩
   refine KD.nil ?_
   refine KE.blkN ?_
   refine KE.next (K.region ?_)
   refine KL.v rfl (Val.move rfl) ?_
   refine KL.v rfl (Val.add rfl rfl (by simp only [qL, qH]; omega)) ?_
   refine KL.v rfl (Val.assign rfl) ?_
   refine KL.nil ?_
   exact KE.again ⟨k + 1, o', R1 ++ [⟨some ⟨ob.b, 0, none⟩, (List.replicate n (0 : Int)).length, ob.c, List.replicate n 0⟩], oH uE 64 (List.replicate n 0) (some ob) ++ N1⟩ bySub byPart ⟨hlt, ok', by show rwX _ = _; rw [hXs, ← hX1]; simp [rwX], fun q2 h2 => by
    rcases List.mem_append.1 h2 with h2 | h2
    ·exact (hs1 q2 h2).part byPart
    ·rw [List.mem_singleton.1 h2]; exact Sli.own byTakeL ok23 rfl⟩ (by show tn.length - (k + 1) < tn.length - k; omega)
 ·have hke : k = tn.length := by omega
  subst hke
  refine K.seq (K.seq (K.region ?_))
  refine KL.v rfl (Val.move rfl) ?_
  refine KL.v rfl (Val.fieldAddr0 (k := 2) rfl rfl) ?_
  refine KL.v rfl (Val.loadP rfl rfl (Sees.cell byTake rfl)) ?_
  refine KL.v rfl (Val.lenSl rfl rfl bySli) ?_
  refine KL.v rfl (Val.isF (Val.lss rfl rfl) byLt) ?_
  refine KL.nil (KE.next (K.condF rfl ?_))
  refine K.exit ?_
  refine KE.passX ?_
  refine KE.passX ?_
  refine KE.blkX ?_
  refine KE.next (K.seq (K.region ?_))
  refine KL.v rfl (Val.loadA rfl rfl rfl bySeeN) ?_
  refine KL.eN (Eff.storeAL rfl rfl rfl byTake byLay byOnes) ?_; rintro _ _ rfl
  refine KL.nil (KE.next ?_)
  refine K.ret ?_
  exact KE.fin (H' := (N1 ++ oH rwE 54 R1 oo) ++ F) byMarks rfl byRes (by rw [List.append_assoc]; exact byPart) ⟨oV oo R1.length, R1, _, ⟨Sli.own (H := (N1 ++ oH rwE 54 R1 oo)) byTakeL hoo rfl, oV_one _ _, fun q2 h2 => (hs1 q2 h2).part byPart⟩, hX1, rfl, rfl⟩
open Go.RowKit
set_option maxRecDepth 10000
def ksL (ka : Bool) (kat : Nat) (vd : Value) : List Value := [.bool ka, .int .i64 (kat : Nat), vd]
structure SkA where
 b11 : Nat
 o : Own
section
variable {w0 : World} {D F : Heap} {v : PlV} {vr va vd vc : Value} {g : PlG} {R : List RwD} {A Ds : List Bool} {C : List Int} {t s : Nat} {x : List Int} {y : SlotP} {ka : Bool} {kat : Nat}
theorem rsStep_E (hB : BoD w0 D v vr g R) (hva : va.oneCell' = true) (hvc : vc.oneCell' = true) (hvd : vd.oneCell' = true) (h : ka = false ∨ (Sli w0 D boE vd Ds ∧ Ds.length ≤ kat)) :
  Call Tryz.prog w0 76 [.agg (ksL ka kat vd).toArray, .agg (arL v g va).toArray, .agg (boL v g vr t).toArray, vc] (D ++ F) (fun r H' => r = .tuple [.agg (ksL ka kat vd).toArray, .agg (boL v g vr t).toArray, .bool false].toArray ∧ H' = D ++ F) := by
 unfold ksL arL boL
 have ho := hB.m.o
 have q1 := hB.p.oL
 have q2 := hB.p.oF
 have q3 := hB.p.oM
 have q4 := hB.p.oC
 cases ka with
 | false =>
  refine Call.enter4 (n := 61) (by kernel_rfl) Tryz.func76 rfl rfl rfl ?_
  refine K.seq (K.region ?_)
  refine KL.e rfl (Eff.box rfl rfl) ?_; rintro _ _ ⟨b4, rfl, rfl⟩
  refine KL.e rfl (Eff.box rfl rfl) ?_; rintro _ _ ⟨b5, rfl, rfl⟩
  refine KL.e rfl (Eff.box rfl rfl) ?_; rintro _ _ ⟨b6, rfl, rfl⟩
  refine KL.e rfl (Eff.alloc rfl) ?_; rintro _ _ ⟨b8, rfl, rfl⟩
  refine KL.e rfl (Eff.alloc rfl) ?_; rintro _ _ ⟨b9, rfl, rfl⟩
  refine KL.v rfl (Val.assign rfl) ?_
  refine KL.nil (KE.next (K.seq (K.seq (K.region ?_))))
  refine KL.v rfl (Val.fieldAddr0 (k := 0) rfl rfl) ?_
  refine KL.v rfl (Val.loadP rfl rfl (Sees.cell byTake rfl)) ?_
  refine KL.v rfl (Val.notF rfl) ?_
  refine KL.v rfl (Val.move rfl) ?_
  refine KL.skipG rfl rfl rfl ?_
  refine KL.skipG rfl rfl rfl ?_
  refine KL.skipG rfl rfl rfl ?_
  refine KL.skipG rfl rfl rfl ?_
  refine KL.skipG rfl rfl rfl ?_
  refine KL.skipG rfl rfl rfl ?_
  refine KL.v rfl (Val.pickT rfl rfl rfl) ?_
  refine KL.nil (KE.next (K.condT rfl (K.seq ?_)))
  refine K.drawn _ [(0, 0), (1, 1), (2, 2), (3, 2), (4, 0)] (by kernel_rfl) (by kernel_rfl) (by kernel_rfl) (by kernel_rfl) (by kernel_rfl) (by kernel_rfl) (Part.drop (Part.drop Part.all)) ?_
  refine KD.v0 rfl rfl (Val.loadA rfl rfl rfl bySeeN) ?_
  refine KD.v1 rfl rfl (Val.loadA rfl rfl rfl bySeeN) ?_
  refine KD.eN rfl (Eff.storeAL rfl rfl rfl byTake byLay byOnes) ?_; rintro _ _ rfl; refine ⟨byPart, ?_⟩
  refine KD.eN rfl (Eff.storeAL rfl rfl rfl byTake byLay byOnes) ?_; rintro _ _ rfl; refine ⟨byPart, ?_⟩
  refine KD.v0 rfl rfl (Val.assign rfl) ?_
  refine KD.nil ?_
  refine KE.next ?_
  refine K.ret ?_
  refine KE.passR ?_
  exact KE.fin byMarks rfl byRes byPart ⟨rfl, rfl⟩
 | true =>
  obtain ⟨h1, h2⟩ := h.resolve_left (by decide)
  have hge : ((kat : Nat) : Int) ≥ ((Ds.length : Nat) : Int) := by omega
  refine Call.enter4 (n := 61) (by kernel_rfl) Tryz.func76 rfl rfl rfl ?_
  refine K.seq (K.region ?_)
  refine KL.e rfl (Eff.box rfl rfl) ?_; rintro _ _ ⟨b4, rfl, rfl⟩
  refine KL.e rfl (Eff.box rfl rfl) ?_; rintro _ _ ⟨b5, rfl, rfl⟩
  refine KL.e rfl (Eff.box rfl rfl) ?_; rintro _ _ ⟨b6, rfl, rfl⟩
  refine KL.e rfl (Eff.alloc rfl) ?_; rintro _ _ ⟨b8, rfl, rfl⟩
  refine KL.e rfl (Eff.alloc rfl) ?_; rintro _ _ ⟨b9, rfl, rfl⟩
  refine KL.v rfl (Val.assign rfl) ?_
  refine KL.nil (KE.next (K.seq (K.seq (K.region ?_))))
  refine KL.v rfl (Val.fieldAddr0 (k := 0) rfl rfl) ?_
  refine KL.v rfl (Val.loadP rfl rfl (Sees.cell byTake rfl)) ?_
  refine KL.v rfl (Val.notT rfl) ?_
  refine KL.v rfl (Val.move rfl) ?_
  refine KL.yes rfl rfl ?_; refine KL.v rfl (Val.fieldAddr0 (k := 1) rfl rfl) ?_
  refine KL.yes rfl rfl ?_; refine KL.v rfl (Val.loadP rfl rfl (Sees.cell byTake rfl)) ?_
  refine KL.yes rfl rfl ?_; refine KL.v rfl (Val.fieldAddr0 (k := 2) rfl rfl) ?_
  refine KL.yes rfl rfl ?_; refine KL.v rfl (Val.loadP rfl rfl (Sees.cell byTake rfl)) ?_
  refine KL.yes rfl rfl ?_; refine KL.v rfl (Val.lenSl rfl rfl bySli) ?_
  refine KL.yes rfl rfl ?_; refine KL.v rfl (Val.isT (Val.geq rfl rfl) byLt) ?_
  refine KL.v rfl (Val.pickF rfl rfl rfl) ?_
  refine KL.nil (KE.next (K.condT rfl (K.seq ?_)))
  refine K.drawn _ [(0, 0), (1, 1), (2, 2), (3, 2), (4, 0)] (by kernel_rfl) (by kernel_rfl) (by kernel_rfl) (by kernel_rfl) (by kernel_rfl) (by kernel_rfl) (Part.drop (Part.drop Part.all)) ?_
  refine KD.v0 rfl rfl (Val.loadA rfl rfl rfl bySeeN) ?_
  refine KD.v1 rfl rfl (Val.loadA rfl rfl rfl bySeeN) ?_
  refine KD.eN rfl (Eff.storeAL rfl rfl rfl byTake byLay byOnes) ?_; rintro _ _ rfl; refine ⟨byPart, ?_⟩
  refine KD.eN rfl (Eff.storeAL rfl rfl rfl byTake byLay byOnes) ?_; rintro _ _ rfl; refine ⟨byPart, ?_⟩
  refine KD.v0 rfl rfl (Val.assign rfl) ?_
  refine KD.nil ?_
  refine KE.next ?_
  refine K.ret ?_
  refine KE.passR ?_
  exact KE.fin byMarks rfl byRes byPart ⟨rfl, rfl⟩
set_option maxHeartbeats 4000000 in
theorem rsStep_K {a : Bool} {c : Int} (hB : BoD w0 D v vr g R) (hf : BoF g R t x) (hy : g.L[kat]? = some y) (hA : ArD w0 D v va g A) (hC : Sli w0 D bE vc C) (hd : Sli w0 D boE vd Ds) (hvc : vc.oneCell' = true) (hvd : vd.oneCell' = true) (ha : A[kat]? = some a) (hc : C[kat]? = some c) (hl : Ds.length = g.slots) :
  Call Tryz.prog w0 76 [.agg (ksL true kat vd).toArray, .agg (arL v g va).toArray, .agg (boL v g vr t).toArray, vc] (D ++ F)
   (fun r H' => ∃ (vd' vr' : Value) (R' : List RwD) (N : Heap), BoD w0 (N ++ D) v vr' g R' ∧ rwX R' = (if (a && decide (c = 0)) = true then (rwX R).set t (wipeP x y) else rwX R) ∧ Sli w0 (N ++ D) boE vd' (if (a && decide (c = 0)) = true then Ds.set kat true else Ds) ∧ vd'.oneCell' = true ∧ r = .tuple [.agg (ksL true (kat + 1) vd').toArray, .agg (boL v g vr' t).toArray, .bool true].toArray ∧ H' = N ++ (D ++ F)) := by
 have hil : kat < g.slots := by rw [← L_len]; exact lt_of_get hy
 have hs16 := hf.ok.slots.2
 have hself := hf.self
 have ho := hB.m.o
 have haA := hA.a
 have q1 := hB.p.oL
 have q2 := hB.p.oF
 have q3 := hB.p.oM
 have q4 := hB.p.oC
 have q5 := hA.o
 have hlt : ¬ ((kat : Nat) : Int) ≥ ((Ds.length : Nat) : Int) := by omega
 have he : ((kat : Nat) : Int) + 1 = ((kat + 1 : Nat) : Int) := by omega
 have hwipe := fun A => rbWipe_K (w0 := w0) (D := D) (F := A) hB hf hy
 unfold ksL arL boL at *
 have hsl : (List.set Ds kat true).length = Ds.length := List.length_set
 have hal := lt_of_get ha
 have hcl := lt_of_get hc
 obtain ⟨dk, hdk⟩ := get_of_lt (l := Ds) (k := kat) (by omega)
 refine Call.enter4 (n := 61) (by kernel_rfl) Tryz.func76 rfl rfl rfl ?_
 refine K.seq (K.region ?_)
 refine KL.e rfl (Eff.box rfl rfl) ?_; rintro _ _ ⟨b4, rfl, rfl⟩
 refine KL.e rfl (Eff.box rfl rfl) ?_; rintro _ _ ⟨b5, rfl, rfl⟩
 refine KL.e rfl (Eff.box rfl rfl) ?_; rintro _ _ ⟨b6, rfl, rfl⟩
 refine KL.e rfl (Eff.alloc rfl) ?_; rintro _ _ ⟨b8, rfl, rfl⟩
 refine KL.e rfl (Eff.alloc rfl) ?_; rintro _ _ ⟨b9, rfl, rfl⟩
 refine KL.v rfl (Val.assign rfl) ?_
 refine KL.nil (KE.next (K.seq (K.seq (K.region ?_))))
 refine KL.v rfl (Val.fieldAddr0 (k := 0) rfl rfl) ?_
 refine KL.v rfl (Val.loadP rfl rfl (Sees.cell byTake rfl)) ?_
 refine KL.v rfl (Val.notT rfl) ?_
 refine KL.v rfl (Val.move rfl) ?_
 refine KL.yes rfl rfl ?_; refine KL.v rfl (Val.fieldAddr0 (k := 1) rfl rfl) ?_
 refine KL.yes rfl rfl ?_; refine KL.v rfl (Val.loadP rfl rfl (Sees.cell byTake rfl)) ?_
 refine KL.yes rfl rfl ?_; refine KL.v rfl (Val.fieldAddr0 (k := 2) rfl rfl) ?_
 refine KL.yes rfl rfl ?_; refine KL.v rfl (Val.loadP rfl rfl (Sees.cell byTake rfl)) ?_
 refine KL.yes rfl rfl ?_; refine KL.v rfl (Val.lenSl rfl rfl bySli) ?_
 refine KL.yes rfl rfl ?_; refine KL.v rfl (Val.isF (Val.geq rfl rfl) byLt) ?_
 refine KL.v rfl (Val.pickF rfl rfl rfl) ?_
 refine KL.nil (KE.next (K.condF rfl (K.skip (KE.next ?_))))
 refine K.cutT (σ := SkA) [(3, _), (4, _), (5, _), (6, _), (8, _), (9, _)] bySub (fun s kp_ => (11, .pointer (some ⟨s.b11, 0, none⟩)) :: kp_) (fun s => oH boE 4 Ds s.o ++ ((s.b11, cells [.bool true, .int .i64 ((kat + 1 : Nat) : Int), oV s.o Ds.length] 45) :: (b4, cells [.bool true, .int .i64 (kat : Nat), vd] 45) :: (b5, cells [v.L, v.F, v.M, .int .i64 (g.words : Nat), v.C, va] 37) :: (b6, cells [vr, .int .i64 (t : Nat), v.L, v.F, v.M, .int .i64 (g.words : Nat), v.C] 42) :: (b8, cells [.bool false, .int .i64 0, .slice none 0 0] 45) :: (b9, cells [.slice none 0 0, .int .i64 0, .slice none 0 0, .slice none 0 0, .slice none 0 0, .int .i64 0, .slice none 0 0] 42) :: (D ++ F))) (fun s => oOk boE Ds s.o) ?_ ?_
 ·skip
  refine byCodeD ?_
  refine K.drawn ((b4, cells [.bool true, .int .i64 (kat : Nat), vd] 45) :: D) [(0, 1), (1, 1), (2, 1), (4, 1), (5, 1), (3, 3), (6, 3), (7, 1), (8, 2), (9, 2)] (by kernel_rfl) (by kernel_rfl) (by kernel_rfl) (by kernel_rfl) (by kernel_rfl) (by kernel_rfl) byPart ?_
  (first | refine KD.v1 rfl rfl (Val.fieldSl (k := 1) rfl rfl) ?_ | refine KD.v1 rfl rfl (Val.fieldAddr0 (k := 1) rfl rfl) ?_ | refine KD.v1 rfl rfl (Val.fieldAddrZ rfl rfl) ?_ | refine KD.v1 rfl rfl (Val.fieldAddr (k := 1) rfl rfl) ?_)
  (first | refine KD.v1 rfl rfl (Val.loadP rfl rfl bySee) ?_ | refine KD.v1 rfl rfl (Val.loadP rfl rfl (Sees.more (by assumption) byPart)) ?_)
  (first | refine KD.v1 rfl rfl (Val.add rfl rfl (by simp only [qL, qH]; omega)) ?_ | refine KD.v1 rfl rfl (Val.addW rfl rfl) ?_)
  (first | refine KD.v1 rfl rfl (Val.fieldSl (k := 2) rfl rfl) ?_ | refine KD.v1 rfl rfl (Val.fieldAddr0 (k := 2) rfl rfl) ?_ | refine KD.v1 rfl rfl (Val.fieldAddrZ rfl rfl) ?_ | refine KD.v1 rfl rfl (Val.fieldAddr (k := 2) rfl rfl) ?_)
  (first | refine KD.v1 rfl rfl (Val.loadP rfl rfl bySee) ?_ | refine KD.v1 rfl rfl (Val.loadP rfl rfl (Sees.more (by assumption) byPart)) ?_)
  refine KD.fork2 (x := 3) (y := 8) (o1 := [(6, 3), (7, 1), (8, 2), (9, 2)]) (o2 := [(3, 2), (6, 2), (7, 0), (9, 2)]) (by kernel_rfl) rfl rfl (by kernel_rfl) (by kernel_rfl) ?_ ?_
  ·(refine ActK.e rfl (Eff.buildS byParts rfl rfl rfl rfl rfl byFill) ?_; rintro _ _ ⟨b28, rfl, rfl⟩; refine ⟨byPart, ?_⟩)
   refine KD.fork2 (x := 6) (y := 8) (o1 := [(7, 1), (8, 2), (9, 2)]) (o2 := [(6, 2), (7, 0), (9, 2)]) (by kernel_rfl) rfl rfl (by kernel_rfl) (by kernel_rfl) ?_ ?_
   ·(refine ActK.e rfl (Eff.appLit (E := boE) (ys := Ds) rfl rfl rfl rfl rfl rfl rfl byTake (by first | exact Sli.blk byTake rfl (by first | decide | simp) (by first | decide | (unfold maxLen; omega)) rfl | exact Sli.old (by assumption) | exact Sli.own byTakeL (by assumption) byLen | assumption | exact Sli.part (by assumption) byPart) (by first | assumption | omega | (simp <;> fail) | (simp; omega)) rfl) ?_; rintro _ _ ⟨oa, oka, rfl, rfl⟩; refine ⟨byPart, ?_⟩)
    refine KD.v1 rfl rfl (Val.build byParts rfl rfl byFill) ?_
    refine KD.e rfl rfl (Eff.alloc rfl) ?_; rintro _ _ ⟨b11, rfl, rfl⟩; refine ⟨byPart, ?_⟩
    (first | (refine KD.eN rfl (Eff.storeAL rfl rfl rfl byTake byLay byOnes) ?_; rintro _ _ rfl; refine ⟨byPart, ?_⟩) | (refine KD.eN rfl (Eff.stSlA rfl rfl rfl rfl byTakeL (by assumption) (by assumption)) ?_; rintro _ _ rfl; refine ⟨byPart, ?_⟩))
    refine KD.nil ?_
    exact KE.meet ⟨b11, oa⟩ bySub byPart oka
   ·(refine ActK.e rfl (Eff.alloc rfl) ?_; rintro _ _ ⟨b11, rfl, rfl⟩; refine ⟨byPart, ?_⟩)
    refine KD.e rfl rfl (Eff.appLit (E := boE) (ys := Ds) rfl rfl rfl rfl rfl rfl rfl byTake (by first | exact Sli.blk byTake rfl (by first | decide | simp) (by first | decide | (unfold maxLen; omega)) rfl | exact Sli.old (by assumption) | exact Sli.own byTakeL (by assumption) byLen | assumption | exact Sli.part (by assumption) byPart) (by first | assumption | omega | (simp <;> fail) | (simp; omega)) rfl) ?_; rintro _ _ ⟨oa, oka, rfl, rfl⟩; refine ⟨byPart, ?_⟩
    refine KD.v0 rfl rfl (Val.build byParts rfl rfl byFill) ?_
    (first | (refine KD.eN rfl (Eff.storeAL rfl rfl rfl byTake byLay byOnes) ?_; rintro _ _ rfl; refine ⟨byPart, ?_⟩) | (refine KD.eN rfl (Eff.stSlA rfl rfl rfl rfl byTakeL (by assumption) (by assumption)) ?_; rintro _ _ rfl; refine ⟨byPart, ?_⟩))
    refine KD.nil ?_
    exact KE.meet ⟨b11, oa⟩ bySub byPart oka
  ·(refine ActK.e rfl (Eff.alloc rfl) ?_; rintro _ _ ⟨b11, rfl, rfl⟩; refine ⟨byPart, ?_⟩)
   refine KD.e rfl rfl (Eff.buildS byParts rfl rfl rfl rfl rfl byFill) ?_; rintro _ _ ⟨b28, rfl, rfl⟩; refine ⟨byPart, ?_⟩
   refine KD.e rfl rfl (Eff.appLit (E := boE) (ys := Ds) rfl rfl rfl rfl rfl rfl rfl byTake (by first | exact Sli.blk byTake rfl (by first | decide | simp) (by first | decide | (unfold maxLen; omega)) rfl | exact Sli.old (by assumption) | exact Sli.own byTakeL (by assumption) byLen | assumption | exact Sli.part (by assumption) byPart) (by first | assumption | omega | (simp <;> fail) | (simp; omega)) rfl) ?_; rintro _ _ ⟨oa, oka, rfl, rfl⟩; refine ⟨byPart, ?_⟩
   refine KD.v0 rfl rfl (Val.build byParts rfl rfl byFill) ?_
   (first | (refine KD.eN rfl (Eff.storeAL rfl rfl rfl byTake byLay byOnes) ?_; rintro _ _ rfl; refine ⟨byPart, ?_⟩) | (refine KD.eN rfl (Eff.stSlA rfl rfl rfl rfl byTakeL (by assumption) (by assumption)) ?_; rintro _ _ rfl; refine ⟨byPart, ?_⟩))
   refine KD.nil ?_
   exact KE.meet ⟨b11, oa⟩ bySub byPart oka
 ·rintro ⟨b11, o⟩ ko
  dsimp only at ko ⊢
  cases a with
  | false =>
   refine K.seq (K.seq (K.region ?_))
   refine KL.v rfl (Val.fieldAddr0 (k := 5) rfl rfl) ?_
   refine KL.v rfl (Val.loadP rfl rfl (Sees.cell byTake rfl)) ?_
   refine KL.v rfl (Val.fieldAddr0 (k := 1) rfl rfl) ?_
   refine KL.v rfl (Val.loadP rfl rfl (Sees.cell byTake rfl)) ?_
   refine KL.v rfl (Val.idxSl rfl rfl rfl bySli rfl byLt) ?_
   refine KL.v rfl (Val.loadP rfl rfl bySee) ?_
   refine KL.v rfl (Val.move rfl) ?_
   refine KL.skipG rfl rfl rfl ?_
   refine KL.skipG rfl rfl rfl ?_
   refine KL.skipG rfl rfl rfl ?_
   refine KL.skipG rfl rfl rfl ?_
   refine KL.skipG rfl rfl rfl ?_
   refine KL.skipG rfl rfl rfl ?_
   refine KL.v rfl (Val.pickF rfl rfl rfl) ?_
   refine KL.nil (KE.next (K.condF rfl (K.skip (KE.next (K.seq ?_)))))
   refine K.drawn _ [(0, 0), (1, 1), (2, 2), (3, 2), (4, 0)] (by kernel_rfl) (by kernel_rfl) (by kernel_rfl) (by kernel_rfl) (by kernel_rfl) (by kernel_rfl) (Part.takeA TakeL.head (Part.take Take.head (Part.take Take.head (Part.take Take.head (Part.take Take.head (Part.drop (Part.drop Part.all))))))) ?_
   refine KD.v0 rfl rfl (Val.loadA rfl rfl rfl bySeeN) ?_
   refine KD.v1 rfl rfl (Val.loadA rfl rfl rfl bySeeN) ?_
   refine KD.eN rfl (Eff.storeAL rfl rfl rfl byTake byLay byOnes) ?_; rintro _ _ rfl; refine ⟨byPart, ?_⟩
   refine KD.eN rfl (Eff.storeAL rfl rfl rfl byTake byLay byOnes) ?_; rintro _ _ rfl; refine ⟨byPart, ?_⟩
   refine KD.v0 rfl rfl (Val.assign rfl) ?_
   refine KD.nil ?_
   refine KE.next ?_
   refine K.ret ?_
   exact KE.fin (H' := oH boE 4 Ds o ++ (D ++ F)) byMarks rfl byRes byPart ⟨oV o Ds.length, vr, R, _, hB.part byPart, rfl, Sli.own byTakeL ko rfl, oV_one _ _, rfl, rfl⟩
  | true =>
   by_cases h0 : c = 0
   ·subst h0
    refine K.seq (K.seq (K.region ?_))
    refine KL.v rfl (Val.fieldAddr0 (k := 5) rfl rfl) ?_
    refine KL.v rfl (Val.loadP rfl rfl (Sees.cell byTake rfl)) ?_
    refine KL.v rfl (Val.fieldAddr0 (k := 1) rfl rfl) ?_
    refine KL.v rfl (Val.loadP rfl rfl (Sees.cell byTake rfl)) ?_
    refine KL.v rfl (Val.idxSl rfl rfl rfl bySli rfl byLt) ?_
    refine KL.v rfl (Val.loadP rfl rfl bySee) ?_
    refine KL.v rfl (Val.move rfl) ?_
    refine KL.yes rfl rfl ?_; refine KL.v rfl (Val.move rfl) ?_
    refine KL.yes rfl rfl ?_; refine KL.v rfl (Val.fieldAddr0 (k := 1) rfl rfl) ?_
    refine KL.yes rfl rfl ?_; refine KL.v rfl (Val.loadP rfl rfl (Sees.cell byTake rfl)) ?_
    refine KL.yes rfl rfl ?_; refine KL.v rfl (Val.idxSl rfl rfl rfl bySli rfl byLt) ?_
    refine KL.yes rfl rfl ?_; refine KL.v rfl (Val.loadP rfl rfl bySee) ?_
    refine KL.yes rfl rfl ?_; refine KL.v rfl (Val.isT (Val.eql rfl rfl) byLt) ?_
    refine KL.v rfl (Val.pickT rfl rfl rfl) ?_
    refine KL.nil (KE.next (K.condT rfl (K.seq (K.region ?_))))
    refine KL.v rfl (Val.fieldAddr0 (k := 2) rfl rfl) ?_
    refine KL.v rfl (Val.loadP rfl rfl (Sees.cell byTake rfl)) ?_
    refine KL.v rfl (Val.fieldAddr0 (k := 1) rfl rfl) ?_
    refine KL.v rfl (Val.loadP rfl rfl (Sees.cell byTake rfl)) ?_
    refine KL.v rfl (Val.idxSl rfl rfl rfl (Sli.own byTakeL (by assumption) byLen) rfl byLt) ?_
    refine KL.eN (Eff.stSl0 rfl rfl rfl rfl byTakeL (by assumption) (by assumption) rfl rfl) ?_; rintro _ _ rfl
    refine KL.nil (KE.next (K.region ?_))
    refine KL.v rfl (Val.loadA rfl rfl rfl bySeeN) ?_
    refine KL.v rfl (Val.fieldAddr0 (k := 1) rfl rfl) ?_
    refine KL.v rfl (Val.loadP rfl rfl (Sees.cell byTake rfl)) ?_
    refine KL.callc rfl rfl byEvL fun T hT => ?_
    refine (CallV.part (CallV.fn (hwipe _)) byPart).mono ?_
    rintro _ _ ⟨vr', R', N, hM', hX, rfl, rfl⟩
    have ho' := hM'.m.o
    refine hT _ _ ?_; clear hT T
    refine KL.v rfl (Val.move rfl) ?_
    refine KL.v rfl (Val.extract rfl rfl) ?_
    refine KL.v rfl (Val.extract rfl rfl) ?_
    refine KL.eN (Eff.storeAL rfl rfl rfl byTake byLay byOnes) ?_; rintro _ _ rfl
    refine KL.nil (KE.next (K.seq ?_))
    refine K.drawn _ [(0, 0), (1, 1), (2, 2), (3, 2), (4, 0)] (by kernel_rfl) (by kernel_rfl) (by kernel_rfl) (by kernel_rfl) (by kernel_rfl) (by kernel_rfl) (Part.take Take.head (Part.takeA TakeL.head (Part.takeA TakeL.head (Part.takeA TakeL.head (Part.take Take.head (Part.take Take.head (Part.take Take.head (Part.drop (Part.drop Part.all))))))))) ?_
    refine KD.v0 rfl rfl (Val.loadA rfl rfl rfl bySeeN) ?_
    refine KD.v1 rfl rfl (Val.loadA rfl rfl rfl bySeeN) ?_
    refine KD.eN rfl (Eff.storeAL rfl rfl rfl byTake byLay byOnes) ?_; rintro _ _ rfl; refine ⟨byPart, ?_⟩
    refine KD.eN rfl (Eff.storeAL rfl rfl rfl byTake byLay byOnes) ?_; rintro _ _ rfl; refine ⟨byPart, ?_⟩
    refine KD.v0 rfl rfl (Val.assign rfl) ?_
    refine KD.nil ?_
    refine KE.next ?_
    refine K.ret ?_
    exact KE.fin (H' := (oH boE 4 (Ds.set kat true) o ++ N) ++ (D ++ F)) byMarks rfl byRes (by rw [List.append_assoc]; exact byPart) ⟨oV o Ds.length, vr', R', _, hM'.part (by rw [List.append_assoc]; exact byPart), hX, Sli.own (H := (oH boE 4 (Ds.set kat true) o ++ N) ++ D) (by rw [List.append_assoc]; exact byTakeL) (ko.set kat true) hsl.symm, oV_one _ _, rfl, rfl⟩
   ·have hd0 : (true && decide (c = 0)) = false := by rw [decide_eq_false h0]; rfl
    refine K.seq (K.seq (K.region ?_))
    refine KL.v rfl (Val.fieldAddr0 (k := 5) rfl rfl) ?_
    refine KL.v rfl (Val.loadP rfl rfl (Sees.cell byTake rfl)) ?_
    refine KL.v rfl (Val.fieldAddr0 (k := 1) rfl rfl) ?_
    refine KL.v rfl (Val.loadP rfl rfl (Sees.cell byTake rfl)) ?_
    refine KL.v rfl (Val.idxSl rfl rfl rfl bySli rfl byLt) ?_
    refine KL.v rfl (Val.loadP rfl rfl bySee) ?_
    refine KL.v rfl (Val.move rfl) ?_
    refine KL.yes rfl rfl ?_; refine KL.v rfl (Val.move rfl) ?_
    refine KL.yes rfl rfl ?_; refine KL.v rfl (Val.fieldAddr0 (k := 1) rfl rfl) ?_
    refine KL.yes rfl rfl ?_; refine KL.v rfl (Val.loadP rfl rfl (Sees.cell byTake rfl)) ?_
    refine KL.yes rfl rfl ?_; refine KL.v rfl (Val.idxSl rfl rfl rfl bySli rfl byLt) ?_
    refine KL.yes rfl rfl ?_; refine KL.v rfl (Val.loadP rfl rfl bySee) ?_
    refine KL.yes rfl rfl ?_; refine KL.v rfl (Val.isF (Val.eql rfl rfl) byLt) ?_
    refine KL.v rfl (Val.pickT rfl rfl rfl) ?_
    refine KL.nil (KE.next (K.condF rfl (K.skip (KE.next (K.seq ?_)))))
    refine K.drawn _ [(0, 0), (1, 1), (2, 2), (3, 2), (4, 0)] (by kernel_rfl) (by kernel_rfl) (by kernel_rfl) (by kernel_rfl) (by kernel_rfl) (by kernel_rfl) (Part.takeA TakeL.head (Part.take Take.head (Part.take Take.head (Part.take Take.head (Part.take Take.head (Part.drop (Part.drop Part.all))))))) ?_
    refine KD.v0 rfl rfl (Val.loadA rfl rfl rfl bySeeN) ?_
    refine KD.v1 rfl rfl (Val.loadA rfl rfl rfl bySeeN) ?_
    refine KD.eN rfl (Eff.storeAL rfl rfl rfl byTake byLay byOnes) ?_; rintro _ _ rfl; refine ⟨byPart, ?_⟩
    refine KD.eN rfl (Eff.storeAL rfl rfl rfl byTake byLay byOnes) ?_; rintro _ _ rfl; refine ⟨byPart, ?_⟩
    refine KD.v0 rfl rfl (Val.assign rfl) ?_
    refine KD.nil ?_
    refine KE.next ?_
    refine K.ret ?_
    exact KE.fin (H' := oH boE 4 Ds o ++ (D ++ F)) byMarks rfl byRes byPart ⟨oV o Ds.length, vr, R, _, hB.part byPart, by rw [hd0]; rfl, by rw [hd0]; exact Sli.own byTakeL ko rfl, oV_one _ _, rfl, rfl⟩
end
set_option maxRecDepth 10000
theorem run_D {g : PlG} {s t : SwP} (h : Run g s g.slots t) : t.D = (List.range g.slots).map (goneP s) := by
 apply List.ext_getElem?
 intro i
 by_cases hi : i < g.slots
 ·rw [h.D i hi, List.getElem?_map, List.getElem?_range hi]; simp [hi]
 ·rw [List.getElem?_eq_none (by rw [h.dl]; omega), List.getElem?_eq_none (by simp; omega)]
theorem count_map (f : Nat → Bool) (n : Nat) : ((List.range n).map f).count true = (List.range n).countP f := by
 rw [List.count, List.countP_map]
 congr 1
 funext i
 simp
def manyP (s : SwP) (i : Nat) : Nat := (List.range i).countP (goneP s)
theorem many_next (s : SwP) (i : Nat) : manyP s (i + 1) = manyP s i + (if goneP s i then 1 else 0) := by
 simp [manyP, List.range_succ, List.countP_append, List.countP_cons]
theorem many_le (s : SwP) (i : Nat) : manyP s i ≤ i := by
 unfold manyP
 have := List.countP_le_length (p := goneP s) (l := List.range i)
 simpa using this
theorem run_count {g : PlG} {s t : SwP} (h : Run g s g.slots t) : t.D.count true = manyP s g.slots := by rw [run_D h, count_map]; rfl
def leftP (s : SwP) (i : Nat) : Bool := (s.A[i]?).getD false && decide (s.C[i]? = some 2)
theorem left_of {g : PlG} {s : SwP} (ok : SwOk g s) {i : Nat} (hi : i < g.slots) : ((s.A[i]?).getD false && !goneP s i) = leftP s i := by
 have hC : i < s.C.length := by rw [ok.C]; exact hi
 obtain ⟨c, hc⟩ := get_of_lt hC
 have h2 := ok.c c (List.mem_of_getElem? hc)
 unfold goneP leftP
 rw [hc]
 rcases h2 with h | h
 ·subst h; cases (s.A[i]?).getD false <;> simp
 ·subst h; cases (s.A[i]?).getD false <;> simp
theorem sweep_all {g : PlG} {s t : SwP} (ok : SwOk g s) (h : Run g s g.slots t) : (giveAllP t.A t.D).1 = 0 ∧ (stopS g t).A.length = g.slots ∧ (∀ i, i < g.slots → (stopS g t).A[i]? = some (leftP s i)) ∧ (stopS g t).C = s.C ∧ (stopS g t).act = false := by
 obtain ⟨h1, h2⟩ := run_stop ok h
 have hA : (stopS g t).A = lessL s.A t.D := by show (giveAllP t.A t.D).2 = _; rw [h1]
 refine ⟨by rw [h1], by rw [hA, less_len, ok.A], fun i hi => ?_, h.C, rfl⟩
 rw [hA, h2 i hi, left_of ok hi]
theorem run_ok {g : PlG} (hg : PlOk g) {s : SwP} (ok : SwOk g (startS s)) : ∀ {j : Nat} {t : SwP}, Run g s j t → SwOk g t → j < g.slots → ∃ t', stepS g t = (t', true) ∧ Run g s (j + 1) t' ∧ SwOk g t' := by
 intro j t h okt hj
 obtain ⟨t', h1, h2⟩ := h.ok hg okt hj
 refine ⟨t', h1, h2, ?_⟩
 have := stepS_ok hg okt
 rw [h1] at this; exact this
def freshS (g : PlG) (R : List (List Int)) : SwP := ⟨List.replicate g.slots false, R, List.replicate g.slots 0, false, 0, List.replicate g.slots false⟩
theorem fresh_ok {g : PlG} {R : List (List Int)} {n : Nat} (hg : PlOk g) (h : R[0]? = some (List.replicate g.words 0)) : SwOk g (freshS g R) := by
 have e : (freshS g R).x = List.replicate g.words 0 := by unfold SwP.x freshS; dsimp only; rw [h]; rfl
 refine ⟨by simp [freshS], by simp [freshS], by simp [freshS], by rw [e]; exact h, by rw [e]; simp, by rw [e]; exact WdOk.rep _, ?_, Nat.zero_le _, fun _ => ⟨rfl, rfl⟩⟩
 intro v hv
 exact .inl (List.mem_replicate.1 hv).2
open Go.RowKit
set_option maxRecDepth 10000
structure WoM where
 sp : SpM
 a : ArM
 B : BoM
 k : MkM
 v : PlV
 va : Value
 vr : Value
 R : List RwD
 vc : Value
 ka : Bool
 kat : Nat
 vd : Value
 D : Heap
namespace WoM
def g (W : WoM) : PlG := W.B.p.g
end WoM
def woL (W : WoM) : List Value := [.pointer (some ⟨W.B.m.b, 0, none⟩), .pointer (some ⟨W.a.b, 0, none⟩), .pointer (some ⟨W.B.b, 0, none⟩), .pointer (some ⟨W.k.b, 0, none⟩), .pointer (some ⟨W.sp.b, 0, none⟩),
 W.v.L, W.v.F, W.v.M, .int .i64 (W.B.p.g.words : Nat), W.v.C, W.va, W.vr, .int .i64 ((0 : Nat) : Int), W.v.L, W.v.F, W.v.M, .int .i64 (W.B.p.g.words : Nat), W.v.C, W.vc, .bool W.ka, .int .i64 (W.kat : Nat), W.vd]
def woH (W : WoM) : Heap := sweepH W.sp ++ (arenaH W.a W.B.p ++ (bodyH W.B ++ (memH W.B.m ++ (planH W.B.p ++ (markH W.k W.B.p ++ W.D)))))
theorem woH_app {W : WoM} {F : Heap} : woH W ++ F = sweepH W.sp ++ (arenaH W.a W.B.p ++ (bodyH W.B ++ (memH W.B.m ++ (planH W.B.p ++ (markH W.k W.B.p ++ (W.D ++ F)))))) := by
 unfold woH; simp only [List.append_assoc]
structure WoR (w0 : World) (W : WoM) (s : SwP) : Prop where
 ok : SwOk W.B.p.g s
 sp : SpOk W.sp W.B.p.g.slots
 ar : ArOk W.a W.B.p
 bo : BoOk W.B s.x
 mK : MkOk W.k W.B.p
 e1 : W.sp.ab = W.a.b
 e2 : W.sp.bb = W.B.b
 e3 : W.sp.mb = W.k.b
 A : W.a.r.bs = s.A
 R : W.B.m.R = s.R
 t : W.B.t = 0
 C : tiC W.k.c = s.C
 act : W.k.act = true
 sact : W.sp.act = s.act
 sat : W.sp.at_ = s.at_
 sD : W.sp.d.bs = s.D
 dA : ArD w0 W.D W.v W.va W.B.p.g s.A
 dM : MemD w0 W.D W.vr W.R
 dR : rwX W.R = s.R
 dC : Sli w0 W.D bE W.vc s.C
 oC : W.vc.oneCell' = true
 oD : W.vd.oneCell' = true
 n : s.R.length ≤ 1000
structure WoK (w0 : World) (W : WoM) (s : SwP) : Prop where
 act : W.ka = s.act
 on : s.act = true → W.kat = s.at_ ∧ Sli w0 W.D boE W.vd s.D
 off : s.act = false → W.kat = 0 ∧ W.vd = .slice none 0 0
theorem WoR.bof {w0 : World} {W : WoM} {s : SwP} (h : WoR w0 W s) : BoF W.B.p.g W.R 0 s.x := ⟨h.bo.p.g, by have := congrArg List.length h.dR; simp only [rwX, List.length_map] at this; have := h.n; omega, by rw [h.dR]; exact h.ok.R, h.ok.x, h.ok.w⟩
set_option maxRecDepth 10000
def okC (c : Cfg) : Bool := smallP c && (decide ((totalP c).1 ≤ 2000) && cfgP c)
def wo0 : List Value := [.pointer none, .pointer none, .pointer none, .pointer none, .pointer none, .slice none 0 0, .slice none 0 0, .slice none 0 0, .int .i64 0, .slice none 0 0, .slice none 0 0, .slice none 0 0, .int .i64 0, .slice none 0 0, .slice none 0 0, .slice none 0 0, .int .i64 0, .slice none 0 0, .slice none 0 0, .bool false, .int .i64 0, .slice none 0 0]
theorem made_no {w0 : World} {F : Heap} {c : Cfg} {vc vt : Value} (hR : CfgR w0 F c vc vt) (hno : okC c = false) :
  Call Tryz.prog w0 13 [cfgV c vc vt] F (fun r H' => r = .tuple [.agg wo0.toArray, .bool false].toArray ∧ H' = F) := by
 have htot := fun A (hp : Part A F) => rTotal_K (hR.part hp)
 have hsm := fun A (hp : Part A F) => Small_K (hR.part hp)
 have hck := fun A (hp : Part A F) => rconfCheck_K (hR.part hp)
 obtain ⟨tt, te, htt⟩ : ∃ tt te, totalP c = (tt, te) := ⟨_, _, rfl⟩
 obtain ⟨hS, hT', o1, o2, l1, l2⟩ := hR
 unfold okC at hno
 rw [htt] at hno
 simp only [htt] at htot
 obtain ⟨cp, hcp⟩ : ∃ cp, cp = cfgP c := ⟨_, rfl⟩
 obtain ⟨sp, hsp⟩ : ∃ sp, sp = smallP c := ⟨_, rfl⟩
 simp only [← hcp] at hno hck
 simp only [← hsp] at hno hsm
 clear hcp hsp htt
 obtain ⟨cl, page, tn, workers, grey, gens⟩ := c
 dsimp only at hS hT' l1 l2
 simp only [cfgV, cfgL, prV] at htot hsm hck ⊢
 unfold wo0
 cases sp with
 | false =>
  refine Call.enter1 (n := 133) (by kernel_rfl) Tryz.func13 rfl rfl rfl ?_
  refine K.seq (K.region ?_)
  refine KL.e rfl (Eff.box rfl rfl) ?_; rintro _ _ ⟨b1, rfl, rfl⟩
  refine KL.e rfl (Eff.alloc rfl) ?_; rintro _ _ ⟨b2, rfl, rfl⟩
  refine KL.v rfl (Val.assign rfl) ?_
  refine KL.nil (KE.next (K.seq (K.region ?_)))
  refine KL.v rfl (Val.loadA rfl rfl rfl bySeeN) ?_
  refine KL.callc rfl rfl byEvL fun T hT => ?_
  refine (CallV.fn (htot _ byPart)).mono ?_
  rintro _ _ ⟨rfl, rfl⟩
  refine hT _ _ ?_; clear hT T
  refine KL.v rfl (Val.move rfl) ?_
  refine KL.v rfl (Val.extract rfl rfl) ?_
  refine KL.v rfl (Val.extract rfl rfl) ?_
  refine KL.v rfl (Val.assign rfl) ?_
  refine KL.v rfl (Val.assign rfl) ?_
  refine KL.nil (KE.next (K.seq (K.seq (K.region ?_))))
  refine KL.v rfl (Val.loadA rfl rfl rfl bySeeN) ?_
  refine KL.callc rfl rfl byEvL fun T hT => ?_
  refine (CallV.fn (hsm _ byPart)).mono ?_
  rintro _ _ ⟨rfl, rfl⟩
  refine hT _ _ ?_; clear hT T
  refine KL.v rfl (Val.notF rfl) ?_
  refine KL.v rfl (Val.move rfl) ?_
  refine KL.skipG rfl rfl rfl ?_
  refine KL.skipG rfl rfl rfl ?_
  refine KL.v rfl (Val.pickT rfl rfl rfl) ?_
  refine KL.v rfl (Val.move rfl) ?_
  refine KL.skipG rfl rfl rfl ?_
  refine KL.skipG rfl rfl rfl ?_
  refine KL.skipG rfl rfl rfl ?_
  refine KL.v rfl (Val.pickT rfl rfl rfl) ?_
  refine KL.nil (KE.next (K.condT rfl (K.seq (K.region ?_))))
  refine KL.v rfl (Val.build byParts rfl rfl byFill) ?_
  refine KL.eN (Eff.storeAL rfl rfl rfl byTake byLay byOnes) ?_; rintro _ _ rfl
  refine KL.v rfl (Val.assign rfl) ?_
  refine KL.nil (KE.next ?_)
  refine K.ret ?_
  refine KE.passR ?_
  exact KE.fin byMarks rfl byRes byPart ⟨rfl, rfl⟩
 | true =>
  by_cases ht : tt ≤ 2000
  ·cases cp with
   | true => rw [decide_eq_true ht] at hno; cases hno
   | false =>
    unfold errB at hck
    simp only [Bool.false_eq_true, if_false] at hck
    have hgt : ¬ tt > 2000 := by omega
    refine Call.enter1 (n := 133) (by kernel_rfl) Tryz.func13 rfl rfl rfl ?_
    refine K.seq (K.region ?_)
    refine KL.e rfl (Eff.box rfl rfl) ?_; rintro _ _ ⟨b1, rfl, rfl⟩
    refine KL.e rfl (Eff.alloc rfl) ?_; rintro _ _ ⟨b2, rfl, rfl⟩
    refine KL.v rfl (Val.assign rfl) ?_
    refine KL.nil (KE.next (K.seq (K.region ?_)))
    refine KL.v rfl (Val.loadA rfl rfl rfl bySeeN) ?_
    refine KL.callc rfl rfl byEvL fun T hT => ?_
    refine (CallV.fn (htot _ byPart)).mono ?_
    rintro _ _ ⟨rfl, rfl⟩
    refine hT _ _ ?_; clear hT T
    refine KL.v rfl (Val.move rfl) ?_
    refine KL.v rfl (Val.extract rfl rfl) ?_
    refine KL.v rfl (Val.extract rfl rfl) ?_
    refine KL.v rfl (Val.assign rfl) ?_
    refine KL.v rfl (Val.assign rfl) ?_
    refine KL.nil (KE.next (K.seq (K.seq (K.region ?_))))
    refine KL.v rfl (Val.loadA rfl rfl rfl bySeeN) ?_
    refine KL.callc rfl rfl byEvL fun T hT => ?_
    refine (CallV.fn (hsm _ byPart)).mono ?_
    rintro _ _ ⟨rfl, rfl⟩
    refine hT _ _ ?_; clear hT T
    refine KL.v rfl (Val.notT rfl) ?_
    refine KL.v rfl (Val.move rfl) ?_
    refine KL.yes rfl rfl ?_; refine KL.v rfl (Val.move rfl) ?_
    refine KL.yes rfl rfl ?_; refine KL.v rfl (Val.isF (Val.gtr rfl rfl) byLt) ?_
    refine KL.v rfl (Val.pickF rfl rfl rfl) ?_
    refine KL.v rfl (Val.move rfl) ?_
    refine KL.yes rfl rfl ?_; refine KL.v rfl (Val.loadA rfl rfl rfl bySeeN) ?_
    refine KL.yes rfl rfl ?_; refine KL.callc rfl rfl byEvL fun T hT => ?_
    refine (CallV.fn (hck _ byPart)).mono ?_
    rintro _ _ ⟨rfl, rfl⟩
    refine hT _ _ ?_; clear hT T
    refine KL.yes rfl rfl ?_; refine KL.v rfl (Val.isT (Val.neq rfl rfl) byLt) ?_
    refine KL.v rfl (Val.pickF rfl rfl rfl) ?_
    refine KL.nil (KE.next (K.condT rfl (K.seq (K.region ?_))))
    refine KL.v rfl (Val.build byParts rfl rfl byFill) ?_
    refine KL.eN (Eff.storeAL rfl rfl rfl byTake byLay byOnes) ?_; rintro _ _ rfl
    refine KL.v rfl (Val.assign rfl) ?_
    refine KL.nil (KE.next ?_)
    refine K.ret ?_
    refine KE.passR ?_
    exact KE.fin byMarks rfl byRes byPart ⟨rfl, rfl⟩
  ·have hgt : tt > 2000 := by omega
   refine Call.enter1 (n := 133) (by kernel_rfl) Tryz.func13 rfl rfl rfl ?_
   refine K.seq (K.region ?_)
   refine KL.e rfl (Eff.box rfl rfl) ?_; rintro _ _ ⟨b1, rfl, rfl⟩
   refine KL.e rfl (Eff.alloc rfl) ?_; rintro _ _ ⟨b2, rfl, rfl⟩
   refine KL.v rfl (Val.assign rfl) ?_
   refine KL.nil (KE.next (K.seq (K.region ?_)))
   refine KL.v rfl (Val.loadA rfl rfl rfl bySeeN) ?_
   refine KL.callc rfl rfl byEvL fun T hT => ?_
   refine (CallV.fn (htot _ byPart)).mono ?_
   rintro _ _ ⟨rfl, rfl⟩
   refine hT _ _ ?_; clear hT T
   refine KL.v rfl (Val.move rfl) ?_
   refine KL.v rfl (Val.extract rfl rfl) ?_
   refine KL.v rfl (Val.extract rfl rfl) ?_
   refine KL.v rfl (Val.assign rfl) ?_
   refine KL.v rfl (Val.assign rfl) ?_
   refine KL.nil (KE.next (K.seq (K.seq (K.region ?_))))
   refine KL.v rfl (Val.loadA rfl rfl rfl bySeeN) ?_
   refine KL.callc rfl rfl byEvL fun T hT => ?_
   refine (CallV.fn (hsm _ byPart)).mono ?_
   rintro _ _ ⟨rfl, rfl⟩
   refine hT _ _ ?_; clear hT T
   refine KL.v rfl (Val.notT rfl) ?_
   refine KL.v rfl (Val.move rfl) ?_
   refine KL.yes rfl rfl ?_; refine KL.v rfl (Val.move rfl) ?_
   refine KL.yes rfl rfl ?_; refine KL.v rfl (Val.isT (Val.gtr rfl rfl) byLt) ?_
   refine KL.v rfl (Val.pickF rfl rfl rfl) ?_
   refine KL.v rfl (Val.move rfl) ?_
   refine KL.skipG rfl rfl rfl ?_
   refine KL.skipG rfl rfl rfl ?_
   refine KL.skipG rfl rfl rfl ?_
   refine KL.v rfl (Val.pickT rfl rfl rfl) ?_
   refine KL.nil (KE.next (K.condT rfl (K.seq (K.region ?_))))
   refine KL.v rfl (Val.build byParts rfl rfl byFill) ?_
   refine KL.eN (Eff.storeAL rfl rfl rfl byTake byLay byOnes) ?_; rintro _ _ rfl
   refine KL.v rfl (Val.assign rfl) ?_
   refine KL.nil (KE.next ?_)
   refine K.ret ?_
   refine KE.passR ?_
   exact KE.fin byMarks rfl byRes byPart ⟨rfl, rfl⟩
theorem made_rel {w0 : World} {g : PlG} {mm : List (List Int)} {x0 : List Int} {B : BoM} {a : ArM} {k : MkM} {kb : Nat} {sp : SpM} {v : PlV} {va vr vcx : Value} {R : List RwD} {D : Heap} (okg : PlOk g) (hm0 : mm[0]? = some x0) (hx0r : x0 = List.replicate g.words 0) (hml : mm.length ≤ 1000) (hpg : B.p.g = g) (okB : BoOk B x0) (hBm : B.m.R = mm) (hBt : B.t = 0) (oka : ArOk a B.p) (haL : a.r.bs = List.replicate B.p.g.slots false)
  (okk : MkOk k B.p) (hkn : MkNil k B.p) (hka : k.act = true) (hkb : k.b = kb) (oksp : SpOk sp B.p.g.slots) (e1 : sp.ab = a.b) (e2 : sp.bb = B.b) (e3 : sp.mb = kb) (spat : sp.at_ = 0) (spact : sp.act = false) (spd : sp.d.bs = List.replicate B.p.g.slots false)
  (hAD : ArD w0 D v va g (List.replicate g.slots false)) (hMD : MemD w0 D vr R) (hrR : rwX R = mm) (hC : Sli w0 D bE vcx (List.replicate g.slots 0)) (ho : vcx.oneCell' = true) :
  WoR w0 ⟨sp, a, B, k, v, va, vr, R, vcx, false, 0, .slice none 0 0, D⟩ (freshS g mm) ∧ WoK w0 ⟨sp, a, B, k, v, va, vr, R, vcx, false, 0, .slice none 0 0, D⟩ (freshS g mm) := by
 subst hpg hBm
 have hx : (freshS B.p.g B.m.R).x = x0 := by unfold SwP.x freshS; dsimp only; rw [hm0]; rfl
 refine ⟨⟨fresh_ok (n := 0) okg (by rw [← hx0r]; exact hm0), oksp, oka, by rw [hx]; exact okB, okk, e1, e2, e3.trans hkb.symm, haL, rfl, hBt, hkn.c, hka, spact, spat, spd, hAD, hMD, hrR, hC, ho, rfl, hml⟩, ⟨rfl, fun h => (by cases h), fun _ => ⟨rfl, rfl⟩⟩⟩
def MadeW (w0 : World) (c : Cfg) (W : WoM) : Prop := ∃ s : SwP, s = freshS (gOf c 0) (mR (fun t => wordsP c (t : Nat)) c.tn.length) ∧ W.B.p.g = gOf c 0 ∧ WoR w0 W s ∧ WoK w0 W s
set_option maxHeartbeats 8000000 in
theorem made_K {w0 : World} {Dc F : Heap} {c : Cfg} {vc vt : Value} (hG : Glob w0) (hR : CfgR w0 (Dc ++ F) c vc vt) (hok : okC c = true) (hC : Sli w0 Dc iE vc c.cl) (hvc : vc.oneCell' = true) :
  Call Tryz.prog w0 13 [cfgV c vc vt] (Dc ++ F) (fun r H' => ∃ W : WoM, MadeW w0 c W ∧ r = .tuple [.agg (woL W).toArray, .bool true].toArray ∧ H' = woH W ++ F) := by
 unfold okC at hok
 simp only [Bool.and_eq_true, decide_eq_true_eq] at hok
 obtain ⟨k1, k2, k3⟩ := hok
 have htot := fun A (hp : Part A (Dc ++ F)) => rTotal_K (hR.part hp)
 have hsm := fun A (hp : Part A (Dc ++ F)) => Small_K (hR.part hp)
 have hck := fun A (hp : Part A (Dc ++ F)) => rconfCheck_K (hR.part hp)
 have hcfg := cfg_ok k3
 have ht : thereP c 0 0 = true := there_of (i := 0) (j := 0) k3 (by have := hcfg.tn; omega) (by have := hcfg.cl; omega)
 have ga := g_at ht
 have okg := ga.ok
 have hreg : wordsP c 0 = (gOf c 0).words := by
  have h1 := ga.region
  have h2 := region_in (i := 0) k3 (by have := hcfg.tn; omega)
  have h3 : regionP c 0 = (wordsP c ((0 : Nat) : Int), 0) := h2
  rw [h3] at h1
  exact (Prod.mk.inj h1).1
 have hmn := fun A (hp : Part A (Dc ++ F)) => mNew_K (hR.part hp) k3
 have hpn := fun A (hp : Part A (Dc ++ F)) => pNew_K (t := 0) (hR.part hp) ht
 have hrp := fun A (hp : Part A (Dc ++ F)) => rpNew_K (t := 0) (hR.part hp) ht hvc
 have hrm := fun A (hp : Part A (Dc ++ F)) => rmNew_K (hR.part hp) k3
 have hlen := hcfg.tn
 have hxl : (List.replicate (wordsP c ((0 : Nat) : Int)).toNat (0 : Int)).length = (gOf c 0).words := by
  rw [List.length_replicate]; show (wordsP c 0).toNat = _; rw [hreg]; omega
 obtain ⟨tt, te, htt⟩ : ∃ tt te, totalP c = (tt, te) := ⟨_, _, rfl⟩
 rw [htt] at k2
 simp only [htt] at htot
 dsimp only at k2
 have hgt : ¬ tt > 2000 := by omega
 obtain ⟨mm, hmm⟩ : ∃ mm, mm = mR (fun t => wordsP c (t : Nat)) c.tn.length := ⟨_, rfl⟩
 have hm0 : mm[0]? = some (List.replicate (wordsP c ((0 : Nat) : Int)).toNat (0 : Int)) := by rw [hmm]; exact mR_get (by omega)
 have hml : mm.length ≤ 1000 := by rw [hmm, mR_len]; omega
 obtain ⟨x0, hx0⟩ : ∃ x0, x0 = List.replicate (wordsP c ((0 : Nat) : Int)).toNat (0 : Int) := ⟨_, rfl⟩
 have hx0w : WdOk x0 := by rw [hx0]; exact WdOk.rep _
 have hx0r : x0 = List.replicate (gOf c 0).words 0 := by rw [hx0]; show List.replicate (wordsP c 0).toNat 0 = _; rw [hreg]; rfl
 rw [← hx0] at hm0 hxl
 unfold MadeW
 rw [← hmm]
 simp only [← hmm] at hmn hrm
 obtain ⟨g, hg⟩ : ∃ g, g = gOf c 0 := ⟨_, rfl⟩
 simp only [← hg] at hpn hrp okg hxl hx0r ⊢
 unfold errB at hck
 simp only [k1, k3, if_true] at hck hsm
 obtain ⟨hS, hT', o1, o2, l1, l2⟩ := hR
 clear htt hg hmm hx0 hreg ga ht hcfg k1 k3
 obtain ⟨cl, page, tn, workers, grey, gens⟩ := c
 dsimp only at hS hT' l1 l2 hC hlen
 simp only [cfgV, cfgL, prV] at htot hsm hck hmn hpn hrp hrm ⊢
 have hslots := okg.slots
 have hLl := L_len (g := g)
 refine Call.enter1 (n := 133) (by kernel_rfl) Tryz.func13 rfl rfl rfl ?_
 refine K.seq (K.region ?_)
 refine KL.e rfl (Eff.box rfl rfl) ?_; rintro _ _ ⟨b1, rfl, rfl⟩
 refine KL.e rfl (Eff.alloc rfl) ?_; rintro _ _ ⟨b2, rfl, rfl⟩
 refine KL.v rfl (Val.assign rfl) ?_
 refine KL.nil (KE.next (K.seq (K.region ?_)))
 refine KL.v rfl (Val.loadA rfl rfl rfl bySeeN) ?_
 refine KL.callc rfl rfl byEvL fun T hT => ?_
 refine (CallV.fn (htot _ byPart)).mono ?_
 rintro _ _ ⟨rfl, rfl⟩
 refine hT _ _ ?_; clear hT T
 refine KL.v rfl (Val.move rfl) ?_
 refine KL.v rfl (Val.extract rfl rfl) ?_
 refine KL.v rfl (Val.extract rfl rfl) ?_
 refine KL.v rfl (Val.assign rfl) ?_
 refine KL.v rfl (Val.assign rfl) ?_
 refine KL.nil (KE.next (K.seq (K.seq (K.region ?_))))
 refine KL.v rfl (Val.loadA rfl rfl rfl bySeeN) ?_
 refine KL.callc rfl rfl byEvL fun T hT => ?_
 refine (CallV.fn (hsm _ byPart)).mono ?_
 rintro _ _ ⟨rfl, rfl⟩
 refine hT _ _ ?_; clear hT T
 refine KL.v rfl (Val.notT rfl) ?_
 refine KL.v rfl (Val.move rfl) ?_
 refine KL.yes rfl rfl ?_; refine KL.v rfl (Val.move rfl) ?_
 refine KL.yes rfl rfl ?_; refine KL.v rfl (Val.isF (Val.gtr rfl rfl) byLt) ?_
 refine KL.v rfl (Val.pickF rfl rfl rfl) ?_
 refine KL.v rfl (Val.move rfl) ?_
 refine KL.yes rfl rfl ?_; refine KL.v rfl (Val.loadA rfl rfl rfl bySeeN) ?_
 refine KL.yes rfl rfl ?_; refine KL.callc rfl rfl byEvL fun T hT => ?_
 refine (CallV.fn (hck _ byPart)).mono ?_
 rintro _ _ ⟨rfl, rfl⟩
 refine hT _ _ ?_; clear hT T
 refine KL.yes rfl rfl ?_; refine KL.v rfl (Val.isF (Val.neq rfl rfl) byLt) ?_
 refine KL.v rfl (Val.pickF rfl rfl rfl) ?_
 refine KL.nil (KE.next (K.condF rfl (K.skip (KE.next (K.seq (K.region ?_))))))
 refine KL.e rfl (Eff.alloc rfl) ?_; rintro _ _ ⟨b6, rfl, rfl⟩
 refine KL.nil (KE.next (K.seq (K.region ?_)))
 refine KL.v rfl (Val.loadA rfl rfl rfl bySeeN) ?_
 refine KL.callc rfl rfl byEvL fun T hT => ?_
 refine (CallV.fn (hmn _ byPart)).mono ?_
 rintro _ _ ⟨m, okm, hmR, rfl, rfl⟩
 refine hT _ _ ?_; clear hT T
 refine KL.v rfl (Val.move rfl) ?_
 refine KL.v rfl (Val.extract rfl rfl) ?_
 refine KL.v rfl (Val.extract rfl rfl) ?_
 refine KL.v rfl (Val.fieldAddr0 (k := 0) rfl rfl) ?_
 refine KL.eN (Eff.storeL rfl rfl byOne rfl byTake bySetAt) ?_; rintro _ _ rfl
 refine KL.nil (KE.next (K.seq (K.region ?_)))
 refine KL.v rfl (Val.loadA rfl rfl rfl bySeeN) ?_
 refine KL.callc rfl rfl byEvL fun T hT => ?_
 refine (CallV.fn (hpn _ byPart)).mono ?_
 rintro _ _ ⟨p, okp, hpg, rfl, rfl⟩
 refine hT _ _ ?_; clear hT T
 refine KL.v rfl (Val.move rfl) ?_
 refine KL.v rfl (Val.extract rfl rfl) ?_
 refine KL.v rfl (Val.extract rfl rfl) ?_
 refine KL.v rfl (Val.assign rfl) ?_
 refine KL.v rfl (Val.assign rfl) ?_
 refine KL.nil (KE.next (K.seq (K.region ?_)))
 refine KL.v rfl (Val.loadA rfl rfl rfl bySeeN) ?_
 refine KL.callc rfl rfl byEvL fun T hT => ?_
 refine (CallV.fn (hrp _ byPart)).mono ?_
 rintro _ _ ⟨v, Dp, hPD0, rfl, rfl⟩
 have hPD := hPD0 Dc hC
 clear hPD0
 have q1 := hPD.oL
 have q2 := hPD.oF
 have q3 := hPD.oM
 have q4 := hPD.oC
 have hPL := hPD.L
 unfold plL
 refine hT _ _ ?_; clear hT T
 refine KL.v rfl (Val.move rfl) ?_
 refine KL.v rfl (Val.extract rfl rfl) ?_
 refine KL.v rfl (Val.extract rfl rfl) ?_
 refine KL.e rfl (Eff.alloc rfl) ?_; rintro _ _ ⟨b9, rfl, rfl⟩
 refine KL.eN (Eff.storeAL rfl rfl rfl byTake byLay byOnes) ?_; rintro _ _ rfl
 refine KL.v rfl (Val.assign rfl) ?_
 refine KL.nil (KE.next (K.seq (K.region ?_)))
 refine KL.callc rfl rfl byEvL fun T hT => ?_
 refine (CallV.fn (tbNew_K (n := 1) (gens := 1) (by decide) (by decide))).mono ?_
 rintro _ _ ⟨tb, oktb, htbl, htbg, rfl, rfl⟩
 refine hT _ _ ?_; clear hT T
 refine KL.v rfl (Val.move rfl) ?_
 refine KL.v rfl (Val.extract rfl rfl) ?_
 refine KL.v rfl (Val.extract rfl rfl) ?_
 refine KL.v rfl (Val.assign rfl) ?_
 refine KL.v rfl (Val.assign rfl) ?_
 refine KL.nil (KE.next (K.seq (K.region ?_)))
 refine KL.v rfl (Val.move rfl) ?_
 refine KL.callc rfl rfl byEvL fun T hT => ?_
 refine (CallV.part (CallV.fn (Slots0_K okp)) byPart).mono ?_
 rintro _ _ ⟨rfl, rfl⟩
 refine hT _ _ ?_; clear hT T
 refine KL.callc rfl rfl byEvL fun T hT => ?_
 refine (CallV.fn (piNew_K (n := p.g.slots) (by rw [hpg]; omega))).mono ?_
 rintro _ _ ⟨pi, okpi, hpil, rfl, rfl⟩
 refine hT _ _ ?_; clear hT T
 refine KL.v rfl (Val.move rfl) ?_
 refine KL.v rfl (Val.extract rfl rfl) ?_
 refine KL.v rfl (Val.extract rfl rfl) ?_
 refine KL.v rfl (Val.assign rfl) ?_
 refine KL.v rfl (Val.assign rfl) ?_
 refine KL.nil (KE.next (K.seq (K.region ?_)))
 refine KL.v rfl (Val.move rfl) ?_
 refine KL.callc rfl rfl byEvL fun T hT => ?_
 refine (CallV.part (CallV.fn (aNew_K okp)) byPart).mono ?_
 rintro _ _ ⟨a, oka, haL, rfl, rfl⟩
 refine hT _ _ ?_; clear hT T
 refine KL.v rfl (Val.move rfl) ?_
 refine KL.v rfl (Val.extract rfl rfl) ?_
 refine KL.v rfl (Val.extract rfl rfl) ?_
 refine KL.v rfl (Val.fieldAddr0 (k := 1) rfl rfl) ?_
 refine KL.eN (Eff.storeL rfl rfl byOne rfl byTake bySetAt) ?_; rintro _ _ rfl
 refine KL.nil (KE.next (K.seq (K.region ?_)))
 refine KL.v rfl (Val.fieldAddr0 (k := 0) rfl rfl) ?_
 refine KL.v rfl (Val.loadP rfl rfl (Sees.cell byTake rfl)) ?_
 refine KL.v rfl (Val.move rfl) ?_
 refine KL.callc rfl rfl byEvL fun T hT => ?_
 refine (CallV.part (CallV.fn (bNew_K (t := 0) (x := x0) okm (by rw [hmR]; exact hm0) okp (by rw [hpg]; exact hxl) hx0w)) byPart).mono ?_
 rintro _ _ ⟨B, okB, rfl, hBt, rfl, rfl, rfl⟩
 refine hT _ _ ?_; clear hT T
 refine KL.v rfl (Val.move rfl) ?_
 refine KL.v rfl (Val.extract rfl rfl) ?_
 refine KL.v rfl (Val.extract rfl rfl) ?_
 refine KL.v rfl (Val.fieldAddr0 (k := 2) rfl rfl) ?_
 refine KL.eN (Eff.storeL rfl rfl byOne rfl byTake bySetAt) ?_; rintro _ _ rfl
 refine KL.nil (KE.next (K.seq (K.region ?_)))
 refine KL.v rfl (Val.fieldAddr0 (k := 2) rfl rfl) ?_
 refine KL.v rfl (Val.loadP rfl rfl (Sees.cell byTake rfl)) ?_
 refine KL.v rfl (Val.move rfl) ?_
 refine KL.v rfl (Val.move rfl) ?_
 refine KL.v rfl (Val.move rfl) ?_
 refine KL.callc rfl rfl byEvL fun T hT => ?_
 refine (CallV.part (CallV.fn (mkNew_K (nw := 0) (long := 1) hG okB oktb okpi (by rw [hpil, List.length_replicate]) (by decide) (by decide))) byPart).mono ?_
 rintro _ _ ⟨k, okk, hkn, hka, hkf, hkb, hkt, hkp, hkh, hkr, rfl, rfl⟩
 refine hT _ _ ?_; clear hT T
 refine KL.v rfl (Val.move rfl) ?_
 refine KL.v rfl (Val.extract rfl rfl) ?_
 refine KL.v rfl (Val.extract rfl rfl) ?_
 refine KL.v rfl (Val.fieldAddr0 (k := 3) rfl rfl) ?_
 refine KL.eN (Eff.storeL rfl rfl byOne rfl byTake bySetAt) ?_; rintro _ _ rfl
 refine KL.nil (KE.next (K.seq (K.region ?_)))
 refine KL.v rfl (Val.move rfl) ?_
 refine KL.v rfl (Val.fieldAddr0 (k := 1) rfl rfl) ?_
 refine KL.v rfl (Val.loadP rfl rfl (Sees.cell byTake rfl)) ?_
 refine KL.v rfl (Val.fieldAddr0 (k := 2) rfl rfl) ?_
 refine KL.v rfl (Val.loadP rfl rfl (Sees.cell byTake rfl)) ?_
 refine KL.v rfl (Val.fieldAddr0 (k := 3) rfl rfl) ?_
 refine KL.v rfl (Val.loadP rfl rfl (Sees.cell byTake rfl)) ?_
 refine KL.callc rfl rfl byEvL fun T hT => ?_
 refine (CallV.part (CallV.fn (spNew_K hG oka okB okk)) byPart).mono ?_
 rintro _ _ ⟨sp, oksp, e1, e2, e3, spat, spact, spd, rfl, rfl⟩
 refine hT _ _ ?_; clear hT T
 refine KL.v rfl (Val.move rfl) ?_
 refine KL.v rfl (Val.extract rfl rfl) ?_
 refine KL.v rfl (Val.extract rfl rfl) ?_
 refine KL.v rfl (Val.fieldAddr0 (k := 4) rfl rfl) ?_
 refine KL.eN (Eff.storeL rfl rfl byOne rfl byTake bySetAt) ?_; rintro _ _ rfl
 refine KL.nil (KE.next (K.seq (K.region ?_)))
 refine KL.v rfl (Val.loadA rfl rfl rfl bySeeN) ?_
 refine KL.callc rfl rfl byEvL fun T hT => ?_
 refine (CallV.part (CallV.fn (raNew_K hPD okg)) (by simp only [List.append_assoc]; exact byPart)).mono ?_
 rintro _ _ ⟨va, Na, hAD, rfl, rfl⟩
 simp only [List.append_assoc]
 have q5 := hAD.o
 unfold arL
 refine hT _ _ ?_; clear hT T
 refine KL.v rfl (Val.fieldAddr0 (k := 5) rfl rfl) ?_
 refine KL.eN (Eff.storeAL rfl rfl rfl byTake byLay byOnes) ?_; rintro _ _ rfl
 refine KL.nil (KE.next (K.seq ?_))
 refine K.drawn _ [(0, 0), (2, 1), (1, 2), (3, 0), (4, 0), (5, 2)] (by kernel_rfl) (by kernel_rfl) (by kernel_rfl) (by kernel_rfl) (by kernel_rfl) (by kernel_rfl) (Part.drop Part.all) ?_
 refine KD.v0 rfl rfl (Val.loadA rfl rfl rfl bySeeN) ?_
 refine KD.v1 rfl rfl (Val.loadA rfl rfl rfl bySeeN) ?_
 refine KD.callc rfl rfl rfl byEvL fun T hT => ?_
 refine (CallV.fn (hrm _ byPart)).mono ?_
 rintro _ _ ⟨vr, R, Nr, hMD, hrR, rfl, rfl⟩
 have q6 := hMD.o
 refine hT _ _ byPart ?_; clear hT T
 refine KD.v0 rfl rfl (Val.build byParts rfl rfl byFill) ?_
 refine KD.v0 rfl rfl (Val.fieldAddr0 (k := 11) rfl rfl) ?_
 refine KD.eN rfl (Eff.storeAL rfl rfl rfl byTake byLay byOnes) ?_; rintro _ _ rfl; refine ⟨byPart, ?_⟩
 refine KD.nil ?_
 refine KE.next (K.seq (K.region ?_))
 refine KL.v rfl (Val.fieldAddr0 (k := 0) rfl rfl) ?_
 refine KL.v rfl (Val.loadP rfl rfl (Sees.cell byTake rfl)) ?_
 refine KL.v rfl (Val.lenSl rfl rfl bySli) ?_
 refine KL.e rfl (Eff.makeR (E := bE) (x0 := 0) rfl rfl rfl rfl rfl rfl (by first | assumption | omega | (simp <;> fail) | (simp; omega))) ?_; rintro _ _ ⟨o106, ok106, rfl, rfl⟩
 refine KL.v rfl (Val.fieldAddr0 (k := 18) rfl rfl) ?_
 refine KL.eN (Eff.storeL rfl rfl byOne rfl byTake bySetAt) ?_; rintro _ _ rfl
 refine KL.nil (KE.next ?_)
 refine byCodeD ?_
 (first | refine K.seq (K.drawn ((b6, cells [.pointer (some ⟨B.m.b, 0, none⟩), .pointer (some ⟨a.b, 0, none⟩), .pointer (some ⟨B.b, 0, none⟩), .pointer (some ⟨k.b, 0, none⟩), .pointer (some ⟨sp.b, 0, none⟩), v.L, v.F, v.M, .int .i64 (g.words : Nat), v.C, va, vr, .int .i64 0, v.L, v.F, v.M, .int .i64 (g.words : Nat), v.C, oV o106 (List.replicate g.L.length (0 : Int)).length, .bool false, .int .i64 0, .slice none 0 0] 47) :: []) [(0, 1), (1, 0), (2, 0), (3, 0), (4, 0), (5, 0), (6, 0), (7, 0), (8, 0), (9, 0), (10, 0), (11, 0), (12, 0), (13, 0), (14, 0), (15, 0), (16, 0), (17, 0), (18, 0), (19, 0), (20, 0), (21, 0), (22, 2), (23, 1), (24, 1), (25, 2), (26, 0)] (by kernel_rfl) (by kernel_rfl) (by kernel_rfl) (by kernel_rfl) (by kernel_rfl) (by kernel_rfl) byPart ?_) | refine K.seq (K.seq (K.drawn ((b6, cells [.pointer (some ⟨B.m.b, 0, none⟩), .pointer (some ⟨a.b, 0, none⟩), .pointer (some ⟨B.b, 0, none⟩), .pointer (some ⟨k.b, 0, none⟩), .pointer (some ⟨sp.b, 0, none⟩), v.L, v.F, v.M, .int .i64 (g.words : Nat), v.C, va, vr, .int .i64 0, v.L, v.F, v.M, .int .i64 (g.words : Nat), v.C, oV o106 (List.replicate g.L.length (0 : Int)).length, .bool false, .int .i64 0, .slice none 0 0] 47) :: []) [(0, 1), (1, 0), (2, 0), (3, 0), (4, 0), (5, 0), (6, 0), (7, 0), (8, 0), (9, 0), (10, 0), (11, 0), (12, 0), (13, 0), (14, 0), (15, 0), (16, 0), (17, 0), (18, 0), (19, 0), (20, 0), (21, 0), (22, 2), (23, 1), (24, 1), (25, 2), (26, 0)] (by kernel_rfl) (by kernel_rfl) (by kernel_rfl) (by kernel_rfl) (by kernel_rfl) (by kernel_rfl) byPart ?_)) | refine K.drawn ((b6, cells [.pointer (some ⟨B.m.b, 0, none⟩), .pointer (some ⟨a.b, 0, none⟩), .pointer (some ⟨B.b, 0, none⟩), .pointer (some ⟨k.b, 0, none⟩), .pointer (some ⟨sp.b, 0, none⟩), v.L, v.F, v.M, .int .i64 (g.words : Nat), v.C, va, vr, .int .i64 0, v.L, v.F, v.M, .int .i64 (g.words : Nat), v.C, oV o106 (List.replicate g.L.length (0 : Int)).length, .bool false, .int .i64 0, .slice none 0 0] 47) :: []) [(0, 1), (1, 0), (2, 0), (3, 0), (4, 0), (5, 0), (6, 0), (7, 0), (8, 0), (9, 0), (10, 0), (11, 0), (12, 0), (13, 0), (14, 0), (15, 0), (16, 0), (17, 0), (18, 0), (19, 0), (20, 0), (21, 0), (22, 2), (23, 1), (24, 1), (25, 2), (26, 0)] (by kernel_rfl) (by kernel_rfl) (by kernel_rfl) (by kernel_rfl) (by kernel_rfl) (by kernel_rfl) byPart ?_)
 (first | refine KD.v1 rfl rfl (Val.loadAP rfl rfl rfl bySeeA) ?_ | refine KD.v1 rfl rfl (Val.loadA rfl rfl rfl bySeeN) ?_)
 (first | refine KD.v0 rfl rfl (Val.fieldSl (k := 1) rfl rfl) ?_ | refine KD.v0 rfl rfl (Val.fieldAddr0 (k := 1) rfl rfl) ?_ | refine KD.v0 rfl rfl (Val.fieldAddrZ rfl rfl) ?_ | refine KD.v0 rfl rfl (Val.fieldAddr (k := 1) rfl rfl) ?_)
 (first | refine KD.v0 rfl rfl (Val.loadP rfl rfl bySee) ?_ | refine KD.v0 rfl rfl (Val.loadP rfl rfl (Sees.more (by assumption) byPart)) ?_)
 refine KD.v0 rfl rfl (Val.neqPN rfl rfl rfl) ?_
 refine KD.v0 rfl rfl (Val.move rfl) ?_
 (first | refine KD.no rfl rfl rfl rfl rfl ?_ | refine KD.noU rfl rfl rfl rfl rfl ?_ | refine KD.y0 rfl rfl rfl rfl (Val.fieldSl (k := 2) rfl rfl) ?_ | refine KD.y0 rfl rfl rfl rfl (Val.fieldAddr0 (k := 2) rfl rfl) ?_ | refine KD.y0 rfl rfl rfl rfl (Val.fieldAddrZ rfl rfl) ?_ | refine KD.y0 rfl rfl rfl rfl (Val.fieldAddr (k := 2) rfl rfl) ?_)
 (first | refine KD.no rfl rfl rfl rfl rfl ?_ | refine KD.noU rfl rfl rfl rfl rfl ?_ | refine KD.y0 rfl rfl rfl rfl (Val.loadP rfl rfl bySee) ?_ | refine KD.y0 rfl rfl rfl rfl (Val.loadP rfl rfl (Sees.more (by assumption) byPart)) ?_)
 (first | refine KD.no rfl rfl rfl rfl rfl ?_ | refine KD.noU rfl rfl rfl rfl rfl ?_ | refine KD.y0 rfl rfl rfl rfl (Val.neqPN rfl rfl rfl) ?_)
 (first | refine KD.v0 rfl rfl (Val.pickT rfl rfl rfl) ?_ | refine KD.v0 rfl rfl (Val.pickF rfl rfl rfl) ?_ | refine KD.v0 rfl rfl (Val.pickB rfl rfl rfl) ?_)
 refine KD.v0 rfl rfl (Val.move rfl) ?_
 (first | refine KD.no rfl rfl rfl rfl rfl ?_ | refine KD.noU rfl rfl rfl rfl rfl ?_ | refine KD.y0 rfl rfl rfl rfl (Val.fieldSl (k := 3) rfl rfl) ?_ | refine KD.y0 rfl rfl rfl rfl (Val.fieldAddr0 (k := 3) rfl rfl) ?_ | refine KD.y0 rfl rfl rfl rfl (Val.fieldAddrZ rfl rfl) ?_ | refine KD.y0 rfl rfl rfl rfl (Val.fieldAddr (k := 3) rfl rfl) ?_)
 (first | refine KD.no rfl rfl rfl rfl rfl ?_ | refine KD.noU rfl rfl rfl rfl rfl ?_ | refine KD.y0 rfl rfl rfl rfl (Val.loadP rfl rfl bySee) ?_ | refine KD.y0 rfl rfl rfl rfl (Val.loadP rfl rfl (Sees.more (by assumption) byPart)) ?_)
 (first | refine KD.no rfl rfl rfl rfl rfl ?_ | refine KD.noU rfl rfl rfl rfl rfl ?_ | refine KD.y0 rfl rfl rfl rfl (Val.neqPN rfl rfl rfl) ?_)
 (first | refine KD.v0 rfl rfl (Val.pickT rfl rfl rfl) ?_ | refine KD.v0 rfl rfl (Val.pickF rfl rfl rfl) ?_ | refine KD.v0 rfl rfl (Val.pickB rfl rfl rfl) ?_)
 refine KD.v0 rfl rfl (Val.move rfl) ?_
 (first | refine KD.no rfl rfl rfl rfl rfl ?_ | refine KD.noU rfl rfl rfl rfl rfl ?_ | refine KD.y0 rfl rfl rfl rfl (Val.fieldSl (k := 4) rfl rfl) ?_ | refine KD.y0 rfl rfl rfl rfl (Val.fieldAddr0 (k := 4) rfl rfl) ?_ | refine KD.y0 rfl rfl rfl rfl (Val.fieldAddrZ rfl rfl) ?_ | refine KD.y0 rfl rfl rfl rfl (Val.fieldAddr (k := 4) rfl rfl) ?_)
 (first | refine KD.no rfl rfl rfl rfl rfl ?_ | refine KD.noU rfl rfl rfl rfl rfl ?_ | refine KD.y0 rfl rfl rfl rfl (Val.loadP rfl rfl bySee) ?_ | refine KD.y0 rfl rfl rfl rfl (Val.loadP rfl rfl (Sees.more (by assumption) byPart)) ?_)
 (first | refine KD.no rfl rfl rfl rfl rfl ?_ | refine KD.noU rfl rfl rfl rfl rfl ?_ | refine KD.y0 rfl rfl rfl rfl (Val.neqPN rfl rfl rfl) ?_)
 (first | refine KD.v0 rfl rfl (Val.pickT rfl rfl rfl) ?_ | refine KD.v0 rfl rfl (Val.pickF rfl rfl rfl) ?_ | refine KD.v0 rfl rfl (Val.pickB rfl rfl rfl) ?_)
 refine KD.v0 rfl rfl (Val.move rfl) ?_
 (first | refine KD.no rfl rfl rfl rfl rfl ?_ | refine KD.noU rfl rfl rfl rfl rfl ?_ | refine KD.y0 rfl rfl rfl rfl (Val.fieldSl (k := 3) rfl rfl) ?_ | refine KD.y0 rfl rfl rfl rfl (Val.fieldAddr0 (k := 3) rfl rfl) ?_ | refine KD.y0 rfl rfl rfl rfl (Val.fieldAddrZ rfl rfl) ?_ | refine KD.y0 rfl rfl rfl rfl (Val.fieldAddr (k := 3) rfl rfl) ?_)
 (first | refine KD.no rfl rfl rfl rfl rfl ?_ | refine KD.noU rfl rfl rfl rfl rfl ?_ | refine KD.y0 rfl rfl rfl rfl (Val.loadP rfl rfl bySee) ?_ | refine KD.y0 rfl rfl rfl rfl (Val.loadP rfl rfl (Sees.more (by assumption) byPart)) ?_)
 refine KD.callcY rfl rfl rfl rfl rfl byEvL fun T hT => ?_
 refine (CallV.part (CallV.fn (mkStart_K okk hka (by rw [hkf]; decide))) byPart).mono ?_
 rintro _ _ ⟨rfl, k', okk', hkn', hkas, hka', hkf', rfl⟩
 refine hT _ _ byPart ?_; clear hT T
 (first | refine KD.no rfl rfl rfl rfl rfl ?_ | refine KD.noU rfl rfl rfl rfl rfl ?_ | refine KD.y1 rfl rfl rfl rfl (Val.isT (Val.eql rfl rfl) byLt) ?_ | refine KD.y1 rfl rfl rfl rfl (Val.isF (Val.eql rfl rfl) byLt) ?_ | refine KD.y1 rfl rfl rfl rfl (Val.eql rfl rfl) ?_)
 (first | refine KD.v1 rfl rfl (Val.pickT rfl rfl rfl) ?_ | refine KD.v1 rfl rfl (Val.pickF rfl rfl rfl) ?_ | refine KD.v1 rfl rfl (Val.pickB rfl rfl rfl) ?_)
 (first | (refine KD.eN rfl (Eff.storeAL rfl rfl rfl byTake byLay byOnes) ?_; rintro _ _ rfl; refine ⟨byPart, ?_⟩) | (refine KD.eN rfl (Eff.stSlA rfl rfl rfl rfl byTakeL (by assumption) (by assumption)) ?_; rintro _ _ rfl; refine ⟨byPart, ?_⟩))
 refine KD.v0 rfl rfl (Val.assign rfl) ?_
 refine KD.nil ?_
 refine KE.next ?_
 refine K.ret ?_
 have hkb' := hkas.b
 have hvcx : oV o106 (List.replicate g.L.length (0 : Int)).length = oV o106 (List.replicate g.slots (0 : Int)).length := by rw [hLl]
 obtain ⟨W, hWd⟩ : ∃ W : WoM, W = ⟨sp, a, B, k', v, va, vr, R, oV o106 (List.replicate g.L.length (0 : Int)).length, false, 0, .slice none 0 0, oH bE 5 (List.replicate g.L.length 0) o106 ++ (Nr ++ (Na ++ (Dp ++ (Dc ++ (tabH tb ++ pinsH pi)))))⟩ := ⟨_, rfl⟩
 have hH : woH W ++ F = sweepH sp ++ (arenaH a B.p ++ (bodyH B ++ (memH B.m ++ (planH B.p ++ (markH k' B.p ++ (oH bE 5 (List.replicate g.L.length 0) o106 ++ (Nr ++ (Na ++ (Dp ++ (Dc ++ (tabH tb ++ (pinsH pi ++ F)))))))))))) := by
  rw [hWd, woH_app]; simp only [List.append_assoc]
 have hL : woL W = [.pointer (some ⟨B.m.b, 0, none⟩), .pointer (some ⟨a.b, 0, none⟩), .pointer (some ⟨B.b, 0, none⟩), .pointer (some ⟨k.b, 0, none⟩), .pointer (some ⟨sp.b, 0, none⟩), v.L, v.F, v.M, .int .i64 (g.words : Nat), v.C, va, vr, .int .i64 0, v.L, v.F, v.M, .int .i64 (g.words : Nat), v.C, oV o106 (List.replicate g.L.length (0 : Int)).length, .bool false, .int .i64 0, .slice none 0 0] := by
  rw [hWd]; unfold woL; dsimp only; rw [hpg, hkb']; rfl
 have hrel := made_rel (w0 := w0) (D := oH bE 5 (List.replicate g.L.length 0) o106 ++ (Nr ++ (Na ++ (Dp ++ (Dc ++ (tabH tb ++ pinsH pi)))))) (v := v) (va := va) (vr := vr) (R := R) (vcx := oV o106 (List.replicate g.L.length (0 : Int)).length) okg hm0 hx0r hml hpg okB hmR hBt oka haL okk' hkn' hka' hkb' oksp e1 e2 e3 spat spact spd (hAD.part byPart) (hMD.part byPart) hrR (by rw [← hLl]; exact Sli.own byTakeL ok106 rfl) (oV_one _ _)
 rw [← hWd] at hrel
 exact KE.fin (H' := woH W ++ F) byMarks rfl byRes (by rw [hH]; exact byPart) ⟨W, ⟨_, rfl, by rw [hWd]; exact hpg, hrel.1, hrel.2⟩, by rw [hL]; rfl, rfl⟩
open Go.RowKit
set_option maxRecDepth 10000
def DoesP (w0 : World) (W : WoM) (s' : SwP) (F : Heap) (r : Value) (H' : Heap) : Prop :=
 ∃ W' : WoM, WoR w0 W' s' ∧ WoK w0 W' s' ∧ W'.B.p.g = W.B.p.g ∧ r = .tuple [.agg (woL W').toArray, .bool true].toArray ∧ H' = woH W' ++ F
theorem take_err {g : PlG} {A : List Bool} {n : Int} (h : (takeP g A n).2.1 ≠ 0) : (takeP g A n).2.2 = A := by
 unfold takeP at h ⊢
 split
 ·rename_i hk
  rw [if_pos hk] at h
  split
  ·rename_i i hf
   rw [hf] at h
   exact absurd rfl h
  ·rfl
 ·rfl
theorem bo_put {B : BoM} {x y : List Int} (ok : BoOk B x) (hl : y.length = x.length) (hw : WdOk y) : BoOk ⟨B.b, putM B.m B.t y, B.t, B.p⟩ y :=
 ⟨putM_ok ok.m ok.r hl, ok.p, putM_R ok.r, by rw [hl]; exact ok.n, hw⟩
section
variable {w0 : World} {s : SwP} {sp : SpM} {a a' : ArM} {B : BoM} {k k' : MkM} {v : PlV} {va vr vc vd va' vr' vc' vd' : Value} {R R' : List RwD} {ka ka' : Bool} {kat kat' : Nat} {D D' : Heap}
theorem rel_put {A' : List Bool} {y : List Int} (hW : WoR w0 ⟨sp, a, B, k, v, va, vr, R, vc, ka, kat, vd, D⟩ s) (oka' : ArOk a' B.p) (ab : a'.b = a.b) (abs : a'.r.bs = A') (hyl : y.length = s.x.length) (hyw : WdOk y) (hAD : ArD w0 D' v va' B.p.g A') (hMD : MemD w0 D' vr' R') (hR' : rwX R' = s.R.set 0 y) (hp : Part D' D) :
  WoR w0 ⟨sp, a', ⟨B.b, putM B.m B.t y, B.t, B.p⟩, k, v, va', vr', R', vc, ka, kat, vd, D'⟩ ⟨A', s.R.set 0 y, s.C, s.act, s.at_, s.D⟩ := by
 have hl : A'.length = B.p.g.slots := by rw [← abs]; exact oka'.n
 have ok' := hW.ok.putx (y := y) (by rw [hyl]; exact hW.ok.x) hyw hl
 have hx : SwP.x ⟨A', s.R.set 0 y, s.C, s.act, s.at_, s.D⟩ = y := by unfold SwP.x; rw [x_set hW.ok.R]; rfl
 have ht : B.t = 0 := hW.t
 have hR : B.m.R = s.R := hW.R
 refine ⟨ok', hW.sp, oka', by rw [hx]; exact bo_put hW.bo hyl hyw, hW.mK, hW.e1.trans ab.symm, hW.e2, hW.e3, abs, ?_, ht, hW.C, hW.act, hW.sact, hW.sat, hW.sD, hAD, hMD, hR', hW.dC.part hp, hW.oC, hW.oD, by rw [List.length_set]; exact hW.n⟩
 show B.m.R.set B.t y = _
 rw [ht, hR]
theorem rel_arena {A' : List Bool} (hW : WoR w0 ⟨sp, a, B, k, v, va, vr, R, vc, ka, kat, vd, D⟩ s) (oka' : ArOk a' B.p) (ab : a'.b = a.b) (abs : a'.r.bs = A') (hAD : ArD w0 D' v va' B.p.g A') (hp : Part D' D) :
  WoR w0 ⟨sp, a', B, k, v, va', vr, R, vc, ka, kat, vd, D'⟩ ⟨A', s.R, s.C, s.act, s.at_, s.D⟩ := by
 have hl : A'.length = B.p.g.slots := by rw [← abs]; exact oka'.n
 exact ⟨⟨hl, hW.ok.C, hW.ok.D, hW.ok.R, hW.ok.x, hW.ok.w, hW.ok.c, hW.ok.at_, hW.ok.idle⟩, hW.sp, oka', hW.bo, hW.mK, hW.e1.trans ab.symm, hW.e2, hW.e3, abs, hW.R, hW.t, hW.C, hW.act, hW.sact, hW.sat, hW.sD, hAD, hW.dM.part hp, hW.dR, hW.dC.part hp, hW.oC, hW.oD, hW.n⟩
theorem wok_part {s' : SwP} {W' : WoM} (hK : WoK w0 ⟨sp, a, B, k, v, va, vr, R, vc, ka, kat, vd, D⟩ s) (e1 : s'.act = s.act) (e2 : s'.at_ = s.at_) (e3 : s'.D = s.D) (f1 : W'.ka = ka) (f2 : W'.kat = kat) (f3 : W'.vd = vd) (hp : Part W'.D D) : WoK w0 W' s' :=
 ⟨by rw [f1, e1]; exact hK.act, fun h => by rw [f2, f3, e2, e3]; exact ⟨(hK.on (e1 ▸ h)).1, (hK.on (e1 ▸ h)).2.part hp⟩, fun h => by rw [f2, f3]; exact hK.off (e1 ▸ h)⟩
end
section
variable {w0 : World} {F : Heap} {W : WoM} {s : SwP} {what : Nat} {n : Int}
theorem does_has (hW : WoR w0 W s) : ∀ A, Call Tryz.prog w0 67 [.agg (plL W.v W.B.p.g).toArray, .int .i64 n] (W.D ++ A) (fun r H' => r = .bool (decide (0 ≤ n ∧ n < (W.B.p.g.slots : Nat))) ∧ H' = W.D ++ A) := fun A => rHas_K hW.dA.p hW.bo.p.g
theorem take_all (hW : WoR w0 W s) (h6 : what % 6 < 2) {tn te : Int} {tA : List Bool} (htk : takeP W.B.p.g s.A n = (tn, te, tA)) (h0 : te ≠ 0) : tA = s.A ∧ actS W.B.p.g s what n = s := by
 have h1 : (takeP W.B.p.g s.A n).2.1 ≠ 0 := by rw [htk]; exact h0
 have h2 := take_err h1
 rw [htk] at h2
 refine ⟨h2, ?_⟩
 unfold actS
 rw [if_pos h6, if_neg h1]
set_option maxHeartbeats 8000000 in
theorem does_err0 (hG : Glob w0) (hW : WoR w0 W s) (hK : WoK w0 W s) (hw : what < 256) (h6 : what % 6 = 0) {tn te : Int} {tA : List Bool} (htk : takeP W.B.p.g s.A n = (tn, te, tA)) (h0 : te ≠ 0) :
  Call Tryz.prog w0 15 [.agg (woL W).toArray, .agg [.int .u8 (what : Nat), .int .i64 n].toArray] (woH W ++ F) (DoesP w0 W s F) := by
 have hhas := does_has (n := n) hW
 have htake := fun A => Take_K (w0 := w0) (F := A) (k := n) hG hW.ar
 have hrtake := fun A => rTake_K (w0 := w0) (F := A) (k := n) hW.dA hW.bo.p.g (by rw [← hW.A]; exact hW.ar.n)
 rw [hW.A] at htake
 obtain ⟨hta, _⟩ := take_all (what := 0) hW (by decide) htk h0
 rw [htk, hta] at htake hrtake
 dsimp only at htake hrtake
 have q1 := hW.dA.p.oL
 have q2 := hW.dA.p.oF
 have q3 := hW.dA.p.oM
 have q4 := hW.dA.p.oC
 have q5 := hW.dA.o
 have q6 := hW.dM.o
 have q7 := hW.oC
 have q8 := hW.oD
 unfold DoesP
 rw [woH_app]
 obtain ⟨sp, a, B, k, v, va, vr, R, vc, ka, kat, vd, D⟩ := W
 unfold woL
 unfold arL at hrtake
 unfold plL at hhas
 dsimp only at *
 refine Call.enter2 (n := 169) (by kernel_rfl) Tryz.func15 rfl rfl rfl ?_
 refine K.seq (K.region ?_)
 refine KL.e rfl (Eff.box rfl rfl) ?_; rintro _ _ ⟨b2, rfl, rfl⟩
 refine KL.e rfl (Eff.box rfl rfl) ?_; rintro _ _ ⟨b3, rfl, rfl⟩
 refine KL.e rfl (Eff.alloc rfl) ?_; rintro _ _ ⟨b4, rfl, rfl⟩
 refine KL.v rfl (Val.assign rfl) ?_
 refine KL.nil (KE.next (K.seq (K.region ?_)))
 refine KL.v rfl (Val.fieldAddr0 (k := 11) rfl rfl) ?_
 refine KL.v rfl (Val.fieldAddr (k := 2) rfl rfl) ?_
 refine KL.v rfl (Val.loadA rfl rfl rfl bySeeN) ?_
 refine KL.v rfl (Val.fieldAddr0 (k := 1) rfl rfl) ?_
 refine KL.v rfl (Val.loadP rfl rfl (Sees.cell byTake rfl)) ?_
 refine KL.callc rfl rfl byEvL fun T hT => ?_
 refine (CallV.part (CallV.fn (hhas _)) byPart).mono ?_
 rintro _ _ ⟨rfl, rfl⟩
 refine hT _ _ ?_; clear hT T
 refine KL.v rfl (Val.assign rfl) ?_
 refine KL.nil (KE.next (K.seq (K.seq (K.region ?_))))
 refine KL.v rfl (Val.fieldAddr0 (k := 0) rfl rfl) ?_
 refine KL.v rfl (Val.loadP rfl rfl (Sees.cell byTake rfl)) ?_
 refine KL.v rfl (Val.remN rfl rfl (by omega)) ?_
 refine KL.nil (KE.next (K.block (K.seq (K.seq (K.region ?_)))))
 refine KL.v rfl (Val.isT (Val.eql rfl rfl) byLt) ?_
 refine KL.v rfl (Val.assign rfl) ?_
 refine KL.nil (KE.next (K.condT rfl (K.skip (KE.next (K.condT rfl (K.seq (K.region ?_)))))))
 refine KL.v rfl (Val.fieldAddr0 (k := 1) rfl rfl) ?_
 refine KL.v rfl (Val.loadP rfl rfl (Sees.cell byTake rfl)) ?_
 refine KL.v rfl (Val.fieldAddr0 (k := 1) rfl rfl) ?_
 refine KL.v rfl (Val.loadP rfl rfl (Sees.cell byTake rfl)) ?_
 refine KL.callc rfl rfl byEvL fun T hT => ?_
 refine (CallV.part (CallV.fn (htake _)) byPart).mono ?_
 rintro _ _ ⟨rfl, a', oka', ab, arb, abs, rfl⟩
 refine hT _ _ ?_; clear hT T
 refine KL.v rfl (Val.move rfl) ?_
 refine KL.v rfl (Val.extract rfl rfl) ?_
 refine KL.v rfl (Val.extract rfl rfl) ?_
 refine KL.v rfl (Val.assign rfl) ?_
 refine KL.v rfl (Val.assign rfl) ?_
 refine KL.nil (KE.next (K.seq (K.region ?_)))
 refine KL.v rfl (Val.fieldAddr0 (k := 5) rfl rfl) ?_
 refine KL.v rfl (Val.loadA rfl rfl rfl bySeeN) ?_
 refine KL.v rfl (Val.fieldAddr0 (k := 1) rfl rfl) ?_
 refine KL.v rfl (Val.loadP rfl rfl (Sees.cell byTake rfl)) ?_
 refine KL.callc rfl rfl byEvL fun T hT => ?_
 refine (CallV.part (CallV.fn (hrtake _)) byPart).mono ?_
 rintro _ _ ⟨va', Na, hAD', rfl, rfl⟩
 have q5' := hAD'.o
 refine hT _ _ ?_; clear hT T
 refine KL.v rfl (Val.move rfl) ?_
 refine KL.v rfl (Val.extract rfl rfl) ?_
 refine KL.v rfl (Val.extract rfl rfl) ?_
 refine KL.v rfl (Val.extract rfl rfl) ?_
 refine KL.e rfl (Eff.alloc rfl) ?_; rintro _ _ ⟨b9, rfl, rfl⟩
 refine KL.eN (Eff.storeAL rfl rfl rfl byTake byLay byOnes) ?_; rintro _ _ rfl
 refine KL.v rfl (Val.assign rfl) ?_
 refine KL.v rfl (Val.assign rfl) ?_
 refine KL.nil (KE.next (K.seq (K.seq (K.region ?_))))
 refine KL.v rfl (Val.move rfl) ?_
 refine KL.v rfl (Val.move rfl) ?_
 refine KL.v rfl (Val.isF (Val.neq rfl rfl) byLt) ?_
 refine KL.v rfl (Val.move rfl) ?_
 refine KL.yes rfl rfl ?_; refine KL.v rfl (Val.move rfl) ?_
 refine KL.yes rfl rfl ?_; refine KL.v rfl (Val.move rfl) ?_
 refine KL.yes rfl rfl ?_; refine KL.v rfl (Val.isF (Val.neq rfl rfl) byLt) ?_
 refine KL.v rfl (Val.pickF rfl rfl rfl) ?_
 refine KL.nil (KE.next (K.condF rfl (K.skip (KE.next (K.seq (K.region ?_))))))
 refine KL.v rfl (Val.loadA rfl rfl rfl bySeeN) ?_
 refine KL.v rfl (Val.fieldAddr0 (k := 5) rfl rfl) ?_
 refine KL.eN (Eff.storeAL rfl rfl rfl byTake byLay byOnes) ?_; rintro _ _ rfl
 refine KL.nil (KE.next (K.seq (K.region ?_)))
 refine KL.v rfl (Val.move rfl) ?_
 refine KL.v rfl (Val.isF (Val.eql rfl rfl) byLt) ?_
 refine KL.nil (KE.next (K.condF rfl (K.skip ?_)))
 refine KE.blkN ?_
 refine KE.next (K.seq (K.region ?_))
 refine KL.v rfl (Val.loadA rfl rfl rfl bySeeN) ?_
 refine KL.eN (Eff.storeAL rfl rfl rfl byTake byLay byOnes) ?_; rintro _ _ rfl
 refine KL.v rfl (Val.assign rfl) ?_
 refine KL.nil (KE.next ?_)
 refine K.ret ?_
 obtain ⟨W', hWd⟩ : ∃ W' : WoM, W' = ⟨sp, a', B, k, v, va', vr, R, vc, ka, kat, vd, Na ++ D⟩ := ⟨_, rfl⟩
 have hrel := rel_arena (va' := va') (D' := Na ++ D) hW oka' ab abs hAD' byPart
 rw [← hWd] at hrel
 have hrel' : WoR w0 W' s := hrel
 exact KE.fin (H' := woH W' ++ F) byMarks rfl byRes (by rw [hWd, woH_app]; simp only [List.append_assoc]; exact byPart) ⟨W', hrel', wok_part hK rfl rfl rfl (by rw [hWd]) (by rw [hWd]) (by rw [hWd]) (by rw [hWd]; exact byPart), by rw [hWd], by rw [hWd]; dsimp only; rw [ab]; rfl, rfl⟩
set_option maxHeartbeats 8000000 in
theorem does_err1 (hG : Glob w0) (hW : WoR w0 W s) (hK : WoK w0 W s) (hw : what < 256) (h6 : what % 6 = 1) {tn te : Int} {tA : List Bool} (htk : takeP W.B.p.g s.A n = (tn, te, tA)) (h0 : te ≠ 0) :
  Call Tryz.prog w0 15 [.agg (woL W).toArray, .agg [.int .u8 (what : Nat), .int .i64 n].toArray] (woH W ++ F) (DoesP w0 W s F) := by
 have hhas := does_has (n := n) hW
 have htake := fun A => Take_K (w0 := w0) (F := A) (k := n) hG hW.ar
 have hrtake := fun A => rTake_K (w0 := w0) (F := A) (k := n) hW.dA hW.bo.p.g (by rw [← hW.A]; exact hW.ar.n)
 rw [hW.A] at htake
 obtain ⟨hta, _⟩ := take_all (what := 0) hW (by decide) htk h0
 rw [htk, hta] at htake hrtake
 dsimp only at htake hrtake
 have q1 := hW.dA.p.oL
 have q2 := hW.dA.p.oF
 have q3 := hW.dA.p.oM
 have q4 := hW.dA.p.oC
 have q5 := hW.dA.o
 have q6 := hW.dM.o
 have q7 := hW.oC
 have q8 := hW.oD
 unfold DoesP
 rw [woH_app]
 obtain ⟨sp, a, B, k, v, va, vr, R, vc, ka, kat, vd, D⟩ := W
 unfold woL
 unfold arL at hrtake
 unfold plL at hhas
 dsimp only at *
 refine Call.enter2 (n := 169) (by kernel_rfl) Tryz.func15 rfl rfl rfl ?_
 refine K.seq (K.region ?_)
 refine KL.e rfl (Eff.box rfl rfl) ?_; rintro _ _ ⟨b2, rfl, rfl⟩
 refine KL.e rfl (Eff.box rfl rfl) ?_; rintro _ _ ⟨b3, rfl, rfl⟩
 refine KL.e rfl (Eff.alloc rfl) ?_; rintro _ _ ⟨b4, rfl, rfl⟩
 refine KL.v rfl (Val.assign rfl) ?_
 refine KL.nil (KE.next (K.seq (K.region ?_)))
 refine KL.v rfl (Val.fieldAddr0 (k := 11) rfl rfl) ?_
 refine KL.v rfl (Val.fieldAddr (k := 2) rfl rfl) ?_
 refine KL.v rfl (Val.loadA rfl rfl rfl bySeeN) ?_
 refine KL.v rfl (Val.fieldAddr0 (k := 1) rfl rfl) ?_
 refine KL.v rfl (Val.loadP rfl rfl (Sees.cell byTake rfl)) ?_
 refine KL.callc rfl rfl byEvL fun T hT => ?_
 refine (CallV.part (CallV.fn (hhas _)) byPart).mono ?_
 rintro _ _ ⟨rfl, rfl⟩
 refine hT _ _ ?_; clear hT T
 refine KL.v rfl (Val.assign rfl) ?_
 refine KL.nil (KE.next (K.seq (K.seq (K.region ?_))))
 refine KL.v rfl (Val.fieldAddr0 (k := 0) rfl rfl) ?_
 refine KL.v rfl (Val.loadP rfl rfl (Sees.cell byTake rfl)) ?_
 refine KL.v rfl (Val.remN rfl rfl (by omega)) ?_
 refine KL.nil (KE.next (K.block (K.seq (K.seq (K.region ?_)))))
 refine KL.v rfl (Val.isF (Val.eql rfl rfl) byLt) ?_
 refine KL.v rfl (Val.assign rfl) ?_
 refine KL.nil (KE.next (K.condF rfl (K.region ?_)))
 refine KL.v rfl (Val.isT (Val.eql rfl rfl) byLt) ?_
 refine KL.v rfl (Val.assign rfl) ?_
 refine KL.nil (KE.next (K.condT rfl (K.seq (K.region ?_))))
 refine KL.v rfl (Val.fieldAddr0 (k := 1) rfl rfl) ?_
 refine KL.v rfl (Val.loadP rfl rfl (Sees.cell byTake rfl)) ?_
 refine KL.v rfl (Val.fieldAddr0 (k := 1) rfl rfl) ?_
 refine KL.v rfl (Val.loadP rfl rfl (Sees.cell byTake rfl)) ?_
 refine KL.callc rfl rfl byEvL fun T hT => ?_
 refine (CallV.part (CallV.fn (htake _)) byPart).mono ?_
 rintro _ _ ⟨rfl, a', oka', ab, arb, abs, rfl⟩
 refine hT _ _ ?_; clear hT T
 refine KL.v rfl (Val.move rfl) ?_
 refine KL.v rfl (Val.extract rfl rfl) ?_
 refine KL.v rfl (Val.extract rfl rfl) ?_
 refine KL.v rfl (Val.assign rfl) ?_
 refine KL.v rfl (Val.assign rfl) ?_
 refine KL.nil (KE.next (K.seq (K.region ?_)))
 refine KL.v rfl (Val.fieldAddr0 (k := 5) rfl rfl) ?_
 refine KL.v rfl (Val.loadA rfl rfl rfl bySeeN) ?_
 refine KL.v rfl (Val.fieldAddr0 (k := 1) rfl rfl) ?_
 refine KL.v rfl (Val.loadP rfl rfl (Sees.cell byTake rfl)) ?_
 refine KL.callc rfl rfl byEvL fun T hT => ?_
 refine (CallV.part (CallV.fn (hrtake _)) byPart).mono ?_
 rintro _ _ ⟨va', Na, hAD', rfl, rfl⟩
 have q5' := hAD'.o
 refine hT _ _ ?_; clear hT T
 refine KL.v rfl (Val.move rfl) ?_
 refine KL.v rfl (Val.extract rfl rfl) ?_
 refine KL.v rfl (Val.extract rfl rfl) ?_
 refine KL.v rfl (Val.extract rfl rfl) ?_
 refine KL.e rfl (Eff.alloc rfl) ?_; rintro _ _ ⟨b9, rfl, rfl⟩
 refine KL.eN (Eff.storeAL rfl rfl rfl byTake byLay byOnes) ?_; rintro _ _ rfl
 refine KL.v rfl (Val.assign rfl) ?_
 refine KL.v rfl (Val.assign rfl) ?_
 refine KL.nil (KE.next (K.seq (K.seq (K.region ?_))))
 refine KL.v rfl (Val.move rfl) ?_
 refine KL.v rfl (Val.move rfl) ?_
 refine KL.v rfl (Val.isF (Val.neq rfl rfl) byLt) ?_
 refine KL.v rfl (Val.move rfl) ?_
 refine KL.yes rfl rfl ?_; refine KL.v rfl (Val.move rfl) ?_
 refine KL.yes rfl rfl ?_; refine KL.v rfl (Val.move rfl) ?_
 refine KL.yes rfl rfl ?_; refine KL.v rfl (Val.isF (Val.neq rfl rfl) byLt) ?_
 refine KL.v rfl (Val.pickF rfl rfl rfl) ?_
 refine KL.nil (KE.next (K.condF rfl (K.skip (KE.next (K.seq (K.region ?_))))))
 refine KL.v rfl (Val.loadA rfl rfl rfl bySeeN) ?_
 refine KL.v rfl (Val.fieldAddr0 (k := 5) rfl rfl) ?_
 refine KL.eN (Eff.storeAL rfl rfl rfl byTake byLay byOnes) ?_; rintro _ _ rfl
 refine KL.nil (KE.next (K.seq (K.region ?_)))
 refine KL.v rfl (Val.move rfl) ?_
 refine KL.v rfl (Val.isF (Val.eql rfl rfl) byLt) ?_
 refine KL.nil (KE.next (K.condF rfl (K.skip ?_)))
 refine KE.blkN ?_
 refine KE.next (K.seq (K.region ?_))
 refine KL.v rfl (Val.loadA rfl rfl rfl bySeeN) ?_
 refine KL.eN (Eff.storeAL rfl rfl rfl byTake byLay byOnes) ?_; rintro _ _ rfl
 refine KL.v rfl (Val.assign rfl) ?_
 refine KL.nil (KE.next ?_)
 refine K.ret ?_
 obtain ⟨W', hWd⟩ : ∃ W' : WoM, W' = ⟨sp, a', B, k, v, va', vr, R, vc, ka, kat, vd, Na ++ D⟩ := ⟨_, rfl⟩
 have hrel := rel_arena (va' := va') (D' := Na ++ D) hW oka' ab abs hAD' byPart
 rw [← hWd] at hrel
 have hrel' : WoR w0 W' s := hrel
 exact KE.fin (H' := woH W' ++ F) byMarks rfl byRes (by rw [hWd, woH_app]; simp only [List.append_assoc]; exact byPart) ⟨W', hrel', wok_part hK rfl rfl rfl (by rw [hWd]) (by rw [hWd]) (by rw [hWd]) (by rw [hWd]; exact byPart), by rw [hWd], by rw [hWd]; dsimp only; rw [ab]; rfl, rfl⟩
set_option maxHeartbeats 8000000 in
theorem does_ok0 (hG : Glob w0) (hW : WoR w0 W s) (hK : WoK w0 W s) (hw : what < 256) (h6 : what % 6 = 0) {i : Nat} {y : SlotP} (htk : takeP W.B.p.g s.A n = ((i : Int), 0, s.A.set i true)) (hy : W.B.p.g.L[i]? = some y) :
  Call Tryz.prog w0 15 [.agg (woL W).toArray, .agg [.int .u8 (what : Nat), .int .i64 n].toArray] (woH W ++ F) (DoesP w0 W ⟨s.A.set i true, s.R.set 0 (setWordP (makeP s.x y ⟨n, 0, 1⟩).2 y 0 7).2, s.C, s.act, s.at_, s.D⟩ F) := by
 have hhas := does_has (n := n) hW
 have htake := fun A => Take_K (w0 := w0) (F := A) (k := n) hG hW.ar
 have hrtake := fun A => rTake_K (w0 := w0) (F := A) (k := n) hW.dA hW.bo.p.g (by rw [← hW.A]; exact hW.ar.n)
 rw [hW.A] at htake
 rw [htk] at htake hrtake
 dsimp only at htake hrtake
 have hmake := fun A => Make_K (w0 := w0) (F := A) (h := ⟨n, 0, 1⟩) hG hW.bo hy
 have hfit := hW.bo.p.g.fits hy
 have hxl := hW.ok.x
 obtain ⟨X1, hX1⟩ : ∃ X1, X1 = (makeP s.x y ⟨n, 0, 1⟩).2 := ⟨_, rfl⟩
 have hX1l : X1.length = s.x.length := by rw [hX1]; exact make_len (by omega)
 have hX1w : WdOk X1 := by rw [hX1]; exact make_ok hW.ok.w
 have hset : ∀ A, Call Tryz.prog w0 72 [.pointer (some ⟨W.B.b, 0, none⟩), .int .i64 (i : Nat), .int .i64 0, .int .u64 7] (bodyH W.B ++ (memH (putM W.B.m W.B.t X1) ++ (planH W.B.p ++ A))) (fun r H' => r = .int .i64 (setWordP X1 y 0 7).1 ∧ H' = bodyH W.B ++ (memH (putM (putM W.B.m W.B.t X1) W.B.t (setWordP X1 y 0 7).2) ++ (planH W.B.p ++ A))) := fun A => bSetWord_K (B := setB W.B X1) (F := A) hG (setB_ok hW.bo hX1l hX1w) hy
 simp only [putM_put] at hset
 obtain ⟨X2, hX2⟩ : ∃ X2, X2 = (setWordP X1 y 0 7).2 := ⟨_, rfl⟩
 have hX2l : X2.length = s.x.length := by rw [hX2, setWord_len]; exact hX1l
 have hX2w : WdOk X2 := by rw [hX2]; exact setWord_ok hX1w (by decide)
 have hf := hW.bof
 have hrmake := fun A D' (hB : BoD w0 D' W.v W.vr W.B.p.g W.R) => rbMake_K (w0 := w0) (F := A) (h := ⟨n, 0, 1⟩) hB hf hy
 have hrset := fun A D' (vr' : Value) (R' : List RwD) (hB : BoD w0 D' W.v vr' W.B.p.g R') (hf' : BoF W.B.p.g R' 0 X1) => rbSetWord_K (w0 := w0) (F := A) (i := 0) (w := 7) hB hf' hy
 have hf1 : ∀ R', rwX R' = (rwX W.R).set 0 X1 → BoF W.B.p.g R' 0 X1 := fun R' h => hf.next h hX1l hX1w
 have hdR := hW.dR
 have hdM := hW.dM
 rw [← hX1]
 simp only [← hX1] at hmake hrmake
 rw [← hX2]
 simp only [← hX2] at hset hrset
 unfold hdV at hmake
 unfold hdV boL at hrmake
 unfold boL at hrset
 clear hX1 hX2
 have q1 := hW.dA.p.oL
 have q2 := hW.dA.p.oF
 have q3 := hW.dA.p.oM
 have q4 := hW.dA.p.oC
 have q5 := hW.dA.o
 have q6 := hW.dM.o
 have q7 := hW.oC
 have q8 := hW.oD
 unfold DoesP
 rw [woH_app]
 obtain ⟨sp, a, B, k, v, va, vr, R, vc, ka, kat, vd, D⟩ := W
 unfold woL
 unfold arL at hrtake
 unfold plL at hhas
 dsimp only at *
 refine Call.enter2 (n := 169) (by kernel_rfl) Tryz.func15 rfl rfl rfl ?_
 refine K.seq (K.region ?_)
 refine KL.e rfl (Eff.box rfl rfl) ?_; rintro _ _ ⟨b2, rfl, rfl⟩
 refine KL.e rfl (Eff.box rfl rfl) ?_; rintro _ _ ⟨b3, rfl, rfl⟩
 refine KL.e rfl (Eff.alloc rfl) ?_; rintro _ _ ⟨b4, rfl, rfl⟩
 refine KL.v rfl (Val.assign rfl) ?_
 refine KL.nil (KE.next (K.seq (K.region ?_)))
 refine KL.v rfl (Val.fieldAddr0 (k := 11) rfl rfl) ?_
 refine KL.v rfl (Val.fieldAddr (k := 2) rfl rfl) ?_
 refine KL.v rfl (Val.loadA rfl rfl rfl bySeeN) ?_
 refine KL.v rfl (Val.fieldAddr0 (k := 1) rfl rfl) ?_
 refine KL.v rfl (Val.loadP rfl rfl (Sees.cell byTake rfl)) ?_
 refine KL.callc rfl rfl byEvL fun T hT => ?_
 refine (CallV.part (CallV.fn (hhas _)) byPart).mono ?_
 rintro _ _ ⟨rfl, rfl⟩
 refine hT _ _ ?_; clear hT T
 refine KL.v rfl (Val.assign rfl) ?_
 refine KL.nil (KE.next (K.seq (K.seq (K.region ?_))))
 refine KL.v rfl (Val.fieldAddr0 (k := 0) rfl rfl) ?_
 refine KL.v rfl (Val.loadP rfl rfl (Sees.cell byTake rfl)) ?_
 refine KL.v rfl (Val.remN rfl rfl (by omega)) ?_
 refine KL.nil (KE.next (K.block (K.seq (K.seq (K.region ?_)))))
 refine KL.v rfl (Val.isT (Val.eql rfl rfl) byLt) ?_
 refine KL.v rfl (Val.assign rfl) ?_
 refine KL.nil (KE.next (K.condT rfl (K.skip (KE.next (K.condT rfl (K.seq (K.region ?_)))))))
 refine KL.v rfl (Val.fieldAddr0 (k := 1) rfl rfl) ?_
 refine KL.v rfl (Val.loadP rfl rfl (Sees.cell byTake rfl)) ?_
 refine KL.v rfl (Val.fieldAddr0 (k := 1) rfl rfl) ?_
 refine KL.v rfl (Val.loadP rfl rfl (Sees.cell byTake rfl)) ?_
 refine KL.callc rfl rfl byEvL fun T hT => ?_
 refine (CallV.part (CallV.fn (htake _)) byPart).mono ?_
 rintro _ _ ⟨rfl, a', oka', ab, arb, abs, rfl⟩
 refine hT _ _ ?_; clear hT T
 refine KL.v rfl (Val.move rfl) ?_
 refine KL.v rfl (Val.extract rfl rfl) ?_
 refine KL.v rfl (Val.extract rfl rfl) ?_
 refine KL.v rfl (Val.assign rfl) ?_
 refine KL.v rfl (Val.assign rfl) ?_
 refine KL.nil (KE.next (K.seq (K.region ?_)))
 refine KL.v rfl (Val.fieldAddr0 (k := 5) rfl rfl) ?_
 refine KL.v rfl (Val.loadA rfl rfl rfl bySeeN) ?_
 refine KL.v rfl (Val.fieldAddr0 (k := 1) rfl rfl) ?_
 refine KL.v rfl (Val.loadP rfl rfl (Sees.cell byTake rfl)) ?_
 refine KL.callc rfl rfl byEvL fun T hT => ?_
 refine (CallV.part (CallV.fn (hrtake _)) byPart).mono ?_
 rintro _ _ ⟨va', Na, hAD', rfl, rfl⟩
 have q5' := hAD'.o
 refine hT _ _ ?_; clear hT T
 refine KL.v rfl (Val.move rfl) ?_
 refine KL.v rfl (Val.extract rfl rfl) ?_
 refine KL.v rfl (Val.extract rfl rfl) ?_
 refine KL.v rfl (Val.extract rfl rfl) ?_
 refine KL.e rfl (Eff.alloc rfl) ?_; rintro _ _ ⟨b9, rfl, rfl⟩
 refine KL.eN (Eff.storeAL rfl rfl rfl byTake byLay byOnes) ?_; rintro _ _ rfl
 refine KL.v rfl (Val.assign rfl) ?_
 refine KL.v rfl (Val.assign rfl) ?_
 refine KL.nil (KE.next (K.seq (K.seq (K.region ?_))))
 refine KL.v rfl (Val.move rfl) ?_
 refine KL.v rfl (Val.move rfl) ?_
 refine KL.v rfl (Val.isF (Val.neq rfl rfl) byLt) ?_
 refine KL.v rfl (Val.move rfl) ?_
 refine KL.yes rfl rfl ?_; refine KL.v rfl (Val.move rfl) ?_
 refine KL.yes rfl rfl ?_; refine KL.v rfl (Val.move rfl) ?_
 refine KL.yes rfl rfl ?_; refine KL.v rfl (Val.isF (Val.neq rfl rfl) byLt) ?_
 refine KL.v rfl (Val.pickF rfl rfl rfl) ?_
 refine KL.nil (KE.next (K.condF rfl (K.skip (KE.next (K.seq (K.region ?_))))))
 refine KL.v rfl (Val.loadA rfl rfl rfl bySeeN) ?_
 refine KL.v rfl (Val.fieldAddr0 (k := 5) rfl rfl) ?_
 refine KL.eN (Eff.storeAL rfl rfl rfl byTake byLay byOnes) ?_; rintro _ _ rfl
 refine KL.nil (KE.next (K.seq (K.region ?_)))
 refine KL.v rfl (Val.move rfl) ?_
 refine KL.v rfl (Val.isT (Val.eql rfl rfl) byLt) ?_
 refine KL.nil (KE.next (K.condT rfl (K.seq (K.region ?_))))
 refine KL.v rfl (Val.fieldAddr0 (k := 1) rfl rfl) ?_
 refine KL.v rfl (Val.loadP rfl rfl (Sees.cell byTake rfl)) ?_
 refine KL.v rfl (Val.build byParts rfl rfl byFill) ?_
 refine KL.e rfl (Eff.alloc rfl) ?_; rintro _ _ ⟨b12, rfl, rfl⟩
 refine KL.eN (Eff.storeAL rfl rfl rfl byTake byLay byOnes) ?_; rintro _ _ rfl
 refine KL.nil (KE.next (K.seq (K.region ?_)))
 refine KL.v rfl (Val.fieldAddr0 (k := 2) rfl rfl) ?_
 refine KL.v rfl (Val.loadP rfl rfl (Sees.cell byTake rfl)) ?_
 refine KL.v rfl (Val.move rfl) ?_
 refine KL.v rfl (Val.loadA rfl rfl rfl bySeeN) ?_
 refine KL.callc rfl rfl byEvL fun T hT => ?_
 refine (CallV.part (CallV.fn (hmake _)) byPart).mono ?_
 rintro _ _ ⟨rfl, rfl⟩
 refine hT _ _ ?_; clear hT T
 refine KL.nil (KE.next (K.seq (K.region ?_)))
 refine KL.v rfl (Val.fieldAddr0 (k := 11) rfl rfl) ?_
 refine KL.v rfl (Val.loadA rfl rfl rfl bySeeN) ?_
 refine KL.v rfl (Val.move rfl) ?_
 refine KL.v rfl (Val.loadA rfl rfl rfl bySeeN) ?_
 refine KL.callc rfl rfl byEvL fun T hT => ?_
 have hB0 : BoD w0 (Na ++ D) v vr B.p.g R := ⟨hAD'.p, hdM.part byPart⟩
 refine (CallV.part (CallV.fn (hrmake _ _ hB0)) (by simp only [List.append_assoc]; exact byPart)).mono ?_
 rintro _ _ ⟨vr1, R1, N1, hB1, hY1, rfl, rfl⟩
 have hf1' := hf1 R1 hY1
 have q9 := hB1.m.o
 simp only [List.append_assoc]
 refine hT _ _ ?_; clear hT T
 refine KL.v rfl (Val.move rfl) ?_
 refine KL.v rfl (Val.extract rfl rfl) ?_
 refine KL.v rfl (Val.extract rfl rfl) ?_
 refine KL.v rfl (Val.fieldAddr0 (k := 11) rfl rfl) ?_
 refine KL.eN (Eff.storeAL rfl rfl rfl byTake byLay byOnes) ?_; rintro _ _ rfl
 refine KL.nil (KE.next (K.seq (K.region ?_)))
 refine KL.v rfl (Val.fieldAddr0 (k := 2) rfl rfl) ?_
 refine KL.v rfl (Val.loadP rfl rfl (Sees.cell byTake rfl)) ?_
 refine KL.v rfl (Val.move rfl) ?_
 refine KL.callc rfl rfl byEvL fun T hT => ?_
 refine (CallV.part (CallV.fn (hset _)) byPart).mono ?_
 rintro _ _ ⟨rfl, rfl⟩
 refine hT _ _ ?_; clear hT T
 refine KL.nil (KE.next (K.region ?_))
 refine KL.v rfl (Val.fieldAddr0 (k := 11) rfl rfl) ?_
 refine KL.v rfl (Val.loadA rfl rfl rfl bySeeN) ?_
 refine KL.v rfl (Val.move rfl) ?_
 refine KL.callc rfl rfl byEvL fun T hT => ?_
 refine (CallV.part (CallV.fn (hrset _ _ _ _ hB1 hf1')) (by simp only [List.append_assoc]; exact byPart)).mono ?_
 rintro _ _ ⟨vr2, R2, N2, hB2, hY2, rfl, rfl⟩
 have q10 := hB2.m.o
 rw [hY1, List.set_set, hdR] at hY2
 simp only [List.append_assoc]
 refine hT _ _ ?_; clear hT T
 refine KL.v rfl (Val.move rfl) ?_
 refine KL.v rfl (Val.extract rfl rfl) ?_
 refine KL.v rfl (Val.extract rfl rfl) ?_
 refine KL.v rfl (Val.fieldAddr0 (k := 11) rfl rfl) ?_
 refine KL.eN (Eff.storeAL rfl rfl rfl byTake byLay byOnes) ?_; rintro _ _ rfl
 refine KL.nil ?_
 refine KE.blkN ?_
 refine KE.next (K.seq (K.region ?_))
 refine KL.v rfl (Val.loadA rfl rfl rfl bySeeN) ?_
 refine KL.eN (Eff.storeAL rfl rfl rfl byTake byLay byOnes) ?_; rintro _ _ rfl
 refine KL.v rfl (Val.assign rfl) ?_
 refine KL.nil (KE.next ?_)
 refine K.ret ?_
 obtain ⟨W', hWd⟩ : ∃ W' : WoM, W' = ⟨sp, a', ⟨B.b, putM B.m B.t X2, B.t, B.p⟩, k, v, va', vr2, R2, vc, ka, kat, vd, N2 ++ (N1 ++ (Na ++ D))⟩ := ⟨_, rfl⟩
 have hrel := rel_put (va' := va') (D' := N2 ++ (N1 ++ (Na ++ D))) hW oka' ab abs hX2l hX2w (hAD'.part byPart) hB2.m hY2 byPart
 have hb : bodyH ⟨B.b, putM B.m B.t X2, B.t, B.p⟩ = bodyH B := rfl
 rw [← hWd] at hrel
 exact KE.fin (H' := woH W' ++ F) byMarks rfl byRes (by rw [hWd, woH_app]; simp only [List.append_assoc, hb]; exact byPart) ⟨W', hrel, wok_part hK rfl rfl rfl (by rw [hWd]) (by rw [hWd]) (by rw [hWd]) (by rw [hWd]; exact byPart), by rw [hWd], by rw [hWd]; dsimp only; rw [ab]; rfl, rfl⟩
set_option maxHeartbeats 8000000 in
theorem does_ok1 (hG : Glob w0) (hW : WoR w0 W s) (hK : WoK w0 W s) (hw : what < 256) (h6 : what % 6 = 1) {i : Nat} {y : SlotP} (htk : takeP W.B.p.g s.A n = ((i : Int), 0, s.A.set i true)) (hy : W.B.p.g.L[i]? = some y) :
  Call Tryz.prog w0 15 [.agg (woL W).toArray, .agg [.int .u8 (what : Nat), .int .i64 n].toArray] (woH W ++ F) (DoesP w0 W ⟨s.A.set i true, s.R.set 0 (setWordP (makeP s.x y ⟨n, 0, 1⟩).2 y 0 7).2, s.C, s.act, s.at_, s.D⟩ F) := by
 have hhas := does_has (n := n) hW
 have htake := fun A => Take_K (w0 := w0) (F := A) (k := n) hG hW.ar
 have hrtake := fun A => rTake_K (w0 := w0) (F := A) (k := n) hW.dA hW.bo.p.g (by rw [← hW.A]; exact hW.ar.n)
 rw [hW.A] at htake
 rw [htk] at htake hrtake
 dsimp only at htake hrtake
 have hmake := fun A => Make_K (w0 := w0) (F := A) (h := ⟨n, 0, 1⟩) hG hW.bo hy
 have hfit := hW.bo.p.g.fits hy
 have hxl := hW.ok.x
 obtain ⟨X1, hX1⟩ : ∃ X1, X1 = (makeP s.x y ⟨n, 0, 1⟩).2 := ⟨_, rfl⟩
 have hX1l : X1.length = s.x.length := by rw [hX1]; exact make_len (by omega)
 have hX1w : WdOk X1 := by rw [hX1]; exact make_ok hW.ok.w
 have hset : ∀ A, Call Tryz.prog w0 72 [.pointer (some ⟨W.B.b, 0, none⟩), .int .i64 (i : Nat), .int .i64 0, .int .u64 7] (bodyH W.B ++ (memH (putM W.B.m W.B.t X1) ++ (planH W.B.p ++ A))) (fun r H' => r = .int .i64 (setWordP X1 y 0 7).1 ∧ H' = bodyH W.B ++ (memH (putM (putM W.B.m W.B.t X1) W.B.t (setWordP X1 y 0 7).2) ++ (planH W.B.p ++ A))) := fun A => bSetWord_K (B := setB W.B X1) (F := A) hG (setB_ok hW.bo hX1l hX1w) hy
 simp only [putM_put] at hset
 obtain ⟨X2, hX2⟩ : ∃ X2, X2 = (setWordP X1 y 0 7).2 := ⟨_, rfl⟩
 have hX2l : X2.length = s.x.length := by rw [hX2, setWord_len]; exact hX1l
 have hX2w : WdOk X2 := by rw [hX2]; exact setWord_ok hX1w (by decide)
 have hf := hW.bof
 have hrmake := fun A D' (hB : BoD w0 D' W.v W.vr W.B.p.g W.R) => rbMake_K (w0 := w0) (F := A) (h := ⟨n, 0, 1⟩) hB hf hy
 have hrset := fun A D' (vr' : Value) (R' : List RwD) (hB : BoD w0 D' W.v vr' W.B.p.g R') (hf' : BoF W.B.p.g R' 0 X1) => rbSetWord_K (w0 := w0) (F := A) (i := 0) (w := 7) hB hf' hy
 have hf1 : ∀ R', rwX R' = (rwX W.R).set 0 X1 → BoF W.B.p.g R' 0 X1 := fun R' h => hf.next h hX1l hX1w
 have hdR := hW.dR
 have hdM := hW.dM
 rw [← hX1]
 simp only [← hX1] at hmake hrmake
 rw [← hX2]
 simp only [← hX2] at hset hrset
 unfold hdV at hmake
 unfold hdV boL at hrmake
 unfold boL at hrset
 clear hX1 hX2
 have q1 := hW.dA.p.oL
 have q2 := hW.dA.p.oF
 have q3 := hW.dA.p.oM
 have q4 := hW.dA.p.oC
 have q5 := hW.dA.o
 have q6 := hW.dM.o
 have q7 := hW.oC
 have q8 := hW.oD
 unfold DoesP
 rw [woH_app]
 obtain ⟨sp, a, B, k, v, va, vr, R, vc, ka, kat, vd, D⟩ := W
 unfold woL
 unfold arL at hrtake
 unfold plL at hhas
 dsimp only at *
 refine Call.enter2 (n := 169) (by kernel_rfl) Tryz.func15 rfl rfl rfl ?_
 refine K.seq (K.region ?_)
 refine KL.e rfl (Eff.box rfl rfl) ?_; rintro _ _ ⟨b2, rfl, rfl⟩
 refine KL.e rfl (Eff.box rfl rfl) ?_; rintro _ _ ⟨b3, rfl, rfl⟩
 refine KL.e rfl (Eff.alloc rfl) ?_; rintro _ _ ⟨b4, rfl, rfl⟩
 refine KL.v rfl (Val.assign rfl) ?_
 refine KL.nil (KE.next (K.seq (K.region ?_)))
 refine KL.v rfl (Val.fieldAddr0 (k := 11) rfl rfl) ?_
 refine KL.v rfl (Val.fieldAddr (k := 2) rfl rfl) ?_
 refine KL.v rfl (Val.loadA rfl rfl rfl bySeeN) ?_
 refine KL.v rfl (Val.fieldAddr0 (k := 1) rfl rfl) ?_
 refine KL.v rfl (Val.loadP rfl rfl (Sees.cell byTake rfl)) ?_
 refine KL.callc rfl rfl byEvL fun T hT => ?_
 refine (CallV.part (CallV.fn (hhas _)) byPart).mono ?_
 rintro _ _ ⟨rfl, rfl⟩
 refine hT _ _ ?_; clear hT T
 refine KL.v rfl (Val.assign rfl) ?_
 refine KL.nil (KE.next (K.seq (K.seq (K.region ?_))))
 refine KL.v rfl (Val.fieldAddr0 (k := 0) rfl rfl) ?_
 refine KL.v rfl (Val.loadP rfl rfl (Sees.cell byTake rfl)) ?_
 refine KL.v rfl (Val.remN rfl rfl (by omega)) ?_
 refine KL.nil (KE.next (K.block (K.seq (K.seq (K.region ?_)))))
 refine KL.v rfl (Val.isF (Val.eql rfl rfl) byLt) ?_
 refine KL.v rfl (Val.assign rfl) ?_
 refine KL.nil (KE.next (K.condF rfl (K.region ?_)))
 refine KL.v rfl (Val.isT (Val.eql rfl rfl) byLt) ?_
 refine KL.v rfl (Val.assign rfl) ?_
 refine KL.nil (KE.next (K.condT rfl (K.seq (K.region ?_))))
 refine KL.v rfl (Val.fieldAddr0 (k := 1) rfl rfl) ?_
 refine KL.v rfl (Val.loadP rfl rfl (Sees.cell byTake rfl)) ?_
 refine KL.v rfl (Val.fieldAddr0 (k := 1) rfl rfl) ?_
 refine KL.v rfl (Val.loadP rfl rfl (Sees.cell byTake rfl)) ?_
 refine KL.callc rfl rfl byEvL fun T hT => ?_
 refine (CallV.part (CallV.fn (htake _)) byPart).mono ?_
 rintro _ _ ⟨rfl, a', oka', ab, arb, abs, rfl⟩
 refine hT _ _ ?_; clear hT T
 refine KL.v rfl (Val.move rfl) ?_
 refine KL.v rfl (Val.extract rfl rfl) ?_
 refine KL.v rfl (Val.extract rfl rfl) ?_
 refine KL.v rfl (Val.assign rfl) ?_
 refine KL.v rfl (Val.assign rfl) ?_
 refine KL.nil (KE.next (K.seq (K.region ?_)))
 refine KL.v rfl (Val.fieldAddr0 (k := 5) rfl rfl) ?_
 refine KL.v rfl (Val.loadA rfl rfl rfl bySeeN) ?_
 refine KL.v rfl (Val.fieldAddr0 (k := 1) rfl rfl) ?_
 refine KL.v rfl (Val.loadP rfl rfl (Sees.cell byTake rfl)) ?_
 refine KL.callc rfl rfl byEvL fun T hT => ?_
 refine (CallV.part (CallV.fn (hrtake _)) byPart).mono ?_
 rintro _ _ ⟨va', Na, hAD', rfl, rfl⟩
 have q5' := hAD'.o
 refine hT _ _ ?_; clear hT T
 refine KL.v rfl (Val.move rfl) ?_
 refine KL.v rfl (Val.extract rfl rfl) ?_
 refine KL.v rfl (Val.extract rfl rfl) ?_
 refine KL.v rfl (Val.extract rfl rfl) ?_
 refine KL.e rfl (Eff.alloc rfl) ?_; rintro _ _ ⟨b9, rfl, rfl⟩
 refine KL.eN (Eff.storeAL rfl rfl rfl byTake byLay byOnes) ?_; rintro _ _ rfl
 refine KL.v rfl (Val.assign rfl) ?_
 refine KL.v rfl (Val.assign rfl) ?_
 refine KL.nil (KE.next (K.seq (K.seq (K.region ?_))))
 refine KL.v rfl (Val.move rfl) ?_
 refine KL.v rfl (Val.move rfl) ?_
 refine KL.v rfl (Val.isF (Val.neq rfl rfl) byLt) ?_
 refine KL.v rfl (Val.move rfl) ?_
 refine KL.yes rfl rfl ?_; refine KL.v rfl (Val.move rfl) ?_
 refine KL.yes rfl rfl ?_; refine KL.v rfl (Val.move rfl) ?_
 refine KL.yes rfl rfl ?_; refine KL.v rfl (Val.isF (Val.neq rfl rfl) byLt) ?_
 refine KL.v rfl (Val.pickF rfl rfl rfl) ?_
 refine KL.nil (KE.next (K.condF rfl (K.skip (KE.next (K.seq (K.region ?_))))))
 refine KL.v rfl (Val.loadA rfl rfl rfl bySeeN) ?_
 refine KL.v rfl (Val.fieldAddr0 (k := 5) rfl rfl) ?_
 refine KL.eN (Eff.storeAL rfl rfl rfl byTake byLay byOnes) ?_; rintro _ _ rfl
 refine KL.nil (KE.next (K.seq (K.region ?_)))
 refine KL.v rfl (Val.move rfl) ?_
 refine KL.v rfl (Val.isT (Val.eql rfl rfl) byLt) ?_
 refine KL.nil (KE.next (K.condT rfl (K.seq (K.region ?_))))
 refine KL.v rfl (Val.fieldAddr0 (k := 1) rfl rfl) ?_
 refine KL.v rfl (Val.loadP rfl rfl (Sees.cell byTake rfl)) ?_
 refine KL.v rfl (Val.build byParts rfl rfl byFill) ?_
 refine KL.e rfl (Eff.alloc rfl) ?_; rintro _ _ ⟨b12, rfl, rfl⟩
 refine KL.eN (Eff.storeAL rfl rfl rfl byTake byLay byOnes) ?_; rintro _ _ rfl
 refine KL.nil (KE.next (K.seq (K.region ?_)))
 refine KL.v rfl (Val.fieldAddr0 (k := 2) rfl rfl) ?_
 refine KL.v rfl (Val.loadP rfl rfl (Sees.cell byTake rfl)) ?_
 refine KL.v rfl (Val.move rfl) ?_
 refine KL.v rfl (Val.loadA rfl rfl rfl bySeeN) ?_
 refine KL.callc rfl rfl byEvL fun T hT => ?_
 refine (CallV.part (CallV.fn (hmake _)) byPart).mono ?_
 rintro _ _ ⟨rfl, rfl⟩
 refine hT _ _ ?_; clear hT T
 refine KL.nil (KE.next (K.seq (K.region ?_)))
 refine KL.v rfl (Val.fieldAddr0 (k := 11) rfl rfl) ?_
 refine KL.v rfl (Val.loadA rfl rfl rfl bySeeN) ?_
 refine KL.v rfl (Val.move rfl) ?_
 refine KL.v rfl (Val.loadA rfl rfl rfl bySeeN) ?_
 refine KL.callc rfl rfl byEvL fun T hT => ?_
 have hB0 : BoD w0 (Na ++ D) v vr B.p.g R := ⟨hAD'.p, hdM.part byPart⟩
 refine (CallV.part (CallV.fn (hrmake _ _ hB0)) (by simp only [List.append_assoc]; exact byPart)).mono ?_
 rintro _ _ ⟨vr1, R1, N1, hB1, hY1, rfl, rfl⟩
 have hf1' := hf1 R1 hY1
 have q9 := hB1.m.o
 simp only [List.append_assoc]
 refine hT _ _ ?_; clear hT T
 refine KL.v rfl (Val.move rfl) ?_
 refine KL.v rfl (Val.extract rfl rfl) ?_
 refine KL.v rfl (Val.extract rfl rfl) ?_
 refine KL.v rfl (Val.fieldAddr0 (k := 11) rfl rfl) ?_
 refine KL.eN (Eff.storeAL rfl rfl rfl byTake byLay byOnes) ?_; rintro _ _ rfl
 refine KL.nil (KE.next (K.seq (K.region ?_)))
 refine KL.v rfl (Val.fieldAddr0 (k := 2) rfl rfl) ?_
 refine KL.v rfl (Val.loadP rfl rfl (Sees.cell byTake rfl)) ?_
 refine KL.v rfl (Val.move rfl) ?_
 refine KL.callc rfl rfl byEvL fun T hT => ?_
 refine (CallV.part (CallV.fn (hset _)) byPart).mono ?_
 rintro _ _ ⟨rfl, rfl⟩
 refine hT _ _ ?_; clear hT T
 refine KL.nil (KE.next (K.region ?_))
 refine KL.v rfl (Val.fieldAddr0 (k := 11) rfl rfl) ?_
 refine KL.v rfl (Val.loadA rfl rfl rfl bySeeN) ?_
 refine KL.v rfl (Val.move rfl) ?_
 refine KL.callc rfl rfl byEvL fun T hT => ?_
 refine (CallV.part (CallV.fn (hrset _ _ _ _ hB1 hf1')) (by simp only [List.append_assoc]; exact byPart)).mono ?_
 rintro _ _ ⟨vr2, R2, N2, hB2, hY2, rfl, rfl⟩
 have q10 := hB2.m.o
 rw [hY1, List.set_set, hdR] at hY2
 simp only [List.append_assoc]
 refine hT _ _ ?_; clear hT T
 refine KL.v rfl (Val.move rfl) ?_
 refine KL.v rfl (Val.extract rfl rfl) ?_
 refine KL.v rfl (Val.extract rfl rfl) ?_
 refine KL.v rfl (Val.fieldAddr0 (k := 11) rfl rfl) ?_
 refine KL.eN (Eff.storeAL rfl rfl rfl byTake byLay byOnes) ?_; rintro _ _ rfl
 refine KL.nil ?_
 refine KE.blkN ?_
 refine KE.next (K.seq (K.region ?_))
 refine KL.v rfl (Val.loadA rfl rfl rfl bySeeN) ?_
 refine KL.eN (Eff.storeAL rfl rfl rfl byTake byLay byOnes) ?_; rintro _ _ rfl
 refine KL.v rfl (Val.assign rfl) ?_
 refine KL.nil (KE.next ?_)
 refine K.ret ?_
 obtain ⟨W', hWd⟩ : ∃ W' : WoM, W' = ⟨sp, a', ⟨B.b, putM B.m B.t X2, B.t, B.p⟩, k, v, va', vr2, R2, vc, ka, kat, vd, N2 ++ (N1 ++ (Na ++ D))⟩ := ⟨_, rfl⟩
 have hrel := rel_put (va' := va') (D' := N2 ++ (N1 ++ (Na ++ D))) hW oka' ab abs hX2l hX2w (hAD'.part byPart) hB2.m hY2 byPart
 have hb : bodyH ⟨B.b, putM B.m B.t X2, B.t, B.p⟩ = bodyH B := rfl
 rw [← hWd] at hrel
 exact KE.fin (H' := woH W' ++ F) byMarks rfl byRes (by rw [hWd, woH_app]; simp only [List.append_assoc, hb]; exact byPart) ⟨W', hrel, wok_part hK rfl rfl rfl (by rw [hWd]) (by rw [hWd]) (by rw [hWd]) (by rw [hWd]; exact byPart), by rw [hWd], by rw [hWd]; dsimp only; rw [ab]; rfl, rfl⟩
end
end Go.Proofs.YtalholahapcpkaaGreatDoor.Sw
