/- The walker and the contracts that the law needs, part 28. -/
import Derived.Test.YtalholahapcpkaaGreatDoorJ27
namespace Go.Proofs.YtalholahapcpkaaGreatDoor.Sw
open Go.Proofs.YtalholahapcpkaaGreatDoor renaming lo → qL, hi → qH
open Go.RowKit
set_option linter.unusedVariables false
set_option linter.unusedSimpArgs false
set_option maxRecDepth 10000
section
variable {w0 : World} {s s' : SwP} {sp : SpM} {a a' : ArM} {B : BoM} {k k' : MkM} {v : PlV} {va vr vc vd va' vr' vc' vd' : Value} {R R' : List RwD} {ka ka' : Bool} {kat kat' : Nat} {D D' : Heap}
theorem rel_black {c' : TiM} {i : Nat} (hW : WoR w0 ⟨sp, a, B, k, v, va, vr, R, vc, ka, kat, vd, D⟩ s) (hok : SwOk B.p.g ⟨s.A, s.R, s.C.set i 2, s.act, s.at_, s.D⟩) (kc : MkOk { k with c := c' } B.p) (cc : tiC c' = s.C.set i 2) (hvc : Sli w0 D' bE vc' (s.C.set i 2)) (ho : vc'.oneCell' = true) (hp : Part D' D) :
  WoR w0 ⟨sp, a, B, { k with c := c' }, v, va, vr, R, vc', ka, kat, vd, D'⟩ ⟨s.A, s.R, s.C.set i 2, s.act, s.at_, s.D⟩ := by
 exact ⟨hok, hW.sp, hW.ar, hW.bo, kc, hW.e1, hW.e2, hW.e3, hW.A, hW.R, hW.t, cc, hW.act, hW.sact, hW.sat, hW.sD, hW.dA.part hp, hW.dM.part hp, hW.dR, hvc, ho, hW.oD, hW.n⟩
theorem rel_gone {y : List Int} (hW : WoR w0 ⟨sp, a, B, k, v, va, vr, R, vc, ka, kat, vd, D⟩ s) (hok : SwOk B.p.g ⟨s.A, s.R.set 0 y, s.C, s.act, s.at_ + 1, s.D.set s.at_ true⟩) (hyl : y.length = s.x.length) (hyw : WdOk y) (hMD : MemD w0 D' vr' R') (hR' : rwX R' = s.R.set 0 y) (hp : Part D' D) (ho : vd'.oneCell' = true) :
  WoR w0 ⟨{ sp with d := setR sp.d sp.at_ true, at_ := sp.at_ + 1 }, a, ⟨B.b, putM B.m B.t y, B.t, B.p⟩, k, v, va, vr', R', vc, ka', kat', vd', D'⟩ ⟨s.A, s.R.set 0 y, s.C, s.act, s.at_ + 1, s.D.set s.at_ true⟩ := by
 have hx : SwP.x ⟨s.A, s.R.set 0 y, s.C, s.act, s.at_ + 1, s.D.set s.at_ true⟩ = y := by unfold SwP.x; rw [x_set hW.ok.R]; rfl
 have ht : B.t = 0 := hW.t
 have hR : B.m.R = s.R := hW.R
 have hsat : sp.at_ = s.at_ := hW.sat
 have hsD : sp.d.bs = s.D := hW.sD
 refine ⟨hok, ⟨setR_ok hW.sp.d _ _, ?_, ?_⟩, hW.ar, by rw [hx]; exact bo_put hW.bo hyl hyw, hW.mK, hW.e1, hW.e2, hW.e3, hW.A, ?_, ht, hW.C, hW.act, hW.sact, ?_, ?_, hW.dA.part hp, hMD, hR', hW.dC.part hp, hW.oC, ho, by rw [List.length_set]; exact hW.n⟩
 ·show (sp.d.bs.set sp.at_ true).length = _
  rw [List.length_set]; exact hW.sp.dn
 ·show sp.at_ + 1 ≤ _
  rw [hsat]; exact hok.at_
 ·show B.m.R.set B.t y = _
  rw [ht, hR]
 ·show sp.at_ + 1 = _
  rw [hsat]
 ·show sp.d.bs.set sp.at_ true = _
  rw [hsat, hsD]
theorem rel_stay (hW : WoR w0 ⟨sp, a, B, k, v, va, vr, R, vc, ka, kat, vd, D⟩ s) (hok : SwOk B.p.g ⟨s.A, s.R, s.C, s.act, s.at_ + 1, s.D⟩) (hMD : MemD w0 D' vr' R') (hR' : rwX R' = s.R) (hp : Part D' D) (ho : vd'.oneCell' = true) :
  WoR w0 ⟨{ sp with at_ := sp.at_ + 1 }, a, B, k, v, va, vr', R', vc, ka', kat', vd', D'⟩ ⟨s.A, s.R, s.C, s.act, s.at_ + 1, s.D⟩ := by
 have hsat : sp.at_ = s.at_ := hW.sat
 exact ⟨hok, ⟨hW.sp.d, hW.sp.dn, by show sp.at_ + 1 ≤ _; rw [hsat]; exact hok.at_⟩, hW.ar, hW.bo, hW.mK, hW.e1, hW.e2, hW.e3, hW.A, hW.R, hW.t, hW.C, hW.act, hW.sact, by show sp.at_ + 1 = _; rw [hsat], hW.sD, hW.dA.part hp, hMD, hR', hW.dC.part hp, hW.oC, ho, hW.n⟩
end
section
variable {w0 : World} {F : Heap} {W : WoM} {s : SwP} {what : Nat} {n : Int}
set_option maxHeartbeats 8000000 in
theorem does_give_out (hG : Glob w0) (hW : WoR w0 W s) (hK : WoK w0 W s) (hw : what < 256) (h6 : what % 6 = 2 ∨ what % 6 = 3) (hn : ¬ (0 ≤ n ∧ n < (W.B.p.g.slots : Nat))) :
  Call Tryz.prog w0 15 [.agg (woL W).toArray, .agg [.int .u8 (what : Nat), .int .i64 n].toArray] (woH W ++ F) (DoesP w0 W s F) := by
 have hhas := does_has (n := n) hW
 rw [decide_eq_false hn] at hhas
 have q1 := hW.dA.p.oL
 have q2 := hW.dA.p.oF
 have q3 := hW.dA.p.oM
 have q4 := hW.dA.p.oC
 have q5 := hW.dA.o
 have q6 := hW.dM.o
 have q7 := hW.oC
 have q8 := hW.oD
 unfold DoesP
 rw [woH_app]
 obtain ⟨sp, a, B, k, v, va, vr, R, vc, ka, kat, vd, D⟩ := W
 unfold woL
 unfold plL at hhas
 dsimp only at *
 rcases h6 with h6 | h6
 ·skip
  refine Call.enter2 (n := 169) (by kernel_rfl) Tryz.func15 rfl rfl rfl ?_
  refine K.seq (K.region ?_)
  refine KL.e rfl (Eff.box rfl rfl) ?_; rintro _ _ ⟨b2, rfl, rfl⟩
  refine KL.e rfl (Eff.box rfl rfl) ?_; rintro _ _ ⟨b3, rfl, rfl⟩
  refine KL.e rfl (Eff.alloc rfl) ?_; rintro _ _ ⟨b4, rfl, rfl⟩
  refine KL.v rfl (Val.assign rfl) ?_
  refine KL.nil (KE.next (K.seq (K.region ?_)))
  refine KL.v rfl (Val.fieldAddr0 (k := 11) rfl rfl) ?_
  refine KL.v rfl (Val.fieldAddr (k := 2) rfl rfl) ?_
  refine KL.v rfl (Val.loadA rfl rfl rfl bySeeN) ?_
  refine KL.v rfl (Val.fieldAddr0 (k := 1) rfl rfl) ?_
  refine KL.v rfl (Val.loadP rfl rfl (Sees.cell byTake rfl)) ?_
  refine KL.callc rfl rfl byEvL fun T hT => ?_
  refine (CallV.part (CallV.fn (hhas _)) byPart).mono ?_
  rintro _ _ ⟨rfl, rfl⟩
  refine hT _ _ ?_; clear hT T
  refine KL.v rfl (Val.assign rfl) ?_
  refine KL.nil (KE.next (K.seq (K.seq (K.region ?_))))
  refine KL.v rfl (Val.fieldAddr0 (k := 0) rfl rfl) ?_
  refine KL.v rfl (Val.loadP rfl rfl (Sees.cell byTake rfl)) ?_
  refine KL.v rfl (Val.remN rfl rfl (by omega)) ?_
  refine KL.nil (KE.next (K.block (K.seq (K.seq (K.region ?_)))))
  refine KL.v rfl (Val.isF (Val.eql rfl rfl) byLt) ?_
  refine KL.v rfl (Val.assign rfl) ?_
  refine KL.nil (KE.next (K.condF rfl (K.region ?_)))
  refine KL.v rfl (Val.isF (Val.eql rfl rfl) byLt) ?_
  refine KL.v rfl (Val.assign rfl) ?_
  refine KL.nil (KE.next (K.condF rfl (K.seq (K.region ?_))))
  refine KL.v rfl (Val.isT (Val.eql rfl rfl) byLt) ?_
  refine KL.v rfl (Val.assign rfl) ?_
  refine KL.nil (KE.next (K.condT rfl (K.seq (K.region ?_))))
  refine KL.v rfl (Val.move rfl) ?_
  refine KL.v rfl (Val.move rfl) ?_
  refine KL.skipG rfl rfl rfl ?_
  refine KL.skipG rfl rfl rfl ?_
  refine KL.skipG rfl rfl rfl ?_
  refine KL.skipG rfl rfl rfl ?_
  refine KL.skipG rfl rfl rfl ?_
  refine KL.skipG rfl rfl rfl ?_
  refine KL.skipU rfl rfl rfl ?_
  refine KL.skipU rfl rfl rfl ?_
  refine KL.skipU rfl rfl rfl ?_
  refine KL.skipU rfl rfl rfl ?_
  refine KL.skipU rfl rfl rfl ?_
  refine KL.skipU rfl rfl rfl ?_
  refine KL.skipU rfl rfl rfl ?_
  refine KL.skipU rfl rfl rfl ?_
  refine KL.skipG rfl rfl rfl ?_
  refine KL.v rfl (Val.pickF rfl rfl rfl) ?_
  refine KL.nil (KE.next (K.condF rfl (K.skip ?_)))
  refine KE.blkN ?_
  refine KE.next (K.seq (K.region ?_))
  refine KL.v rfl (Val.loadA rfl rfl rfl bySeeN) ?_
  refine KL.eN (Eff.storeAL rfl rfl rfl byTake byLay byOnes) ?_; rintro _ _ rfl
  refine KL.v rfl (Val.assign rfl) ?_
  refine KL.nil (KE.next ?_)
  refine K.ret ?_
  exact KE.fin (H' := woH ⟨sp, a, B, k, v, va, vr, R, vc, ka, kat, vd, D⟩ ++ F) byMarks rfl byRes (by rw [woH_app]; exact byPart) ⟨⟨sp, a, B, k, v, va, vr, R, vc, ka, kat, vd, D⟩, hW, hK, rfl, rfl, rfl⟩
 ·skip
  refine Call.enter2 (n := 169) (by kernel_rfl) Tryz.func15 rfl rfl rfl ?_
  refine K.seq (K.region ?_)
  refine KL.e rfl (Eff.box rfl rfl) ?_; rintro _ _ ⟨b2, rfl, rfl⟩
  refine KL.e rfl (Eff.box rfl rfl) ?_; rintro _ _ ⟨b3, rfl, rfl⟩
  refine KL.e rfl (Eff.alloc rfl) ?_; rintro _ _ ⟨b4, rfl, rfl⟩
  refine KL.v rfl (Val.assign rfl) ?_
  refine KL.nil (KE.next (K.seq (K.region ?_)))
  refine KL.v rfl (Val.fieldAddr0 (k := 11) rfl rfl) ?_
  refine KL.v rfl (Val.fieldAddr (k := 2) rfl rfl) ?_
  refine KL.v rfl (Val.loadA rfl rfl rfl bySeeN) ?_
  refine KL.v rfl (Val.fieldAddr0 (k := 1) rfl rfl) ?_
  refine KL.v rfl (Val.loadP rfl rfl (Sees.cell byTake rfl)) ?_
  refine KL.callc rfl rfl byEvL fun T hT => ?_
  refine (CallV.part (CallV.fn (hhas _)) byPart).mono ?_
  rintro _ _ ⟨rfl, rfl⟩
  refine hT _ _ ?_; clear hT T
  refine KL.v rfl (Val.assign rfl) ?_
  refine KL.nil (KE.next (K.seq (K.seq (K.region ?_))))
  refine KL.v rfl (Val.fieldAddr0 (k := 0) rfl rfl) ?_
  refine KL.v rfl (Val.loadP rfl rfl (Sees.cell byTake rfl)) ?_
  refine KL.v rfl (Val.remN rfl rfl (by omega)) ?_
  refine KL.nil (KE.next (K.block (K.seq (K.seq (K.region ?_)))))
  refine KL.v rfl (Val.isF (Val.eql rfl rfl) byLt) ?_
  refine KL.v rfl (Val.assign rfl) ?_
  refine KL.nil (KE.next (K.condF rfl (K.region ?_)))
  refine KL.v rfl (Val.isF (Val.eql rfl rfl) byLt) ?_
  refine KL.v rfl (Val.assign rfl) ?_
  refine KL.nil (KE.next (K.condF rfl (K.seq (K.region ?_))))
  refine KL.v rfl (Val.isF (Val.eql rfl rfl) byLt) ?_
  refine KL.v rfl (Val.assign rfl) ?_
  refine KL.nil (KE.next (K.condF rfl (K.seq (K.region ?_))))
  refine KL.v rfl (Val.isT (Val.eql rfl rfl) byLt) ?_
  refine KL.v rfl (Val.assign rfl) ?_
  refine KL.nil (KE.next (K.condT rfl (K.seq (K.region ?_))))
  refine KL.v rfl (Val.move rfl) ?_
  refine KL.nil (KE.next (K.condF rfl (K.skip ?_)))
  refine KE.blkN ?_
  refine KE.next (K.seq (K.region ?_))
  refine KL.v rfl (Val.loadA rfl rfl rfl bySeeN) ?_
  refine KL.eN (Eff.storeAL rfl rfl rfl byTake byLay byOnes) ?_; rintro _ _ rfl
  refine KL.v rfl (Val.assign rfl) ?_
  refine KL.nil (KE.next ?_)
  refine K.ret ?_
  exact KE.fin (H' := woH ⟨sp, a, B, k, v, va, vr, R, vc, ka, kat, vd, D⟩ ++ F) byMarks rfl byRes (by rw [woH_app]; exact byPart) ⟨⟨sp, a, B, k, v, va, vr, R, vc, ka, kat, vd, D⟩, hW, hK, rfl, rfl, rfl⟩
set_option maxHeartbeats 8000000 in
theorem does_give_off (hG : Glob w0) (hW : WoR w0 W s) (hK : WoK w0 W s) (hw : what < 256) {i : Nat} (h6 : what % 6 = 2) (hi : i < W.B.p.g.slots) (ho : s.act = false) :
  Call Tryz.prog w0 15 [.agg (woL W).toArray, .agg [.int .u8 (what : Nat), .int .i64 (i : Nat)].toArray] (woH W ++ F) (DoesP w0 W ⟨(giveP s.A (i : Nat)).2, s.R, s.C, s.act, s.at_, s.D⟩ F) := by
 have hhas := does_has (n := (i : Nat)) hW
 rw [decide_eq_true (show 0 ≤ ((i : Nat) : Int) ∧ ((i : Nat) : Int) < (W.B.p.g.slots : Nat) by omega)] at hhas
 have hgive := fun A => Give_K (w0 := w0) (F := A) (i := (i : Nat)) hW.ar
 have hsl := hW.bo.p.g.slots
 have hAl := hW.ok.A
 have hDl := hW.ok.D
 have hrgive := fun A => rGive_K (w0 := w0) (F := A) (k := (i : Nat)) hW.dA (by rw [hW.ok.A]; omega)
 rw [hW.A] at hgive
 obtain ⟨ge, gA, hgv⟩ : ∃ ge gA, giveP s.A (i : Nat) = (ge, gA) := ⟨_, _, rfl⟩
 simp only [hgv] at hgive hrgive ⊢
 obtain ⟨hk1, hk2⟩ := hK.off ho
 have q1 := hW.dA.p.oL
 have q2 := hW.dA.p.oF
 have q3 := hW.dA.p.oM
 have q4 := hW.dA.p.oC
 have q5 := hW.dA.o
 have q6 := hW.dM.o
 have q7 := hW.oC
 have q8 := hW.oD
 unfold DoesP
 rw [woH_app]
 obtain ⟨sp, a, B, k, v, va, vr, R, vc, ka, kat, vd, D⟩ := W
 unfold woL
 unfold plL at hhas
 unfold arL at hrgive
 dsimp only at *
 subst hk2
 refine Call.enter2 (n := 169) (by kernel_rfl) Tryz.func15 rfl rfl rfl ?_
 refine K.seq (K.region ?_)
 refine KL.e rfl (Eff.box rfl rfl) ?_; rintro _ _ ⟨b2, rfl, rfl⟩
 refine KL.e rfl (Eff.box rfl rfl) ?_; rintro _ _ ⟨b3, rfl, rfl⟩
 refine KL.e rfl (Eff.alloc rfl) ?_; rintro _ _ ⟨b4, rfl, rfl⟩
 refine KL.v rfl (Val.assign rfl) ?_
 refine KL.nil (KE.next (K.seq (K.region ?_)))
 refine KL.v rfl (Val.fieldAddr0 (k := 11) rfl rfl) ?_
 refine KL.v rfl (Val.fieldAddr (k := 2) rfl rfl) ?_
 refine KL.v rfl (Val.loadA rfl rfl rfl bySeeN) ?_
 refine KL.v rfl (Val.fieldAddr0 (k := 1) rfl rfl) ?_
 refine KL.v rfl (Val.loadP rfl rfl (Sees.cell byTake rfl)) ?_
 refine KL.callc rfl rfl byEvL fun T hT => ?_
 refine (CallV.part (CallV.fn (hhas _)) byPart).mono ?_
 rintro _ _ ⟨rfl, rfl⟩
 refine hT _ _ ?_; clear hT T
 refine KL.v rfl (Val.assign rfl) ?_
 refine KL.nil (KE.next (K.seq (K.seq (K.region ?_))))
 refine KL.v rfl (Val.fieldAddr0 (k := 0) rfl rfl) ?_
 refine KL.v rfl (Val.loadP rfl rfl (Sees.cell byTake rfl)) ?_
 refine KL.v rfl (Val.remN rfl rfl (by omega)) ?_
 refine KL.nil (KE.next (K.block (K.seq (K.seq (K.region ?_)))))
 refine KL.v rfl (Val.isF (Val.eql rfl rfl) byLt) ?_
 refine KL.v rfl (Val.assign rfl) ?_
 refine KL.nil (KE.next (K.condF rfl (K.region ?_)))
 refine KL.v rfl (Val.isF (Val.eql rfl rfl) byLt) ?_
 refine KL.v rfl (Val.assign rfl) ?_
 refine KL.nil (KE.next (K.condF rfl (K.seq (K.region ?_))))
 refine KL.v rfl (Val.isT (Val.eql rfl rfl) byLt) ?_
 refine KL.v rfl (Val.assign rfl) ?_
 refine KL.nil (KE.next (K.condT rfl (K.seq (K.region ?_))))
 refine KL.v rfl (Val.move rfl) ?_
 refine KL.v rfl (Val.move rfl) ?_
 refine KL.yes rfl rfl ?_; refine KL.v rfl (Val.fieldAddr0 (k := 19) rfl rfl) ?_
 refine KL.yes rfl rfl ?_; refine KL.v rfl (Val.fieldAddr (k := 2) rfl rfl) ?_
 refine KL.yes rfl rfl ?_; refine KL.v rfl (Val.loadP rfl rfl (Sees.cell byTake rfl)) ?_
 refine KL.yes rfl rfl ?_; refine KL.v rfl (Val.lenS rfl rfl) ?_
 refine KL.yes rfl rfl ?_; refine KL.v rfl (Val.isT (Val.eql rfl rfl) byLt) ?_
 refine KL.yes rfl rfl ?_; refine KL.v rfl (Val.move rfl) ?_
 refine KL.skipG rfl rfl rfl ?_
 refine KL.skipG rfl rfl rfl ?_
 refine KL.skipG rfl rfl rfl ?_
 refine KL.skipG rfl rfl rfl ?_
 refine KL.skipG rfl rfl rfl ?_
 refine KL.skipG rfl rfl rfl ?_
 refine KL.skipG rfl rfl rfl ?_
 refine KL.skipG rfl rfl rfl ?_
 refine KL.yes rfl rfl ?_; refine KL.v rfl (Val.pickT rfl rfl rfl) ?_
 refine KL.v rfl (Val.pickT rfl rfl rfl) ?_
 refine KL.nil (KE.next (K.condT rfl (K.seq (K.region ?_))))
 refine KL.v rfl (Val.fieldAddr0 (k := 5) rfl rfl) ?_
 refine KL.v rfl (Val.loadA rfl rfl rfl bySeeN) ?_
 refine KL.v rfl (Val.fieldAddr0 (k := 1) rfl rfl) ?_
 refine KL.v rfl (Val.loadP rfl rfl (Sees.cell byTake rfl)) ?_
 refine KL.callc rfl rfl byEvL fun T hT => ?_
 refine (CallV.part (CallV.fn (hrgive _)) byPart).mono ?_
 rintro _ _ ⟨va', Na, hAD', rfl, rfl⟩
 have q5' := hAD'.o
 refine hT _ _ ?_; clear hT T
 refine KL.v rfl (Val.move rfl) ?_
 refine KL.v rfl (Val.extract rfl rfl) ?_
 refine KL.v rfl (Val.extract rfl rfl) ?_
 refine KL.e rfl (Eff.alloc rfl) ?_; rintro _ _ ⟨b13, rfl, rfl⟩
 refine KL.eN (Eff.storeAL rfl rfl rfl byTake byLay byOnes) ?_; rintro _ _ rfl
 refine KL.v rfl (Val.assign rfl) ?_
 refine KL.nil (KE.next (K.seq (K.seq (K.region ?_))))
 refine KL.v rfl (Val.fieldAddr0 (k := 1) rfl rfl) ?_
 refine KL.v rfl (Val.loadP rfl rfl (Sees.cell byTake rfl)) ?_
 refine KL.v rfl (Val.fieldAddr0 (k := 1) rfl rfl) ?_
 refine KL.v rfl (Val.loadP rfl rfl (Sees.cell byTake rfl)) ?_
 refine KL.callc rfl rfl byEvL fun T hT => ?_
 refine (CallV.part (CallV.fn (hgive _)) byPart).mono ?_
 rintro _ _ ⟨rfl, a', oka', ab, arb, abs, rfl⟩
 refine hT _ _ ?_; clear hT T
 refine KL.v rfl (Val.move rfl) ?_
 refine KL.v rfl (Val.isF (Val.neq rfl rfl) byLt) ?_
 refine KL.nil (KE.next (K.condF rfl (K.skip (KE.next (K.region ?_)))))
 refine KL.v rfl (Val.loadA rfl rfl rfl bySeeN) ?_
 refine KL.v rfl (Val.fieldAddr0 (k := 5) rfl rfl) ?_
 refine KL.eN (Eff.storeAL rfl rfl rfl byTake byLay byOnes) ?_; rintro _ _ rfl
 refine KL.nil ?_
 refine KE.blkN ?_
 refine KE.next (K.seq (K.region ?_))
 refine KL.v rfl (Val.loadA rfl rfl rfl bySeeN) ?_
 refine KL.eN (Eff.storeAL rfl rfl rfl byTake byLay byOnes) ?_; rintro _ _ rfl
 refine KL.v rfl (Val.assign rfl) ?_
 refine KL.nil (KE.next ?_)
 refine K.ret ?_
 obtain ⟨W', hWd⟩ : ∃ W' : WoM, W' = ⟨sp, a', B, k, v, va', vr, R, vc, ka, kat, .slice none 0 0, Na ++ D⟩ := ⟨_, rfl⟩
 have hrel := rel_arena (va' := va') (D' := Na ++ D) hW oka' ab abs hAD' byPart
 rw [← hWd] at hrel
 exact KE.fin (H' := woH W' ++ F) byMarks rfl byRes (by rw [hWd, woH_app]; simp only [List.append_assoc]; exact byPart) ⟨W', hrel, wok_part hK rfl rfl rfl (by rw [hWd]) (by rw [hWd]) (by rw [hWd]) (by rw [hWd]; exact byPart), by rw [hWd], by rw [hWd]; dsimp only; rw [ab]; rfl, rfl⟩
set_option maxHeartbeats 8000000 in
theorem does_give_on (hG : Glob w0) (hW : WoR w0 W s) (hK : WoK w0 W s) (hw : what < 256) {i : Nat} (h6 : what % 6 = 2) (hi : i < W.B.p.g.slots) (ho : s.act = true) (hd : s.D[i]? = some false) :
  Call Tryz.prog w0 15 [.agg (woL W).toArray, .agg [.int .u8 (what : Nat), .int .i64 (i : Nat)].toArray] (woH W ++ F) (DoesP w0 W ⟨(giveP s.A (i : Nat)).2, s.R, s.C, s.act, s.at_, s.D⟩ F) := by
 have hhas := does_has (n := (i : Nat)) hW
 rw [decide_eq_true (show 0 ≤ ((i : Nat) : Int) ∧ ((i : Nat) : Int) < (W.B.p.g.slots : Nat) by omega)] at hhas
 have hgive := fun A => Give_K (w0 := w0) (F := A) (i := (i : Nat)) hW.ar
 have hsl := hW.bo.p.g.slots
 have hAl := hW.ok.A
 have hDl := hW.ok.D
 have hrgive := fun A => rGive_K (w0 := w0) (F := A) (k := (i : Nat)) hW.dA (by rw [hW.ok.A]; omega)
 rw [hW.A] at hgive
 obtain ⟨ge, gA, hgv⟩ : ∃ ge gA, giveP s.A (i : Nat) = (ge, gA) := ⟨_, _, rfl⟩
 simp only [hgv] at hgive hrgive ⊢
 obtain ⟨hk1, hk2⟩ := hK.on ho
 have hil := lt_of_get hd
 have hne : ¬ ((s.D.length : Nat) : Int) = 0 := by omega
 have q1 := hW.dA.p.oL
 have q2 := hW.dA.p.oF
 have q3 := hW.dA.p.oM
 have q4 := hW.dA.p.oC
 have q5 := hW.dA.o
 have q6 := hW.dM.o
 have q7 := hW.oC
 have q8 := hW.oD
 unfold DoesP
 rw [woH_app]
 obtain ⟨sp, a, B, k, v, va, vr, R, vc, ka, kat, vd, D⟩ := W
 unfold woL
 unfold plL at hhas
 unfold arL at hrgive
 dsimp only at *
 refine Call.enter2 (n := 169) (by kernel_rfl) Tryz.func15 rfl rfl rfl ?_
 refine K.seq (K.region ?_)
 refine KL.e rfl (Eff.box rfl rfl) ?_; rintro _ _ ⟨b2, rfl, rfl⟩
 refine KL.e rfl (Eff.box rfl rfl) ?_; rintro _ _ ⟨b3, rfl, rfl⟩
 refine KL.e rfl (Eff.alloc rfl) ?_; rintro _ _ ⟨b4, rfl, rfl⟩
 refine KL.v rfl (Val.assign rfl) ?_
 refine KL.nil (KE.next (K.seq (K.region ?_)))
 refine KL.v rfl (Val.fieldAddr0 (k := 11) rfl rfl) ?_
 refine KL.v rfl (Val.fieldAddr (k := 2) rfl rfl) ?_
 refine KL.v rfl (Val.loadA rfl rfl rfl bySeeN) ?_
 refine KL.v rfl (Val.fieldAddr0 (k := 1) rfl rfl) ?_
 refine KL.v rfl (Val.loadP rfl rfl (Sees.cell byTake rfl)) ?_
 refine KL.callc rfl rfl byEvL fun T hT => ?_
 refine (CallV.part (CallV.fn (hhas _)) byPart).mono ?_
 rintro _ _ ⟨rfl, rfl⟩
 refine hT _ _ ?_; clear hT T
 refine KL.v rfl (Val.assign rfl) ?_
 refine KL.nil (KE.next (K.seq (K.seq (K.region ?_))))
 refine KL.v rfl (Val.fieldAddr0 (k := 0) rfl rfl) ?_
 refine KL.v rfl (Val.loadP rfl rfl (Sees.cell byTake rfl)) ?_
 refine KL.v rfl (Val.remN rfl rfl (by omega)) ?_
 refine KL.nil (KE.next (K.block (K.seq (K.seq (K.region ?_)))))
 refine KL.v rfl (Val.isF (Val.eql rfl rfl) byLt) ?_
 refine KL.v rfl (Val.assign rfl) ?_
 refine KL.nil (KE.next (K.condF rfl (K.region ?_)))
 refine KL.v rfl (Val.isF (Val.eql rfl rfl) byLt) ?_
 refine KL.v rfl (Val.assign rfl) ?_
 refine KL.nil (KE.next (K.condF rfl (K.seq (K.region ?_))))
 refine KL.v rfl (Val.isT (Val.eql rfl rfl) byLt) ?_
 refine KL.v rfl (Val.assign rfl) ?_
 refine KL.nil (KE.next (K.condT rfl (K.seq (K.region ?_))))
 refine KL.v rfl (Val.move rfl) ?_
 refine KL.v rfl (Val.move rfl) ?_
 refine KL.yes rfl rfl ?_; refine KL.v rfl (Val.fieldAddr0 (k := 19) rfl rfl) ?_
 refine KL.yes rfl rfl ?_; refine KL.v rfl (Val.fieldAddr (k := 2) rfl rfl) ?_
 refine KL.yes rfl rfl ?_; refine KL.v rfl (Val.loadP rfl rfl (Sees.cell byTake rfl)) ?_
 refine KL.yes rfl rfl ?_; refine KL.v rfl (Val.lenSl rfl rfl bySli) ?_
 refine KL.yes rfl rfl ?_; refine KL.v rfl (Val.isF (Val.eql rfl rfl) byLt) ?_
 refine KL.yes rfl rfl ?_; refine KL.v rfl (Val.move rfl) ?_
 refine KL.yes rfl rfl ?_; refine KL.v rfl (Val.fieldAddr0 (k := 19) rfl rfl) ?_
 refine KL.yes rfl rfl ?_; refine KL.v rfl (Val.fieldAddr (k := 2) rfl rfl) ?_
 refine KL.yes rfl rfl ?_; refine KL.v rfl (Val.loadP rfl rfl (Sees.cell byTake rfl)) ?_
 refine KL.yes rfl rfl ?_; refine KL.v rfl (Val.fieldAddr0 (k := 1) rfl rfl) ?_
 refine KL.yes rfl rfl ?_; refine KL.v rfl (Val.loadP rfl rfl (Sees.cell byTake rfl)) ?_
 refine KL.yes rfl rfl ?_; refine KL.v rfl (Val.idxSl rfl rfl rfl bySli rfl byLt) ?_
 refine KL.yes rfl rfl ?_; refine KL.v rfl (Val.loadP rfl rfl bySee) ?_
 refine KL.yes rfl rfl ?_; refine KL.v rfl (Val.notF rfl) ?_
 refine KL.yes rfl rfl ?_; refine KL.v rfl (Val.pickF rfl rfl rfl) ?_
 refine KL.v rfl (Val.pickT rfl rfl rfl) ?_
 refine KL.nil (KE.next (K.condT rfl (K.seq (K.region ?_))))
 refine KL.v rfl (Val.fieldAddr0 (k := 5) rfl rfl) ?_
 refine KL.v rfl (Val.loadA rfl rfl rfl bySeeN) ?_
 refine KL.v rfl (Val.fieldAddr0 (k := 1) rfl rfl) ?_
 refine KL.v rfl (Val.loadP rfl rfl (Sees.cell byTake rfl)) ?_
 refine KL.callc rfl rfl byEvL fun T hT => ?_
 refine (CallV.part (CallV.fn (hrgive _)) byPart).mono ?_
 rintro _ _ ⟨va', Na, hAD', rfl, rfl⟩
 have q5' := hAD'.o
 refine hT _ _ ?_; clear hT T
 refine KL.v rfl (Val.move rfl) ?_
 refine KL.v rfl (Val.extract rfl rfl) ?_
 refine KL.v rfl (Val.extract rfl rfl) ?_
 refine KL.e rfl (Eff.alloc rfl) ?_; rintro _ _ ⟨b13, rfl, rfl⟩
 refine KL.eN (Eff.storeAL rfl rfl rfl byTake byLay byOnes) ?_; rintro _ _ rfl
 refine KL.v rfl (Val.assign rfl) ?_
 refine KL.nil (KE.next (K.seq (K.seq (K.region ?_))))
 refine KL.v rfl (Val.fieldAddr0 (k := 1) rfl rfl) ?_
 refine KL.v rfl (Val.loadP rfl rfl (Sees.cell byTake rfl)) ?_
 refine KL.v rfl (Val.fieldAddr0 (k := 1) rfl rfl) ?_
 refine KL.v rfl (Val.loadP rfl rfl (Sees.cell byTake rfl)) ?_
 refine KL.callc rfl rfl byEvL fun T hT => ?_
 refine (CallV.part (CallV.fn (hgive _)) byPart).mono ?_
 rintro _ _ ⟨rfl, a', oka', ab, arb, abs, rfl⟩
 refine hT _ _ ?_; clear hT T
 refine KL.v rfl (Val.move rfl) ?_
 refine KL.v rfl (Val.isF (Val.neq rfl rfl) byLt) ?_
 refine KL.nil (KE.next (K.condF rfl (K.skip (KE.next (K.region ?_)))))
 refine KL.v rfl (Val.loadA rfl rfl rfl bySeeN) ?_
 refine KL.v rfl (Val.fieldAddr0 (k := 5) rfl rfl) ?_
 refine KL.eN (Eff.storeAL rfl rfl rfl byTake byLay byOnes) ?_; rintro _ _ rfl
 refine KL.nil ?_
 refine KE.blkN ?_
 refine KE.next (K.seq (K.region ?_))
 refine KL.v rfl (Val.loadA rfl rfl rfl bySeeN) ?_
 refine KL.eN (Eff.storeAL rfl rfl rfl byTake byLay byOnes) ?_; rintro _ _ rfl
 refine KL.v rfl (Val.assign rfl) ?_
 refine KL.nil (KE.next ?_)
 refine K.ret ?_
 obtain ⟨W', hWd⟩ : ∃ W' : WoM, W' = ⟨sp, a', B, k, v, va', vr, R, vc, ka, kat, vd, Na ++ D⟩ := ⟨_, rfl⟩
 have hrel := rel_arena (va' := va') (D' := Na ++ D) hW oka' ab abs hAD' byPart
 rw [← hWd] at hrel
 exact KE.fin (H' := woH W' ++ F) byMarks rfl byRes (by rw [hWd, woH_app]; simp only [List.append_assoc]; exact byPart) ⟨W', hrel, wok_part hK rfl rfl rfl (by rw [hWd]) (by rw [hWd]) (by rw [hWd]) (by rw [hWd]; exact byPart), by rw [hWd], by rw [hWd]; dsimp only; rw [ab]; rfl, rfl⟩
set_option maxHeartbeats 8000000 in
theorem does_give_no (hG : Glob w0) (hW : WoR w0 W s) (hK : WoK w0 W s) (hw : what < 256) {i : Nat} (h6 : what % 6 = 2) (hi : i < W.B.p.g.slots) (ho : s.act = true) (hd : s.D[i]? = some true) :
  Call Tryz.prog w0 15 [.agg (woL W).toArray, .agg [.int .u8 (what : Nat), .int .i64 (i : Nat)].toArray] (woH W ++ F) (DoesP w0 W s F) := by
 have hhas := does_has (n := (i : Nat)) hW
 rw [decide_eq_true (show 0 ≤ ((i : Nat) : Int) ∧ ((i : Nat) : Int) < (W.B.p.g.slots : Nat) by omega)] at hhas
 have hsl := hW.bo.p.g.slots
 have hDl := hW.ok.D
 obtain ⟨hk1, hk2⟩ := hK.on ho
 have hil := lt_of_get hd
 have hne : ¬ ((s.D.length : Nat) : Int) = 0 := by omega
 have q1 := hW.dA.p.oL
 have q2 := hW.dA.p.oF
 have q3 := hW.dA.p.oM
 have q4 := hW.dA.p.oC
 have q5 := hW.dA.o
 have q6 := hW.dM.o
 have q7 := hW.oC
 have q8 := hW.oD
 unfold DoesP
 rw [woH_app]
 obtain ⟨sp, a, B, k, v, va, vr, R, vc, ka, kat, vd, D⟩ := W
 unfold woL
 unfold plL at hhas
 dsimp only at *
 refine Call.enter2 (n := 169) (by kernel_rfl) Tryz.func15 rfl rfl rfl ?_
 refine K.seq (K.region ?_)
 refine KL.e rfl (Eff.box rfl rfl) ?_; rintro _ _ ⟨b2, rfl, rfl⟩
 refine KL.e rfl (Eff.box rfl rfl) ?_; rintro _ _ ⟨b3, rfl, rfl⟩
 refine KL.e rfl (Eff.alloc rfl) ?_; rintro _ _ ⟨b4, rfl, rfl⟩
 refine KL.v rfl (Val.assign rfl) ?_
 refine KL.nil (KE.next (K.seq (K.region ?_)))
 refine KL.v rfl (Val.fieldAddr0 (k := 11) rfl rfl) ?_
 refine KL.v rfl (Val.fieldAddr (k := 2) rfl rfl) ?_
 refine KL.v rfl (Val.loadA rfl rfl rfl bySeeN) ?_
 refine KL.v rfl (Val.fieldAddr0 (k := 1) rfl rfl) ?_
 refine KL.v rfl (Val.loadP rfl rfl (Sees.cell byTake rfl)) ?_
 refine KL.callc rfl rfl byEvL fun T hT => ?_
 refine (CallV.part (CallV.fn (hhas _)) byPart).mono ?_
 rintro _ _ ⟨rfl, rfl⟩
 refine hT _ _ ?_; clear hT T
 refine KL.v rfl (Val.assign rfl) ?_
 refine KL.nil (KE.next (K.seq (K.seq (K.region ?_))))
 refine KL.v rfl (Val.fieldAddr0 (k := 0) rfl rfl) ?_
 refine KL.v rfl (Val.loadP rfl rfl (Sees.cell byTake rfl)) ?_
 refine KL.v rfl (Val.remN rfl rfl (by omega)) ?_
 refine KL.nil (KE.next (K.block (K.seq (K.seq (K.region ?_)))))
 refine KL.v rfl (Val.isF (Val.eql rfl rfl) byLt) ?_
 refine KL.v rfl (Val.assign rfl) ?_
 refine KL.nil (KE.next (K.condF rfl (K.region ?_)))
 refine KL.v rfl (Val.isF (Val.eql rfl rfl) byLt) ?_
 refine KL.v rfl (Val.assign rfl) ?_
 refine KL.nil (KE.next (K.condF rfl (K.seq (K.region ?_))))
 refine KL.v rfl (Val.isT (Val.eql rfl rfl) byLt) ?_
 refine KL.v rfl (Val.assign rfl) ?_
 refine KL.nil (KE.next (K.condT rfl (K.seq (K.region ?_))))
 refine KL.v rfl (Val.move rfl) ?_
 refine KL.v rfl (Val.move rfl) ?_
 refine KL.yes rfl rfl ?_; refine KL.v rfl (Val.fieldAddr0 (k := 19) rfl rfl) ?_
 refine KL.yes rfl rfl ?_; refine KL.v rfl (Val.fieldAddr (k := 2) rfl rfl) ?_
 refine KL.yes rfl rfl ?_; refine KL.v rfl (Val.loadP rfl rfl (Sees.cell byTake rfl)) ?_
 refine KL.yes rfl rfl ?_; refine KL.v rfl (Val.lenSl rfl rfl bySli) ?_
 refine KL.yes rfl rfl ?_; refine KL.v rfl (Val.isF (Val.eql rfl rfl) byLt) ?_
 refine KL.yes rfl rfl ?_; refine KL.v rfl (Val.move rfl) ?_
 refine KL.yes rfl rfl ?_; refine KL.v rfl (Val.fieldAddr0 (k := 19) rfl rfl) ?_
 refine KL.yes rfl rfl ?_; refine KL.v rfl (Val.fieldAddr (k := 2) rfl rfl) ?_
 refine KL.yes rfl rfl ?_; refine KL.v rfl (Val.loadP rfl rfl (Sees.cell byTake rfl)) ?_
 refine KL.yes rfl rfl ?_; refine KL.v rfl (Val.fieldAddr0 (k := 1) rfl rfl) ?_
 refine KL.yes rfl rfl ?_; refine KL.v rfl (Val.loadP rfl rfl (Sees.cell byTake rfl)) ?_
 refine KL.yes rfl rfl ?_; refine KL.v rfl (Val.idxSl rfl rfl rfl bySli rfl byLt) ?_
 refine KL.yes rfl rfl ?_; refine KL.v rfl (Val.loadP rfl rfl bySee) ?_
 refine KL.yes rfl rfl ?_; refine KL.v rfl (Val.notT rfl) ?_
 refine KL.yes rfl rfl ?_; refine KL.v rfl (Val.pickF rfl rfl rfl) ?_
 refine KL.v rfl (Val.pickT rfl rfl rfl) ?_
 refine KL.nil (KE.next (K.condF rfl (K.skip ?_)))
 refine KE.blkN ?_
 refine KE.next (K.seq (K.region ?_))
 refine KL.v rfl (Val.loadA rfl rfl rfl bySeeN) ?_
 refine KL.eN (Eff.storeAL rfl rfl rfl byTake byLay byOnes) ?_; rintro _ _ rfl
 refine KL.v rfl (Val.assign rfl) ?_
 refine KL.nil (KE.next ?_)
 refine K.ret ?_
 exact KE.fin (H' := woH ⟨sp, a, B, k, v, va, vr, R, vc, ka, kat, vd, D⟩ ++ F) byMarks rfl byRes (by rw [woH_app]; exact byPart) ⟨⟨sp, a, B, k, v, va, vr, R, vc, ka, kat, vd, D⟩, hW, hK, rfl, rfl, rfl⟩
set_option maxHeartbeats 8000000 in
theorem does_black (hG : Glob w0) (hW : WoR w0 W s) (hK : WoK w0 W s) (hw : what < 256) {i : Nat} (h6 : what % 6 = 3) (hi : i < W.B.p.g.slots) :
  Call Tryz.prog w0 15 [.agg (woL W).toArray, .agg [.int .u8 (what : Nat), .int .i64 (i : Nat)].toArray] (woH W ++ F) (DoesP w0 W ⟨s.A, s.R, s.C.set i 2, s.act, s.at_, s.D⟩ F) := by
 have hhas := does_has (n := (i : Nat)) hW
 rw [decide_eq_true (show 0 ≤ ((i : Nat) : Int) ∧ ((i : Nat) : Int) < (W.B.p.g.slots : Nat) by omega)] at hhas
 have hsl := hW.bo.p.g.slots
 have hCl := hW.ok.C
 have hdC := hW.dC
 have hil : i < s.C.length := by omega
 obtain ⟨c0, hc0⟩ := get_of_lt hil
 have hblack := fun A => mkBlack_K (w0 := w0) (F := A) (s := i) hW.mK hi
 rw [hW.C] at hblack
 simp only [if_pos hW.act] at hblack
 have hok : SwOk W.B.p.g ⟨s.A, s.R, s.C.set i 2, s.act, s.at_, s.D⟩ := by
  have h1 := actS_ok' hW.bo.p.g hW.ok 3 (i : Nat)
  unfold actS at h1
  rw [if_neg (by decide), if_neg (by decide), if_pos (by decide), if_pos (by omega)] at h1
  exact h1
 have q1 := hW.dA.p.oL
 have q2 := hW.dA.p.oF
 have q3 := hW.dA.p.oM
 have q4 := hW.dA.p.oC
 have q5 := hW.dA.o
 have q6 := hW.dM.o
 have q7 := hW.oC
 have q8 := hW.oD
 unfold DoesP
 rw [woH_app]
 obtain ⟨sp, a, B, k, v, va, vr, R, vc, ka, kat, vd, D⟩ := W
 unfold woL
 unfold plL at hhas
 dsimp only at *
 refine Call.enter2 (n := 169) (by kernel_rfl) Tryz.func15 rfl rfl rfl ?_
 refine K.seq (K.region ?_)
 refine KL.e rfl (Eff.box rfl rfl) ?_; rintro _ _ ⟨b2, rfl, rfl⟩
 refine KL.e rfl (Eff.box rfl rfl) ?_; rintro _ _ ⟨b3, rfl, rfl⟩
 refine KL.e rfl (Eff.alloc rfl) ?_; rintro _ _ ⟨b4, rfl, rfl⟩
 refine KL.v rfl (Val.assign rfl) ?_
 refine KL.nil (KE.next (K.seq (K.region ?_)))
 refine KL.v rfl (Val.fieldAddr0 (k := 11) rfl rfl) ?_
 refine KL.v rfl (Val.fieldAddr (k := 2) rfl rfl) ?_
 refine KL.v rfl (Val.loadA rfl rfl rfl bySeeN) ?_
 refine KL.v rfl (Val.fieldAddr0 (k := 1) rfl rfl) ?_
 refine KL.v rfl (Val.loadP rfl rfl (Sees.cell byTake rfl)) ?_
 refine KL.callc rfl rfl byEvL fun T hT => ?_
 refine (CallV.part (CallV.fn (hhas _)) byPart).mono ?_
 rintro _ _ ⟨rfl, rfl⟩
 refine hT _ _ ?_; clear hT T
 refine KL.v rfl (Val.assign rfl) ?_
 refine KL.nil (KE.next (K.seq (K.seq (K.region ?_))))
 refine KL.v rfl (Val.fieldAddr0 (k := 0) rfl rfl) ?_
 refine KL.v rfl (Val.loadP rfl rfl (Sees.cell byTake rfl)) ?_
 refine KL.v rfl (Val.remN rfl rfl (by omega)) ?_
 refine KL.nil (KE.next (K.block (K.seq (K.seq (K.region ?_)))))
 refine KL.v rfl (Val.isF (Val.eql rfl rfl) byLt) ?_
 refine KL.v rfl (Val.assign rfl) ?_
 refine KL.nil (KE.next (K.condF rfl (K.region ?_)))
 refine KL.v rfl (Val.isF (Val.eql rfl rfl) byLt) ?_
 refine KL.v rfl (Val.assign rfl) ?_
 refine KL.nil (KE.next (K.condF rfl (K.seq (K.region ?_))))
 refine KL.v rfl (Val.isF (Val.eql rfl rfl) byLt) ?_
 refine KL.v rfl (Val.assign rfl) ?_
 refine KL.nil (KE.next (K.condF rfl (K.seq (K.region ?_))))
 refine KL.v rfl (Val.isT (Val.eql rfl rfl) byLt) ?_
 refine KL.v rfl (Val.assign rfl) ?_
 refine KL.nil (KE.next (K.condT rfl (K.seq (K.region ?_))))
 refine KL.v rfl (Val.move rfl) ?_
 refine KL.nil (KE.next (K.condT rfl (K.seq (K.region ?_))))
 refine KL.v rfl (Val.fieldAddr0 (k := 3) rfl rfl) ?_
 refine KL.v rfl (Val.loadP rfl rfl (Sees.cell byTake rfl)) ?_
 refine KL.v rfl (Val.fieldAddr0 (k := 1) rfl rfl) ?_
 refine KL.v rfl (Val.loadP rfl rfl (Sees.cell byTake rfl)) ?_
 refine KL.callc rfl rfl byEvL fun T hT => ?_
 refine (CallV.part (CallV.fn (hblack _)) byPart).mono ?_
 rintro _ _ ⟨rfl, c', kc, cf, cc, rfl⟩
 refine hT _ _ ?_; clear hT T
 refine KL.nil (KE.next (K.seq (K.region ?_)))
 refine KL.e rfl (Eff.buildS byParts rfl rfl rfl rfl rfl byFill) ?_; rintro _ _ ⟨b158, rfl, rfl⟩
 refine KL.v rfl (Val.fieldAddr0 (k := 18) rfl rfl) ?_
 refine KL.v rfl (Val.loadP rfl rfl (Sees.cell byTake rfl)) ?_
 refine KL.e rfl (Eff.appLit (E := bE) (ys := s.C) rfl rfl rfl rfl rfl rfl rfl byTake (by first | exact Sli.blk byTake rfl (by first | decide | simp) (by first | decide | (unfold maxLen; omega)) rfl | exact Sli.old (by assumption) | exact Sli.own byTakeL (by assumption) byLen | assumption | exact Sli.part (by assumption) byPart) (by first | assumption | omega | (simp <;> fail) | (simp; omega)) rfl) ?_; rintro _ _ ⟨o', ok', rfl, rfl⟩
 refine KL.v rfl (Val.fieldAddr0 (k := 18) rfl rfl) ?_
 refine KL.eN (Eff.storeL rfl rfl byOne rfl byTake bySetAt) ?_; rintro _ _ rfl
 refine KL.nil (KE.next (K.region ?_))
 refine KL.v rfl (Val.fieldAddr0 (k := 18) rfl rfl) ?_
 refine KL.v rfl (Val.loadP rfl rfl (Sees.cell byTake rfl)) ?_
 refine KL.v rfl (Val.fieldAddr0 (k := 1) rfl rfl) ?_
 refine KL.v rfl (Val.loadP rfl rfl (Sees.cell byTake rfl)) ?_
 refine KL.v rfl (Val.idxSl rfl rfl rfl (Sli.own byTakeL (by assumption) byLen) rfl byLt) ?_
 refine KL.eN (Eff.stSl0 rfl rfl rfl rfl byTakeL (by assumption) (by assumption) rfl rfl) ?_; rintro _ _ rfl
 refine KL.nil ?_
 refine KE.blkN ?_
 refine KE.next (K.seq (K.region ?_))
 refine KL.v rfl (Val.loadA rfl rfl rfl bySeeN) ?_
 refine KL.eN (Eff.storeAL rfl rfl rfl byTake byLay byOnes) ?_; rintro _ _ rfl
 refine KL.v rfl (Val.assign rfl) ?_
 refine KL.nil (KE.next ?_)
 refine K.ret ?_
 obtain ⟨W', hWd⟩ : ∃ W' : WoM, W' = ⟨sp, a, B, { k with c := c' }, v, va, vr, R, oV o' s.C.length, ka, kat, vd, oH bE 5 (s.C.set i 2) o' ++ D⟩ := ⟨_, rfl⟩
 have hrel := rel_black (vc' := oV o' s.C.length) (D' := oH bE 5 (s.C.set i 2) o' ++ D) hW hok kc cc (Sli.own byTakeL (ok'.set i 2) (by rw [List.length_set])) (oV_one _ _) byPart
 rw [← hWd] at hrel
 exact KE.fin (H' := woH W' ++ F) byMarks rfl byRes (by rw [hWd, woH_app]; simp only [List.append_assoc]; exact byPart) ⟨W', hrel, wok_part hK rfl rfl rfl (by rw [hWd]) (by rw [hWd]) (by rw [hWd]) (by rw [hWd]; exact byPart), by rw [hWd], by rw [hWd]; rfl, rfl⟩
end
open Go.RowKit
set_option maxRecDepth 10000
section
variable {w0 : World} {F : Heap} {W : WoM} {s : SwP} {what : Nat} {n : Int}
set_option maxHeartbeats 8000000 in
theorem does_end (hG : Glob w0) (hW : WoR w0 W s) (hK : WoK w0 W s) (hw : what < 256) (h6 : 4 ≤ what % 6) (hE : s.act = false ∨ s.at_ = W.B.p.g.slots) :
  Call Tryz.prog w0 15 [.agg (woL W).toArray, .agg [.int .u8 (what : Nat), .int .i64 n].toArray] (woH W ++ F) (DoesP w0 W s F) := by
 have hhas := does_has (n := n) hW
 have hDl := hW.ok.D
 have hstep := fun A => spStep_E (w0 := w0) (F := A) (s := W.sp) (by rw [hW.sact, hW.sat, hW.sD, hDl]; exact hE)
 have hrstep := fun A => rsStep_E (w0 := w0) (F := A) (Ds := s.D) (t := 0) ⟨hW.dA.p, hW.dM⟩ hW.dA.o hW.oC hW.oD (ka := W.ka) (kat := W.kat) (by
  cases ha : s.act with
  | false => exact .inl (hK.act.trans ha)
  | true => exact .inr ⟨(hK.on ha).2, by rw [(hK.on ha).1, hDl]; exact Nat.le_of_eq (hE.resolve_left (by rw [ha]; decide)).symm⟩)
 have q1 := hW.dA.p.oL
 have q2 := hW.dA.p.oF
 have q3 := hW.dA.p.oM
 have q4 := hW.dA.p.oC
 have q5 := hW.dA.o
 have q6 := hW.dM.o
 have q7 := hW.oC
 have q8 := hW.oD
 unfold DoesP
 rw [woH_app]
 obtain ⟨sp, a, B, k, v, va, vr, R, vc, ka, kat, vd, D⟩ := W
 unfold woL
 unfold plL at hhas
 unfold ksL arL boL at hrstep
 dsimp only at *
 refine Call.enter2 (n := 169) (by kernel_rfl) Tryz.func15 rfl rfl rfl ?_
 refine K.seq (K.region ?_)
 refine KL.e rfl (Eff.box rfl rfl) ?_; rintro _ _ ⟨b2, rfl, rfl⟩
 refine KL.e rfl (Eff.box rfl rfl) ?_; rintro _ _ ⟨b3, rfl, rfl⟩
 refine KL.e rfl (Eff.alloc rfl) ?_; rintro _ _ ⟨b4, rfl, rfl⟩
 refine KL.v rfl (Val.assign rfl) ?_
 refine KL.nil (KE.next (K.seq (K.region ?_)))
 refine KL.v rfl (Val.fieldAddr0 (k := 11) rfl rfl) ?_
 refine KL.v rfl (Val.fieldAddr (k := 2) rfl rfl) ?_
 refine KL.v rfl (Val.loadA rfl rfl rfl bySeeN) ?_
 refine KL.v rfl (Val.fieldAddr0 (k := 1) rfl rfl) ?_
 refine KL.v rfl (Val.loadP rfl rfl (Sees.cell byTake rfl)) ?_
 refine KL.callc rfl rfl byEvL fun T hT => ?_
 refine (CallV.part (CallV.fn (hhas _)) byPart).mono ?_
 rintro _ _ ⟨rfl, rfl⟩
 refine hT _ _ ?_; clear hT T
 refine KL.v rfl (Val.assign rfl) ?_
 refine KL.nil (KE.next (K.seq (K.seq (K.region ?_))))
 refine KL.v rfl (Val.fieldAddr0 (k := 0) rfl rfl) ?_
 refine KL.v rfl (Val.loadP rfl rfl (Sees.cell byTake rfl)) ?_
 refine KL.v rfl (Val.remN rfl rfl (by omega)) ?_
 refine KL.nil (KE.next (K.block (K.seq (K.seq (K.region ?_)))))
 refine KL.v rfl (Val.isF (Val.eql rfl rfl) byLt) ?_
 refine KL.v rfl (Val.assign rfl) ?_
 refine KL.nil (KE.next (K.condF rfl (K.region ?_)))
 refine KL.v rfl (Val.isF (Val.eql rfl rfl) byLt) ?_
 refine KL.v rfl (Val.assign rfl) ?_
 refine KL.nil (KE.next (K.condF rfl (K.seq (K.region ?_))))
 refine KL.v rfl (Val.isF (Val.eql rfl rfl) byLt) ?_
 refine KL.v rfl (Val.assign rfl) ?_
 refine KL.nil (KE.next (K.condF rfl (K.seq (K.region ?_))))
 refine KL.v rfl (Val.isF (Val.eql rfl rfl) byLt) ?_
 refine KL.v rfl (Val.assign rfl) ?_
 refine KL.nil (KE.next (K.condF rfl (K.seq (K.region ?_))))
 refine KL.v rfl (Val.fieldAddr0 (k := 19) rfl rfl) ?_
 refine KL.v rfl (Val.loadA rfl rfl rfl bySeeN) ?_
 refine KL.v rfl (Val.fieldAddr0 (k := 5) rfl rfl) ?_
 refine KL.v rfl (Val.loadA rfl rfl rfl bySeeN) ?_
 refine KL.v rfl (Val.fieldAddr0 (k := 11) rfl rfl) ?_
 refine KL.v rfl (Val.loadA rfl rfl rfl bySeeN) ?_
 refine KL.v rfl (Val.fieldAddr0 (k := 18) rfl rfl) ?_
 refine KL.v rfl (Val.loadP rfl rfl (Sees.cell byTake rfl)) ?_
 refine KL.callc rfl rfl byEvL fun T hT => ?_
 refine (CallV.part (CallV.fn (hrstep _)) byPart).mono ?_
 rintro _ _ ⟨rfl, rfl⟩
 refine hT _ _ ?_; clear hT T
 refine KL.v rfl (Val.move rfl) ?_
 refine KL.v rfl (Val.extract rfl rfl) ?_
 refine KL.v rfl (Val.extract rfl rfl) ?_
 refine KL.v rfl (Val.extract rfl rfl) ?_
 refine KL.e rfl (Eff.alloc rfl) ?_; rintro _ _ ⟨b15, rfl, rfl⟩
 refine KL.e rfl (Eff.alloc rfl) ?_; rintro _ _ ⟨b16, rfl, rfl⟩
 refine KL.eN (Eff.storeAL rfl rfl rfl byTake byLay byOnes) ?_; rintro _ _ rfl
 refine KL.eN (Eff.storeAL rfl rfl rfl byTake byLay byOnes) ?_; rintro _ _ rfl
 refine KL.v rfl (Val.assign rfl) ?_
 refine KL.nil (KE.next (K.seq (K.seq (K.region ?_))))
 refine KL.v rfl (Val.fieldAddr0 (k := 4) rfl rfl) ?_
 refine KL.v rfl (Val.loadP rfl rfl (Sees.cell byTake rfl)) ?_
 refine KL.callc rfl rfl byEvL fun T hT => ?_
 refine (CallV.part (CallV.fn (hstep _)) byPart).mono ?_
 rintro _ _ ⟨rfl, rfl⟩
 refine hT _ _ ?_; clear hT T
 refine KL.v rfl (Val.move rfl) ?_
 refine KL.v rfl (Val.neqB rfl rfl rfl) ?_
 refine KL.nil (KE.next (K.condF rfl (K.skip (KE.next (K.seq (K.region ?_))))))
 refine KL.v rfl (Val.loadA rfl rfl rfl bySeeN) ?_
 refine KL.v rfl (Val.fieldAddr0 (k := 19) rfl rfl) ?_
 refine KL.eN (Eff.storeAL rfl rfl rfl byTake byLay byOnes) ?_; rintro _ _ rfl
 refine KL.nil (KE.next (K.region ?_))
 refine KL.v rfl (Val.loadA rfl rfl rfl bySeeN) ?_
 refine KL.v rfl (Val.fieldAddr0 (k := 11) rfl rfl) ?_
 refine KL.eN (Eff.storeAL rfl rfl rfl byTake byLay byOnes) ?_; rintro _ _ rfl
 refine KL.nil ?_
 refine KE.blkN ?_
 refine KE.next (K.seq (K.region ?_))
 refine KL.v rfl (Val.loadA rfl rfl rfl bySeeN) ?_
 refine KL.eN (Eff.storeAL rfl rfl rfl byTake byLay byOnes) ?_; rintro _ _ rfl
 refine KL.v rfl (Val.assign rfl) ?_
 refine KL.nil (KE.next ?_)
 refine K.ret ?_
 exact KE.fin (H' := woH ⟨sp, a, B, k, v, va, vr, R, vc, ka, kat, vd, D⟩ ++ F) byMarks rfl byRes (by rw [woH_app]; exact byPart) ⟨⟨sp, a, B, k, v, va, vr, R, vc, ka, kat, vd, D⟩, hW, hK, rfl, rfl, rfl⟩
set_option maxHeartbeats 8000000 in
theorem does_gone (hG : Glob w0) (hW : WoR w0 W s) (hK : WoK w0 W s) (hw : what < 256) {y : SlotP} {av : Bool} {c : Int} (h6 : 4 ≤ what % 6) (h1 : s.act = true) (hy : W.B.p.g.L[s.at_]? = some y) (ha : s.A[s.at_]? = some av) (hc : s.C[s.at_]? = some c) (hgv : (av && decide (c = 0)) = true) :
  Call Tryz.prog w0 15 [.agg (woL W).toArray, .agg [.int .u8 (what : Nat), .int .i64 n].toArray] (woH W ++ F) (DoesP w0 W ⟨s.A, s.R.set 0 (wipeP s.x y), s.C, s.act, s.at_ + 1, s.D.set s.at_ true⟩ F) := by
 have hhas := does_has (n := n) hW
 have hlt : s.at_ < W.B.p.g.slots := by rw [← L_len]; exact lt_of_get hy
 have hst : stepS W.B.p.g s = (⟨s.A, s.R.set 0 (wipeP s.x y), s.C, s.act, s.at_ + 1, s.D.set s.at_ true⟩, true) := by
  unfold stepS
  rw [if_pos ⟨h1, hlt⟩, hy]
  dsimp only
  rw [ha, hc]
  rw [Bool.and_eq_true, decide_eq_true_eq] at hgv
  rw [if_pos ⟨by rw [hgv.1], by rw [hgv.2]⟩]
 have hok := stepS_ok hW.bo.p.g hW.ok
 rw [hst] at hok
 dsimp only at hok
 have hgc : goneC W.a W.sp.at_ c = true := by unfold goneC; rw [hW.A, hW.sat, ha]; exact hgv
 have hfit := hW.bo.p.g.fits hy
 have hxl := hW.ok.x
 have hyl : (wipeP s.x y).length = s.x.length := wipe_len (by omega)
 have hyw : WdOk (wipeP s.x y) := WdOk.cleared hW.ok.w
 have hdR := hW.dR
 have hk := hK.on h1
 have hka : W.ka = true := hK.act.trans h1
 have hstep := fun A => spStep_K (w0 := w0) (F := A) (s := W.sp) (a := W.a) (B := W.B) (k := W.k) (x := s.x) (y := y) (c := c) hW.sp hW.ar hW.bo hW.mK (hW.sact.trans h1) (by rw [hW.sat]; exact hy) (by rw [hW.C, hW.sat]; exact hc) hW.e1 hW.e2 hW.e3
 simp only [hgc, Bool.false_eq_true, if_true, if_false] at hstep
 have hrstep := fun A => rsStep_K (w0 := w0) (F := A) (kat := W.kat) (vd := W.vd) (Ds := s.D) (t := 0) ⟨hW.dA.p, hW.dM⟩ hW.bof (by rw [hk.1]; exact hy) hW.dA hW.dC hk.2 hW.oC hW.oD (by rw [hk.1]; exact ha) (by rw [hk.1]; exact hc) hW.ok.D
 simp only [hgv, Bool.false_eq_true, if_true, if_false] at hrstep
 obtain ⟨hk1, hk2⟩ := hk
 have q1 := hW.dA.p.oL
 have q2 := hW.dA.p.oF
 have q3 := hW.dA.p.oM
 have q4 := hW.dA.p.oC
 have q5 := hW.dA.o
 have q6 := hW.dM.o
 have q7 := hW.oC
 have q8 := hW.oD
 unfold DoesP
 rw [woH_app]
 obtain ⟨sp, a, B, k, v, va, vr, R, vc, ka, kat, vd, D⟩ := W
 unfold woL
 unfold plL at hhas
 unfold ksL arL boL at hrstep
 dsimp only at *
 subst hka
 refine Call.enter2 (n := 169) (by kernel_rfl) Tryz.func15 rfl rfl rfl ?_
 refine K.seq (K.region ?_)
 refine KL.e rfl (Eff.box rfl rfl) ?_; rintro _ _ ⟨b2, rfl, rfl⟩
 refine KL.e rfl (Eff.box rfl rfl) ?_; rintro _ _ ⟨b3, rfl, rfl⟩
 refine KL.e rfl (Eff.alloc rfl) ?_; rintro _ _ ⟨b4, rfl, rfl⟩
 refine KL.v rfl (Val.assign rfl) ?_
 refine KL.nil (KE.next (K.seq (K.region ?_)))
 refine KL.v rfl (Val.fieldAddr0 (k := 11) rfl rfl) ?_
 refine KL.v rfl (Val.fieldAddr (k := 2) rfl rfl) ?_
 refine KL.v rfl (Val.loadA rfl rfl rfl bySeeN) ?_
 refine KL.v rfl (Val.fieldAddr0 (k := 1) rfl rfl) ?_
 refine KL.v rfl (Val.loadP rfl rfl (Sees.cell byTake rfl)) ?_
 refine KL.callc rfl rfl byEvL fun T hT => ?_
 refine (CallV.part (CallV.fn (hhas _)) byPart).mono ?_
 rintro _ _ ⟨rfl, rfl⟩
 refine hT _ _ ?_; clear hT T
 refine KL.v rfl (Val.assign rfl) ?_
 refine KL.nil (KE.next (K.seq (K.seq (K.region ?_))))
 refine KL.v rfl (Val.fieldAddr0 (k := 0) rfl rfl) ?_
 refine KL.v rfl (Val.loadP rfl rfl (Sees.cell byTake rfl)) ?_
 refine KL.v rfl (Val.remN rfl rfl (by omega)) ?_
 refine KL.nil (KE.next (K.block (K.seq (K.seq (K.region ?_)))))
 refine KL.v rfl (Val.isF (Val.eql rfl rfl) byLt) ?_
 refine KL.v rfl (Val.assign rfl) ?_
 refine KL.nil (KE.next (K.condF rfl (K.region ?_)))
 refine KL.v rfl (Val.isF (Val.eql rfl rfl) byLt) ?_
 refine KL.v rfl (Val.assign rfl) ?_
 refine KL.nil (KE.next (K.condF rfl (K.seq (K.region ?_))))
 refine KL.v rfl (Val.isF (Val.eql rfl rfl) byLt) ?_
 refine KL.v rfl (Val.assign rfl) ?_
 refine KL.nil (KE.next (K.condF rfl (K.seq (K.region ?_))))
 refine KL.v rfl (Val.isF (Val.eql rfl rfl) byLt) ?_
 refine KL.v rfl (Val.assign rfl) ?_
 refine KL.nil (KE.next (K.condF rfl (K.seq (K.region ?_))))
 refine KL.v rfl (Val.fieldAddr0 (k := 19) rfl rfl) ?_
 refine KL.v rfl (Val.loadA rfl rfl rfl bySeeN) ?_
 refine KL.v rfl (Val.fieldAddr0 (k := 5) rfl rfl) ?_
 refine KL.v rfl (Val.loadA rfl rfl rfl bySeeN) ?_
 refine KL.v rfl (Val.fieldAddr0 (k := 11) rfl rfl) ?_
 refine KL.v rfl (Val.loadA rfl rfl rfl bySeeN) ?_
 refine KL.v rfl (Val.fieldAddr0 (k := 18) rfl rfl) ?_
 refine KL.v rfl (Val.loadP rfl rfl (Sees.cell byTake rfl)) ?_
 refine KL.callc rfl rfl byEvL fun T hT => ?_
 refine (CallV.part (CallV.fn (hrstep _)) byPart).mono ?_
 rintro _ _ ⟨vd', vr', R', N, hB', hR', hd', hod', rfl, rfl⟩
 have q9 := hB'.m.o
 refine hT _ _ ?_; clear hT T
 refine KL.v rfl (Val.move rfl) ?_
 refine KL.v rfl (Val.extract rfl rfl) ?_
 refine KL.v rfl (Val.extract rfl rfl) ?_
 refine KL.v rfl (Val.extract rfl rfl) ?_
 refine KL.e rfl (Eff.alloc rfl) ?_; rintro _ _ ⟨b15, rfl, rfl⟩
 refine KL.e rfl (Eff.alloc rfl) ?_; rintro _ _ ⟨b16, rfl, rfl⟩
 refine KL.eN (Eff.storeAL rfl rfl rfl byTake byLay byOnes) ?_; rintro _ _ rfl
 refine KL.eN (Eff.storeAL rfl rfl rfl byTake byLay byOnes) ?_; rintro _ _ rfl
 refine KL.v rfl (Val.assign rfl) ?_
 refine KL.nil (KE.next (K.seq (K.seq (K.region ?_))))
 refine KL.v rfl (Val.fieldAddr0 (k := 4) rfl rfl) ?_
 refine KL.v rfl (Val.loadP rfl rfl (Sees.cell byTake rfl)) ?_
 refine KL.callc rfl rfl byEvL fun T hT => ?_
 refine (CallV.part (CallV.fn (hstep _)) byPart).mono ?_
 rintro _ _ ⟨rfl, rfl⟩
 refine hT _ _ ?_; clear hT T
 refine KL.v rfl (Val.move rfl) ?_
 refine KL.v rfl (Val.neqB rfl rfl rfl) ?_
 refine KL.nil (KE.next (K.condF rfl (K.skip (KE.next (K.seq (K.region ?_))))))
 refine KL.v rfl (Val.loadA rfl rfl rfl bySeeN) ?_
 refine KL.v rfl (Val.fieldAddr0 (k := 19) rfl rfl) ?_
 refine KL.eN (Eff.storeAL rfl rfl rfl byTake byLay byOnes) ?_; rintro _ _ rfl
 refine KL.nil (KE.next (K.region ?_))
 refine KL.v rfl (Val.loadA rfl rfl rfl bySeeN) ?_
 refine KL.v rfl (Val.fieldAddr0 (k := 11) rfl rfl) ?_
 refine KL.eN (Eff.storeAL rfl rfl rfl byTake byLay byOnes) ?_; rintro _ _ rfl
 refine KL.nil ?_
 refine KE.blkN ?_
 refine KE.next (K.seq (K.region ?_))
 refine KL.v rfl (Val.loadA rfl rfl rfl bySeeN) ?_
 refine KL.eN (Eff.storeAL rfl rfl rfl byTake byLay byOnes) ?_; rintro _ _ rfl
 refine KL.v rfl (Val.assign rfl) ?_
 refine KL.nil (KE.next ?_)
 refine K.ret ?_
 obtain ⟨W', hWd⟩ : ∃ W' : WoM, W' = ⟨{ sp with d := setR sp.d sp.at_ true, at_ := sp.at_ + 1 }, a, ⟨B.b, putM B.m B.t (wipeP s.x y), B.t, B.p⟩, k, v, va, vr', R', vc, true, kat + 1, vd', N ++ D⟩ := ⟨_, rfl⟩
 have hrel := rel_gone (ka' := true) (kat' := kat + 1) (D' := N ++ D) hW hok hyl hyw hB'.m (by rw [hR', hdR]) byPart hod'
 rw [← hWd] at hrel
 have hon : WoK w0 W' ⟨s.A, s.R.set 0 (wipeP s.x y), s.C, s.act, s.at_ + 1, s.D.set s.at_ true⟩ := by
  rw [hWd]
  refine ⟨h1.symm, fun _ => ⟨by dsimp only; rw [hk1], ?_⟩, fun h => ?_⟩
  ·dsimp only; rw [← hk1]; exact hd'
  ·dsimp only at h; rw [h1] at h; cases h
 have hb : bodyH ⟨B.b, putM B.m B.t (wipeP s.x y), B.t, B.p⟩ = bodyH B := rfl
 exact KE.fin (H' := woH W' ++ F) byMarks rfl byRes (by rw [hWd, woH_app]; simp only [List.append_assoc, hb]; exact byPart) ⟨W', hrel, hon, by rw [hWd], by rw [hWd]; rfl, rfl⟩
set_option maxHeartbeats 8000000 in
theorem does_stay (hG : Glob w0) (hW : WoR w0 W s) (hK : WoK w0 W s) (hw : what < 256) {y : SlotP} {av : Bool} {c : Int} (h6 : 4 ≤ what % 6) (h1 : s.act = true) (hy : W.B.p.g.L[s.at_]? = some y) (ha : s.A[s.at_]? = some av) (hc : s.C[s.at_]? = some c) (hgv : (av && decide (c = 0)) = false) :
  Call Tryz.prog w0 15 [.agg (woL W).toArray, .agg [.int .u8 (what : Nat), .int .i64 n].toArray] (woH W ++ F) (DoesP w0 W ⟨s.A, s.R, s.C, s.act, s.at_ + 1, s.D⟩ F) := by
 have hhas := does_has (n := n) hW
 have hlt : s.at_ < W.B.p.g.slots := by rw [← L_len]; exact lt_of_get hy
 have hst : stepS W.B.p.g s = (⟨s.A, s.R, s.C, s.act, s.at_ + 1, s.D⟩, true) := by
  unfold stepS
  rw [if_pos ⟨h1, hlt⟩, hy]
  dsimp only
  rw [ha, hc]
  rw [if_neg]
  rintro ⟨e1, e2⟩
  cases e1
  cases e2
  cases hgv
 have hok := stepS_ok hW.bo.p.g hW.ok
 rw [hst] at hok
 dsimp only at hok
 have hgc : goneC W.a W.sp.at_ c = false := by unfold goneC; rw [hW.A, hW.sat, ha]; exact hgv
 have hfit := hW.bo.p.g.fits hy
 have hxl := hW.ok.x
 have hyl : (wipeP s.x y).length = s.x.length := wipe_len (by omega)
 have hyw : WdOk (wipeP s.x y) := WdOk.cleared hW.ok.w
 have hdR := hW.dR
 have hk := hK.on h1
 have hka : W.ka = true := hK.act.trans h1
 have hstep := fun A => spStep_K (w0 := w0) (F := A) (s := W.sp) (a := W.a) (B := W.B) (k := W.k) (x := s.x) (y := y) (c := c) hW.sp hW.ar hW.bo hW.mK (hW.sact.trans h1) (by rw [hW.sat]; exact hy) (by rw [hW.C, hW.sat]; exact hc) hW.e1 hW.e2 hW.e3
 simp only [hgc, Bool.false_eq_true, if_true, if_false] at hstep
 have hrstep := fun A => rsStep_K (w0 := w0) (F := A) (kat := W.kat) (vd := W.vd) (Ds := s.D) (t := 0) ⟨hW.dA.p, hW.dM⟩ hW.bof (by rw [hk.1]; exact hy) hW.dA hW.dC hk.2 hW.oC hW.oD (by rw [hk.1]; exact ha) (by rw [hk.1]; exact hc) hW.ok.D
 simp only [hgv, Bool.false_eq_true, if_true, if_false] at hrstep
 obtain ⟨hk1, hk2⟩ := hk
 have q1 := hW.dA.p.oL
 have q2 := hW.dA.p.oF
 have q3 := hW.dA.p.oM
 have q4 := hW.dA.p.oC
 have q5 := hW.dA.o
 have q6 := hW.dM.o
 have q7 := hW.oC
 have q8 := hW.oD
 unfold DoesP
 rw [woH_app]
 obtain ⟨sp, a, B, k, v, va, vr, R, vc, ka, kat, vd, D⟩ := W
 unfold woL
 unfold plL at hhas
 unfold ksL arL boL at hrstep
 dsimp only at *
 subst hka
 refine Call.enter2 (n := 169) (by kernel_rfl) Tryz.func15 rfl rfl rfl ?_
 refine K.seq (K.region ?_)
 refine KL.e rfl (Eff.box rfl rfl) ?_; rintro _ _ ⟨b2, rfl, rfl⟩
 refine KL.e rfl (Eff.box rfl rfl) ?_; rintro _ _ ⟨b3, rfl, rfl⟩
 refine KL.e rfl (Eff.alloc rfl) ?_; rintro _ _ ⟨b4, rfl, rfl⟩
 refine KL.v rfl (Val.assign rfl) ?_
 refine KL.nil (KE.next (K.seq (K.region ?_)))
 refine KL.v rfl (Val.fieldAddr0 (k := 11) rfl rfl) ?_
 refine KL.v rfl (Val.fieldAddr (k := 2) rfl rfl) ?_
 refine KL.v rfl (Val.loadA rfl rfl rfl bySeeN) ?_
 refine KL.v rfl (Val.fieldAddr0 (k := 1) rfl rfl) ?_
 refine KL.v rfl (Val.loadP rfl rfl (Sees.cell byTake rfl)) ?_
 refine KL.callc rfl rfl byEvL fun T hT => ?_
 refine (CallV.part (CallV.fn (hhas _)) byPart).mono ?_
 rintro _ _ ⟨rfl, rfl⟩
 refine hT _ _ ?_; clear hT T
 refine KL.v rfl (Val.assign rfl) ?_
 refine KL.nil (KE.next (K.seq (K.seq (K.region ?_))))
 refine KL.v rfl (Val.fieldAddr0 (k := 0) rfl rfl) ?_
 refine KL.v rfl (Val.loadP rfl rfl (Sees.cell byTake rfl)) ?_
 refine KL.v rfl (Val.remN rfl rfl (by omega)) ?_
 refine KL.nil (KE.next (K.block (K.seq (K.seq (K.region ?_)))))
 refine KL.v rfl (Val.isF (Val.eql rfl rfl) byLt) ?_
 refine KL.v rfl (Val.assign rfl) ?_
 refine KL.nil (KE.next (K.condF rfl (K.region ?_)))
 refine KL.v rfl (Val.isF (Val.eql rfl rfl) byLt) ?_
 refine KL.v rfl (Val.assign rfl) ?_
 refine KL.nil (KE.next (K.condF rfl (K.seq (K.region ?_))))
 refine KL.v rfl (Val.isF (Val.eql rfl rfl) byLt) ?_
 refine KL.v rfl (Val.assign rfl) ?_
 refine KL.nil (KE.next (K.condF rfl (K.seq (K.region ?_))))
 refine KL.v rfl (Val.isF (Val.eql rfl rfl) byLt) ?_
 refine KL.v rfl (Val.assign rfl) ?_
 refine KL.nil (KE.next (K.condF rfl (K.seq (K.region ?_))))
 refine KL.v rfl (Val.fieldAddr0 (k := 19) rfl rfl) ?_
 refine KL.v rfl (Val.loadA rfl rfl rfl bySeeN) ?_
 refine KL.v rfl (Val.fieldAddr0 (k := 5) rfl rfl) ?_
 refine KL.v rfl (Val.loadA rfl rfl rfl bySeeN) ?_
 refine KL.v rfl (Val.fieldAddr0 (k := 11) rfl rfl) ?_
 refine KL.v rfl (Val.loadA rfl rfl rfl bySeeN) ?_
 refine KL.v rfl (Val.fieldAddr0 (k := 18) rfl rfl) ?_
 refine KL.v rfl (Val.loadP rfl rfl (Sees.cell byTake rfl)) ?_
 refine KL.callc rfl rfl byEvL fun T hT => ?_
 refine (CallV.part (CallV.fn (hrstep _)) byPart).mono ?_
 rintro _ _ ⟨vd', vr', R', N, hB', hR', hd', hod', rfl, rfl⟩
 have q9 := hB'.m.o
 refine hT _ _ ?_; clear hT T
 refine KL.v rfl (Val.move rfl) ?_
 refine KL.v rfl (Val.extract rfl rfl) ?_
 refine KL.v rfl (Val.extract rfl rfl) ?_
 refine KL.v rfl (Val.extract rfl rfl) ?_
 refine KL.e rfl (Eff.alloc rfl) ?_; rintro _ _ ⟨b15, rfl, rfl⟩
 refine KL.e rfl (Eff.alloc rfl) ?_; rintro _ _ ⟨b16, rfl, rfl⟩
 refine KL.eN (Eff.storeAL rfl rfl rfl byTake byLay byOnes) ?_; rintro _ _ rfl
 refine KL.eN (Eff.storeAL rfl rfl rfl byTake byLay byOnes) ?_; rintro _ _ rfl
 refine KL.v rfl (Val.assign rfl) ?_
 refine KL.nil (KE.next (K.seq (K.seq (K.region ?_))))
 refine KL.v rfl (Val.fieldAddr0 (k := 4) rfl rfl) ?_
 refine KL.v rfl (Val.loadP rfl rfl (Sees.cell byTake rfl)) ?_
 refine KL.callc rfl rfl byEvL fun T hT => ?_
 refine (CallV.part (CallV.fn (hstep _)) byPart).mono ?_
 rintro _ _ ⟨rfl, rfl⟩
 refine hT _ _ ?_; clear hT T
 refine KL.v rfl (Val.move rfl) ?_
 refine KL.v rfl (Val.neqB rfl rfl rfl) ?_
 refine KL.nil (KE.next (K.condF rfl (K.skip (KE.next (K.seq (K.region ?_))))))
 refine KL.v rfl (Val.loadA rfl rfl rfl bySeeN) ?_
 refine KL.v rfl (Val.fieldAddr0 (k := 19) rfl rfl) ?_
 refine KL.eN (Eff.storeAL rfl rfl rfl byTake byLay byOnes) ?_; rintro _ _ rfl
 refine KL.nil (KE.next (K.region ?_))
 refine KL.v rfl (Val.loadA rfl rfl rfl bySeeN) ?_
 refine KL.v rfl (Val.fieldAddr0 (k := 11) rfl rfl) ?_
 refine KL.eN (Eff.storeAL rfl rfl rfl byTake byLay byOnes) ?_; rintro _ _ rfl
 refine KL.nil ?_
 refine KE.blkN ?_
 refine KE.next (K.seq (K.region ?_))
 refine KL.v rfl (Val.loadA rfl rfl rfl bySeeN) ?_
 refine KL.eN (Eff.storeAL rfl rfl rfl byTake byLay byOnes) ?_; rintro _ _ rfl
 refine KL.v rfl (Val.assign rfl) ?_
 refine KL.nil (KE.next ?_)
 refine K.ret ?_
 obtain ⟨W', hWd⟩ : ∃ W' : WoM, W' = ⟨{ sp with at_ := sp.at_ + 1 }, a, B, k, v, va, vr', R', vc, true, kat + 1, vd', N ++ D⟩ := ⟨_, rfl⟩
 have hrel := rel_stay (ka' := true) (kat' := kat + 1) (D' := N ++ D) hW hok hB'.m (by rw [hR', hdR]) byPart hod'
 rw [← hWd] at hrel
 have hon : WoK w0 W' ⟨s.A, s.R, s.C, s.act, s.at_ + 1, s.D⟩ := by
  rw [hWd]
  refine ⟨h1.symm, fun _ => ⟨by dsimp only; rw [hk1], ?_⟩, fun h => ?_⟩
  ·dsimp only; exact hd'
  ·dsimp only at h; rw [h1] at h; cases h
 exact KE.fin (H' := woH W' ++ F) byMarks rfl byRes (by rw [hWd, woH_app]; simp only [List.append_assoc]; exact byPart) ⟨W', hrel, hon, by rw [hWd], by rw [hWd]; rfl, rfl⟩
theorem does_K (hG : Glob w0) (hW : WoR w0 W s) (hK : WoK w0 W s) (hw : what < 256) :
  Call Tryz.prog w0 15 [.agg (woL W).toArray, .agg [.int .u8 (what : Nat), .int .i64 n].toArray] (woH W ++ F) (DoesP w0 W (actS W.B.p.g s what n) F) := by
 have okg := hW.bo.p.g
 by_cases h2 : what % 6 < 2
 ·obtain ⟨tn, te, tA, htk⟩ : ∃ tn te tA, takeP W.B.p.g s.A n = (tn, te, tA) := ⟨_, _, _, rfl⟩
  by_cases h0 : te = 0
  ·have h0' : (takeP W.B.p.g s.A n).2.1 = 0 := by rw [htk]; exact h0
   obtain ⟨kk, i, hn, hk, hf, he, hi⟩ := take_some h0'
   obtain ⟨y, hy⟩ := L_ex (g := W.B.p.g) (i := i) (by rw [← hW.ok.A]; exact hi)
   have ha : actS W.B.p.g s what n = ⟨s.A.set i true, s.R.set 0 (setWordP (makeP s.x y ⟨n, 0, 1⟩).2 y 0 7).2, s.C, s.act, s.at_, s.D⟩ := by
    unfold actS
    rw [if_pos h2, if_pos h0', he]
    simp only [Int.toNat_natCast, hy]
   rw [ha]
   rcases (show what % 6 = 0 ∨ what % 6 = 1 by omega) with h | h
   ·exact does_ok0 hG hW hK hw h he hy
   ·exact does_ok1 hG hW hK hw h he hy
  ·obtain ⟨_, ha⟩ := take_all hW h2 htk h0
   rw [ha]
   rcases (show what % 6 = 0 ∨ what % 6 = 1 by omega) with h | h
   ·exact does_err0 hG hW hK hw h htk h0
   ·exact does_err1 hG hW hK hw h htk h0
 ·by_cases h23 : what % 6 = 2 ∨ what % 6 = 3
  ·by_cases hn : 0 ≤ n ∧ n < (W.B.p.g.slots : Nat)
   ·obtain ⟨i, rfl⟩ : ∃ i : Nat, n = i := ⟨n.toNat, by omega⟩
    have hi : i < W.B.p.g.slots := by omega
    by_cases h : what % 6 = 2
    ·have ha : actS W.B.p.g s what (i : Nat) = if s.act = false ∨ s.D[i]? = some false then ⟨(giveP s.A (i : Nat)).2, s.R, s.C, s.act, s.at_, s.D⟩ else s := by
      unfold actS
      rw [if_neg h2, if_pos h]
      simp only [Int.toNat_natCast, hn, true_and]
     rw [ha]
     cases hact : s.act with
     | false =>
      rw [if_pos (.inl rfl)]
      have := does_give_off (F := F) hG hW hK hw h hi hact
      rw [hact] at this
      exact this
     | true =>
      obtain ⟨d, hd⟩ := get_of_lt (l := s.D) (k := i) (by rw [hW.ok.D]; exact hi)
      cases d with
      | false =>
       rw [if_pos (.inr hd)]
       have := does_give_on (F := F) hG hW hK hw h hi hact hd
       rw [hact] at this
       exact this
      | true =>
       rw [if_neg (by rw [hd]; simp)]
       exact does_give_no hG hW hK hw h hi hact hd
    ·have h3 : what % 6 = 3 := h23.resolve_left h
     have ha : actS W.B.p.g s what (i : Nat) = ⟨s.A, s.R, s.C.set i 2, s.act, s.at_, s.D⟩ := by
      unfold actS
      rw [if_neg h2, if_neg h, if_pos h3, if_pos hn]
      simp only [Int.toNat_natCast]
     rw [ha]
     exact does_black hG hW hK hw h3 hi
   ·have ha : actS W.B.p.g s what n = s := by
     unfold actS
     rw [if_neg h2]
     by_cases h : what % 6 = 2
     ·rw [if_pos h, if_neg (fun hc => hn ⟨hc.1, hc.2.1⟩)]
     ·rw [if_neg h, if_pos (h23.resolve_left h), if_neg hn]
    rw [ha]
    exact does_give_out hG hW hK hw h23 hn
  ·have h6 : 4 ≤ what % 6 := by omega
   have ha : actS W.B.p.g s what n = (stepS W.B.p.g s).1 := by
    unfold actS
    rw [if_neg h2, if_neg (fun h => h23 (.inl h)), if_neg (fun h => h23 (.inr h))]
   rw [ha]
   by_cases hs : s.act = true ∧ s.at_ < W.B.p.g.slots
   ·obtain ⟨y, hy⟩ := L_ex hs.2
    obtain ⟨av, hav⟩ := get_of_lt (l := s.A) (k := s.at_) (by rw [hW.ok.A]; exact hs.2)
    obtain ⟨c, hc⟩ := get_of_lt (l := s.C) (k := s.at_) (by rw [hW.ok.C]; exact hs.2)
    unfold stepS
    rw [if_pos hs, hy]
    dsimp only
    cases hgv : (av && decide (c = 0)) with
    | true =>
     have h := hgv
     rw [Bool.and_eq_true, decide_eq_true_eq] at h
     rw [if_pos ⟨by rw [hav, h.1], by rw [hc, h.2]⟩]
     exact does_gone hG hW hK hw h6 hs.1 hy hav hc hgv
    | false =>
     rw [if_neg]
     ·exact does_stay hG hW hK hw h6 hs.1 hy hav hc hgv
     ·rintro ⟨e1, e2⟩
      rw [hav] at e1; rw [hc] at e2
      cases e1; cases e2; cases hgv
   ·have ha : (stepS W.B.p.g s).1 = s := by unfold stepS; rw [if_neg hs]
    rw [ha]
    refine does_end hG hW hK hw h6 ?_
    cases hact : s.act with
    | false => exact .inl rfl
    | true => exact .inr (by have := hW.ok.at_; have : ¬ s.at_ < W.B.p.g.slots := fun h => hs ⟨hact, h⟩; omega)
end
set_option maxRecDepth 10000
structure WpR (W : WoM) (s : SwP) : Prop where
 ok : SwOk W.B.p.g s
 sp : SpOk W.sp W.B.p.g.slots
 ar : ArOk W.a W.B.p
 bo : BoOk W.B s.x
 mK : MkOk W.k W.B.p
 e1 : W.sp.ab = W.a.b
 e2 : W.sp.bb = W.B.b
 e3 : W.sp.mb = W.k.b
 A : W.a.r.bs = s.A
 R : W.B.m.R = s.R
 t : W.B.t = 0
 C : tiC W.k.c = s.C
 act : W.k.act = true
 sact : W.sp.act = s.act
 sat : W.sp.at_ = s.at_
 sD : W.sp.d.bs = s.D
 n : s.R.length ≤ 1000
theorem WoR.p {w0 : World} {W : WoM} {s : SwP} (h : WoR w0 W s) : WpR W s := ⟨h.ok, h.sp, h.ar, h.bo, h.mK, h.e1, h.e2, h.e3, h.A, h.R, h.t, h.C, h.act, h.sact, h.sat, h.sD, h.n⟩
structure Wsame (W W' : WoM) : Prop where
 L : woL W' = woL W
 D : W'.D = W.D
 g : W'.B.p.g = W.B.p.g
 sp : W'.sp.b = W.sp.b
 a : W'.a.b = W.a.b
 m : W'.B.m.b = W.B.m.b
theorem Wsame.refl {W : WoM} : Wsame W W := ⟨rfl, rfl, rfl, rfl, rfl, rfl⟩
theorem Wsame.trans {W W' W'' : WoM} (h : Wsame W W') (h' : Wsame W' W'') : Wsame W W'' := ⟨h'.L.trans h.L, h'.D.trans h.D, h'.g.trans h.g, h'.sp.trans h.sp, h'.a.trans h.a, h'.m.trans h.m⟩
theorem Call.post {P : Program} {w0 : World} {f : FuncId} {args : List Value} {H : Heap} {R R' : Value → Heap → Prop} (h : Call P w0 f args H R) (hr : ∀ v H1, R v H1 → ∃ H2, R' v H2 ∧ Part H1 H2) : Call P w0 f args H R' :=
 ⟨h.ent, fun w hw => (h.out w hw).mono (by
  rintro e w' ⟨v, H1, he, hh, hR⟩
  obtain ⟨H2, h2, hp⟩ := hr _ _ hR
  exact ⟨v, H2, he, hh.part hp, h2⟩)⟩
section
variable {w0 : World} {F : Heap} {W : WoM} {s : SwP}
theorem wStart_K (hW : WpR W s) (h : s.act = false) : Call Tryz.prog w0 17 [.pointer (some ⟨W.sp.b, 0, none⟩)] (woH W ++ F)
  (fun r H' => r = .int .i64 0 ∧ ∃ W', WpR W' (startS s) ∧ Wsame W W' ∧ W'.v = W.v ∧ W'.va = W.va ∧ W'.vr = W.vr ∧ W'.R = W.R ∧ W'.vc = W.vc ∧ W'.vd = W.vd ∧ W'.ka = W.ka ∧ W'.kat = W.kat ∧ H' = woH W' ++ F) := by
 obtain ⟨sp, a, B, k, v, va, vr, R, vc, ka, kat, vd, D⟩ := W
 rw [woH_app]
 refine (Call.part (spStart_K (s := sp) (hW.sact.trans h)) byPart).mono ?_
 rintro _ _ ⟨rfl, rfl⟩
 refine ⟨rfl, ⟨{ sp with act := true }, a, B, k, v, va, vr, R, vc, ka, kat, vd, D⟩, ⟨startS_ok hW.ok, ⟨hW.sp.d, hW.sp.dn, hW.sp.at_⟩, hW.ar, hW.bo, hW.mK, hW.e1, hW.e2, hW.e3, hW.A, hW.R, hW.t, hW.C, hW.act, rfl, hW.sat, hW.sD, hW.n⟩, ⟨rfl, rfl, rfl, rfl, rfl, rfl⟩, rfl, rfl, rfl, rfl, rfl, rfl, rfl, rfl, ?_⟩
 rw [woH_app]
theorem wStop_E (hW : WpR W s) (h : ¬ (s.act = true ∧ s.at_ = W.B.p.g.slots)) : Call Tryz.prog w0 21 [.pointer (some ⟨W.sp.b, 0, none⟩)] (woH W ++ F) (fun r H' => r = .tuple [.int .i64 0, .int .i64 9].toArray ∧ H' = woH W ++ F) := by
 rw [woH_app]
 refine spStop_E ?_
 unfold doneB
 rw [hW.sact, hW.sat, hW.sD, hW.ok.D]
 cases ha : s.act with
 | false => rfl
 | true => rw [decide_eq_false (fun e => h ⟨ha, e⟩)]; rfl
theorem wDone_K (hW : WpR W s) : Call Tryz.prog w0 25 [.pointer (some ⟨W.sp.b, 0, none⟩)] (woH W ++ F) (fun r H' => r = .bool (s.act && decide (s.at_ = W.B.p.g.slots)) ∧ H' = woH W ++ F) := by
 rw [woH_app]
 have := spDone_K (w0 := w0) (s := W.sp) (F := arenaH W.a W.B.p ++ (bodyH W.B ++ (memH W.B.m ++ (planH W.B.p ++ (markH W.k W.B.p ++ (W.D ++ F))))))
 unfold doneB at this
 rw [hW.sact, hW.sat, hW.sD, hW.ok.D] at this
 exact this
theorem wDoomed_K (hG : Glob w0) (hW : WpR W s) : Call Tryz.prog w0 19 [.pointer (some ⟨W.sp.b, 0, none⟩)] (woH W ++ F) (fun r H' => ∃ o, oOk iE (idxP s.D) o ∧ r = oV o (idxP s.D).length ∧ H' = oH iE 3 (idxP s.D) o ++ (woH W ++ F)) := by
 rw [woH_app, ← hW.sD]; exact spDoomed_K hG hW.sp
theorem wHas_K {i : Int} (hW : WpR W s) : Call Tryz.prog w0 20 [.pointer (some ⟨W.a.b, 0, none⟩), .int .i64 i] (woH W ++ F) (fun r H' => r = .bool (getB s.A i) ∧ H' = woH W ++ F) := by
 have h := Call.ro (w0 := w0) (A := arenaH W.a W.B.p) (H := woH W ++ F) (fun F => Has_K (F := F) (i := i) hW.ar) (by rw [woH_app]; exact byPart)
 rw [hW.A] at h
 exact h
theorem wCount_K (hW : WpR W s) : Call Tryz.prog w0 66 [.pointer (some ⟨W.a.b, 0, none⟩)] (woH W ++ F) (fun r H' => r = .int .i64 (s.A.count true : Nat) ∧ H' = woH W ++ F) := by
 have h := Call.ro (w0 := w0) (A := arenaH W.a W.B.p) (H := woH W ++ F) (fun F => aCount_K (F := F) hW.ar) (by rw [woH_app]; exact byPart)
 rw [hW.A] at h
 exact h
theorem wAll_K (hW : WpR W s) : Call Tryz.prog w0 16 [.pointer (some ⟨W.B.m.b, 0, none⟩)] (woH W ++ F) (fun r H' => ∃ o, oOk uE s.R.flatten o ∧ r = oV o s.R.flatten.length ∧ H' = oH uE 64 s.R.flatten o ++ (woH W ++ F)) := by
 have h := All_K (w0 := w0) (F := sweepH W.sp ++ (arenaH W.a W.B.p ++ (bodyH W.B ++ (planH W.B.p ++ (markH W.k W.B.p ++ (W.D ++ F)))))) (m := W.B.m) hW.bo.m
 rw [hW.R] at h
 refine Call.post (Call.part h (by rw [woH_app]; exact byPart)) ?_
 rintro _ _ ⟨o, ko, rfl, rfl⟩
 exact ⟨_, ⟨o, ko, rfl, rfl⟩, by rw [woH_app]; exact byPart⟩
theorem step_mod (hW : WpR W s) (h : ¬ (s.act = true ∧ s.at_ < W.B.p.g.slots)) : Call Tryz.prog w0 18 [.pointer (some ⟨W.sp.b, 0, none⟩)] (woH W ++ F) (fun r H' => r = .bool false ∧ H' = woH W ++ F) := by
 rw [woH_app]
 refine spStep_E ?_
 rw [hW.sact, hW.sat, hW.sD, hW.ok.D]
 cases ha : s.act with
 | false => exact .inl rfl
 | true =>
  right
  have := hW.ok.at_
  have : ¬ s.at_ < W.B.p.g.slots := fun e => h ⟨ha, e⟩
  omega
theorem wStep_K {s' : SwP} (hW : WpR W s) (hst : stepS W.B.p.g s = (s', true)) (ha : s.act = true) (hlt : s.at_ < W.B.p.g.slots) : Call Tryz.prog w0 18 [.pointer (some ⟨W.sp.b, 0, none⟩)] (woH W ++ F)
  (fun r H' => r = .bool true ∧ ∃ W', WpR W' s' ∧ Wsame W W' ∧ H' = woH W' ++ F) := by
 obtain ⟨y, hy⟩ := L_ex hlt
 obtain ⟨av, hav⟩ := get_of_lt (l := s.A) (k := s.at_) (by rw [hW.ok.A]; exact hlt)
 obtain ⟨c, hc⟩ := get_of_lt (l := s.C) (k := s.at_) (by rw [hW.ok.C]; exact hlt)
 have hok := stepS_ok hW.bo.p.g hW.ok
 rw [hst] at hok
 dsimp only at hok
 have hgc : goneC W.a W.sp.at_ c = (av && decide (c = 0)) := by unfold goneC; rw [hW.A, hW.sat, hav]; rfl
 have hfit := hW.bo.p.g.fits hy
 have hxl := hW.ok.x
 have hyl : (wipeP s.x y).length = s.x.length := wipe_len (by omega)
 have hyw : WdOk (wipeP s.x y) := WdOk.cleared hW.ok.w
 have hstep := spStep_K (w0 := w0) (F := W.D ++ F) (s := W.sp) (a := W.a) (B := W.B) (k := W.k) (x := s.x) (y := y) (c := c) hW.sp hW.ar hW.bo hW.mK (hW.sact.trans ha) (by rw [hW.sat]; exact hy) (by rw [hW.C, hW.sat]; exact hc) hW.e1 hW.e2 hW.e3
 simp only [hgc] at hstep
 unfold stepS at hst
 rw [if_pos ⟨ha, hlt⟩, hy] at hst
 dsimp only at hst
 have hsat := hW.sat
 rw [woH_app]
 obtain ⟨sp, a, B, k, v, va, vr, R, vc, ka, kat, vd, D⟩ := W
 dsimp only at *
 cases hgv : (av && decide (c = 0)) with
 | true =>
  have h := hgv
  rw [Bool.and_eq_true, decide_eq_true_eq] at h
  rw [if_pos ⟨by rw [hav, h.1], by rw [hc, h.2]⟩] at hst
  obtain ⟨rfl, _⟩ := Prod.mk.inj hst
  simp only [hgv, if_true] at hstep
  refine hstep.mono ?_
  rintro _ _ ⟨rfl, rfl⟩
  have hx : SwP.x ⟨s.A, s.R.set 0 (wipeP s.x y), s.C, s.act, s.at_ + 1, s.D.set s.at_ true⟩ = wipeP s.x y := by unfold SwP.x; rw [x_set hW.ok.R]; rfl
  have ht : B.t = 0 := hW.t
  have hR : B.m.R = s.R := hW.R
  have hsD : sp.d.bs = s.D := hW.sD
  have hb : bodyH ⟨B.b, putM B.m B.t (wipeP s.x y), B.t, B.p⟩ = bodyH B := rfl
  refine ⟨rfl, ⟨{ sp with d := setR sp.d sp.at_ true, at_ := sp.at_ + 1 }, a, ⟨B.b, putM B.m B.t (wipeP s.x y), B.t, B.p⟩, k, v, va, vr, R, vc, ka, kat, vd, D⟩, ⟨hok, ⟨setR_ok hW.sp.d _ _, ?_, ?_⟩, hW.ar, by rw [hx]; exact bo_put hW.bo hyl hyw, hW.mK, hW.e1, hW.e2, hW.e3, hW.A, ?_, ht, hW.C, hW.act, hW.sact, ?_, ?_, by rw [List.length_set]; exact hW.n⟩, ⟨rfl, rfl, rfl, rfl, rfl, rfl⟩, by rw [woH_app]; rfl⟩
  ·show (sp.d.bs.set sp.at_ true).length = _
   rw [List.length_set]; exact hW.sp.dn
  ·show sp.at_ + 1 ≤ _
   rw [hsat]; exact hok.at_
  ·show B.m.R.set B.t _ = _
   rw [ht, hR]
  ·show sp.at_ + 1 = _
   rw [hsat]
  ·show sp.d.bs.set sp.at_ true = _
   rw [hsat, hsD]
 | false =>
  rw [if_neg (by
   rintro ⟨e1, e2⟩
   rw [hav] at e1; rw [hc] at e2
   cases e1; cases e2; cases hgv)] at hst
  obtain ⟨rfl, _⟩ := Prod.mk.inj hst
  simp only [hgv, Bool.false_eq_true, if_false] at hstep
  refine hstep.mono ?_
  rintro _ _ ⟨rfl, rfl⟩
  exact ⟨rfl, ⟨{ sp with at_ := sp.at_ + 1 }, a, B, k, v, va, vr, R, vc, ka, kat, vd, D⟩, ⟨hok, ⟨hW.sp.d, hW.sp.dn, by show sp.at_ + 1 ≤ _; rw [hsat]; exact hok.at_⟩, hW.ar, hW.bo, hW.mK, hW.e1, hW.e2, hW.e3, hW.A, hW.R, hW.t, hW.C, hW.act, hW.sact, by show sp.at_ + 1 = _; rw [hsat], hW.sD, hW.n⟩, ⟨rfl, rfl, rfl, rfl, rfl, rfl⟩, by rw [woH_app]⟩
theorem wStop_K (hG : Glob w0) (hW : WpR W s) (ha : s.act = true) (h : s.at_ = W.B.p.g.slots) : Call Tryz.prog w0 21 [.pointer (some ⟨W.sp.b, 0, none⟩)] (woH W ++ F)
  (fun r H' => r = .tuple [.int .i64 (s.D.count true : Nat), .int .i64 0].toArray ∧ ∃ W', WpR W' (stopS W.B.p.g s) ∧ Wsame W W' ∧ W'.v = W.v ∧ W'.va = W.va ∧ W'.vr = W.vr ∧ W'.R = W.R ∧ W'.vc = W.vc ∧ H' = woH W' ++ F) := by
 have hst := spStop_K (w0 := w0) (F := bodyH W.B ++ (memH W.B.m ++ (markH W.k W.B.p ++ (W.D ++ F)))) (s := W.sp) (a := W.a) (p := W.B.p) hG hW.sp hW.ar (by
  unfold doneB
  rw [hW.sact, hW.sat, hW.sD, hW.ok.D, ha, decide_eq_true h]; rfl) hW.e1
 rw [hW.sD, hW.A] at hst
 refine Call.post (Call.part hst (by rw [woH_app]; exact byPart)) ?_
 rintro _ _ ⟨rfl, a', s', ka, ab, arb, abs, ks, sb, sab, sbb, smb, sat, sact, sd, rfl⟩
 obtain ⟨sp, a, B, k, v, va, vr, R, vc, ka', kat, vd, D⟩ := W
 dsimp only at *
 refine ⟨_, ⟨rfl, ⟨s', a', B, k, v, va, vr, R, vc, ka', kat, vd, D⟩, ⟨stopS_ok hW.ok, ks, ka, hW.bo, hW.mK, (sab.trans hW.e1).trans ab.symm, sbb.trans hW.e2, smb.trans hW.e3, abs, hW.R, hW.t, hW.C, hW.act, sact, sat, sd, hW.n⟩, ⟨?_, rfl, rfl, sb, ab, rfl⟩, rfl, rfl, rfl, rfl, rfl, rfl⟩, by rw [woH_app]; exact byPart⟩
 unfold woL
 dsimp only
 rw [sb, ab]
structure WoO (W : WoM) : Prop where
 q1 : W.v.L.oneCell' = true
 q2 : W.v.F.oneCell' = true
 q3 : W.v.M.oneCell' = true
 q4 : W.v.C.oneCell' = true
 q5 : W.va.oneCell' = true
 q6 : W.vr.oneCell' = true
 q7 : W.vc.oneCell' = true
 q8 : W.vd.oneCell' = true
theorem WoR.o (hW : WoR w0 W s) : WoO W := ⟨hW.dA.p.oL, hW.dA.p.oF, hW.dA.p.oM, hW.dA.p.oC, hW.dA.o, hW.dM.o, hW.oC, hW.oD⟩
end
open Go.RowKit
set_option maxRecDepth 100000
structure ActP where
 w : Nat
 n : Int
def actE : Enc ActP := ⟨fun x => [.int .u8 (x.w : Nat), .int .i64 x.n], 2, fun _ => rfl, by intro x v hv; simp at hv; rcases hv with rfl | rfl <;> rfl⟩
def afterS (g : PlG) (s : SwP) (l : List ActP) : SwP := l.foldl (fun s x => actS g s x.w x.n) s
theorem after_snoc {g : PlG} {s : SwP} {l : List ActP} {k : Nat} {x : ActP} (h : l[k]? = some x) : afterS g s (l.take (k + 1)) = actS g (afterS g s (l.take k)) x.w x.n := by
 unfold afterS; rw [take_snoc h, List.foldl_append]; rfl
theorem after_act {g : PlG} : ∀ {l : List ActP} {s : SwP}, (afterS g s l).act = s.act
 | [], s => rfl
 | x :: l, s => by
  show (afterS g (actS g s x.w x.n) l).act = _
  rw [after_act, actS_act]
def awC : Cfg := ⟨[2, 4], 8, [⟨20, 8, 4, 1⟩, ⟨4, 1, 1, 0⟩], 1, 2, 3⟩
def awG : PlG := gOf awC 0
def awL : List ActP := [⟨0, 0⟩, ⟨0, 0⟩, ⟨0, 1⟩, ⟨3, 1⟩]
def awS0 : SwP := freshS awG (mR (fun t => wordsP awC (t : Nat)) awC.tn.length)
def awS : SwP := afterS awG awS0 awL
theorem aw_ok : okC awC = true := by kernel_rfl
theorem aw_slots : awG.slots = 15 := by kernel_rfl
theorem aw_d1 : idxP ((List.range 15).map fun i => decide (i < 1) && goneP awS i) = [0] := by kernel_rfl
theorem aw_d2 : idxP ((List.range 15).map fun i => decide (i < 15) && goneP awS i) = [0, 10] := by kernel_rfl
theorem aw_many : ((List.range 15).map fun i => decide (i < 15) && goneP awS i).count true = 2 := by kernel_rfl
theorem aw_cnt : ((List.range 15).map fun i => leftP awS i).count true = 1 := by kernel_rfl
theorem aw_one : getB ((List.range 15).map fun i => leftP awS i) 1 = true := by kernel_rfl
theorem list_of {n : Nat} {f : Nat → Bool} {l : List Bool} (hl : l.length = n) (h : ∀ i, i < n → l[i]? = some (f i)) : l = (List.range n).map f := by
 apply List.ext_getElem?
 intro i
 by_cases hi : i < n
 ·rw [h i hi, List.getElem?_map, List.getElem?_range hi]; rfl
 ·rw [List.getElem?_eq_none (by omega), List.getElem?_eq_none (by simp; omega)]
theorem run_list {g : PlG} {s t : SwP} {j : Nat} (h : Run g s j t) : t.D = (List.range g.slots).map fun i => decide (i < j) && goneP s i := list_of h.dl h.D
open Go.RowKit
set_option maxRecDepth 10000
structure AwA where
 i : Nat
 W : WoM
structure AwB where
 n : Nat
 W : WoM
 t : SwP
theorem aw_act : awS.act = false := after_act
theorem aw_w {x : ActP} {i : Nat} (h : awL[i]? = some x) : x.w < 256 := by
 have := List.mem_of_getElem? h
 simp only [awL, List.mem_cons, List.not_mem_nil, or_false] at this
 rcases this with rfl | rfl | rfl | rfl <;> decide
set_option maxHeartbeats 8000000 in
theorem awake_K {w0 : World} {F : Heap} (hG : Glob w0) : Call Tryz.prog w0 14 [] F (fun r H' => r = .bool true ∧ H' = F) := by
 have hsl15 := aw_slots
 refine Call.enter0 (n := 139) (by kernel_rfl) Tryz.func14 rfl rfl rfl ?_
 refine K.seq (K.region ?_)
 refine KL.v rfl (Val.assign rfl) ?_
 refine KL.nil (KE.next (K.seq (K.region ?_)))
 refine KL.e rfl (Eff.buildS byParts rfl rfl rfl rfl rfl byFill) ?_; rintro _ _ ⟨b18, rfl, rfl⟩
 refine KL.v rfl (Val.build byParts rfl rfl byFill) ?_
 refine KL.v rfl (Val.build byParts rfl rfl byFill) ?_
 refine KL.e rfl (Eff.buildS byParts rfl rfl rfl rfl rfl byFill) ?_; rintro _ _ ⟨b21, rfl, rfl⟩
 refine KL.v rfl (Val.build byParts rfl rfl byFill) ?_
 refine KL.callc rfl rfl byEvL fun T hT => ?_
 have hC : Sli w0 [(b18, cells [.int .i64 2, .int .i64 4] 3)] iE (.slice (some ⟨b18, 0, none⟩) 2 2) awC.cl := Sli.blk Take.head rfl (by decide) (by decide) rfl
 have hT : Sli w0 [(b21, cells (flat tnE awC.tn) 141)] tnE (.slice (some ⟨b21, 0, none⟩) 2 2) awC.tn := Sli.blk Take.head rfl (by decide) (by decide) rfl
 have hR : CfgR w0 ([(b18, cells [.int .i64 2, .int .i64 4] 3)] ++ ((b21, cells (flat tnE awC.tn) 141) :: F)) awC (.slice (some ⟨b18, 0, none⟩) 2 2) (.slice (some ⟨b21, 0, none⟩) 2 2) := ⟨hC.part byPart, hT.part byPart, rfl, rfl, by decide, by decide⟩
 refine (CallV.part (CallV.fn (made_K hG hR aw_ok hC rfl)) byPart).mono ?_
 rintro _ _ ⟨W, ⟨s0, hs0, hg, hW, hK⟩, rfl, rfl⟩
 have hs0' : s0 = awS0 := hs0
 subst hs0'
 have hg' : W.B.p.g = awG := hg
 obtain ⟨q1, q2, q3, q4, q5, q6, q7, q8⟩ := hW.o
 clear hs0 hg hR hT hC
 unfold woL
 refine hT _ _ ?_; clear hT T
 refine KL.v rfl (Val.move rfl) ?_
 refine KL.v rfl (Val.extract rfl rfl) ?_
 refine KL.v rfl (Val.extract rfl rfl) ?_
 refine KL.e rfl (Eff.alloc rfl) ?_; rintro _ _ ⟨b1, rfl, rfl⟩
 refine KL.eN (Eff.storeAL rfl rfl rfl byTake byLay byOnes) ?_; rintro _ _ rfl
 refine KL.v rfl (Val.assign rfl) ?_
 refine KL.nil (KE.next (K.seq (K.seq (K.region ?_))))
 refine KL.v rfl (Val.move rfl) ?_
 refine KL.v rfl (Val.notT rfl) ?_
 refine KL.nil (KE.next (K.condF rfl (K.skip (KE.next (K.seq (K.region ?_))))))
 refine KL.v rfl (Val.build byParts rfl rfl byFill) ?_
 refine KL.v rfl (Val.build byParts rfl rfl byFill) ?_
 refine KL.v rfl (Val.build byParts rfl rfl byFill) ?_
 refine KL.v rfl (Val.build byParts rfl rfl byFill) ?_
 refine KL.e rfl (Eff.buildS byParts rfl rfl rfl rfl rfl byFill) ?_; rintro _ _ ⟨b32, rfl, rfl⟩
 refine KL.v rfl (Val.assign rfl) ?_
 refine KL.nil (KE.next (K.seq (K.seq (K.region ?_))))
 refine KL.v rfl (Val.assign rfl) ?_
 refine KL.nil (KE.next (K.block ?_))
 have hsl : Sli w0 [(b32, cells (flat actE awL) 52)] actE (.slice (some ⟨b32, 0, none⟩) 4 4) awL := Sli.blk Take.head rfl (by decide) (by decide) rfl
 refine K.loopT (σ := AwA) [(1, _), (3, _)] (fun s kp_ => (4, .int .i64 (s.i : Nat)) :: kp_) (fun s => woH s.W ++ ((b1, cells (woL s.W) 47) :: (b32, cells (flat actE awL) 52) :: F)) (fun s => s.i ≤ 4 ∧ WoR w0 s.W (afterS awG awS0 (awL.take s.i)) ∧ WoK w0 s.W (afterS awG awS0 (awL.take s.i)) ∧ s.W.B.p.g = awG) (fun s => 4 - s.i) (⟨0, W⟩) bySub byPart (⟨Nat.zero_le _, hW, hK, hg'⟩) ?_
 rintro ⟨i, W1⟩ ⟨hi, hW1, hK1, hg1⟩
 dsimp only at hi hW1 hK1 hg1 ⊢
 by_cases hlt : i < 4
 ·obtain ⟨x, hx⟩ := get_of_lt (l := awL) (k := i) hlt
  have hxw := aw_w hx
  have hlt' : i < awL.length := hlt
  have hst := after_snoc (g := awG) (s := awS0) hx
  unfold woL
  refine K.seq (K.seq (K.region ?_))
  refine KL.v rfl (Val.move rfl) ?_
  refine KL.v rfl (Val.move rfl) ?_
  refine KL.v rfl (Val.lenSl rfl rfl bySli) ?_
  refine KL.v rfl (Val.isT (Val.lss rfl rfl) byLt) ?_
  refine KL.nil (KE.next (K.condT rfl (K.skip (KE.next (K.seq (K.block ?_))))))
  refine byCodeD ?_
  (first | refine K.seq (K.drawn ([]) [(0, 0), (1, 0), (2, 0), (3, 0), (4, 0), (5, 2), (6, 0), (7, 0), (8, 1), (9, 2)] (by kernel_rfl) (by kernel_rfl) (by kernel_rfl) (by kernel_rfl) (by kernel_rfl) (by kernel_rfl) byPart ?_) | refine K.seq (K.seq (K.drawn ([]) [(0, 0), (1, 0), (2, 0), (3, 0), (4, 0), (5, 2), (6, 0), (7, 0), (8, 1), (9, 2)] (by kernel_rfl) (by kernel_rfl) (by kernel_rfl) (by kernel_rfl) (by kernel_rfl) (by kernel_rfl) byPart ?_)) | refine K.drawn ([]) [(0, 0), (1, 0), (2, 0), (3, 0), (4, 0), (5, 2), (6, 0), (7, 0), (8, 1), (9, 2)] (by kernel_rfl) (by kernel_rfl) (by kernel_rfl) (by kernel_rfl) (by kernel_rfl) (by kernel_rfl) byPart ?_)
  (first | refine KD.v0 rfl rfl (Val.loadAP rfl rfl rfl bySeeA) ?_ | refine KD.v0 rfl rfl (Val.loadA rfl rfl rfl bySeeN) ?_)
  refine KD.v0 rfl rfl (Val.move rfl) ?_
  refine KD.v0 rfl rfl (Val.move rfl) ?_
  (first | refine KD.v0 rfl rfl (Val.idxSl rfl rfl rfl bySli rfl byLt) ?_ | refine KD.v0 rfl rfl (Val.idxSlZ rfl rfl rfl bySli rfl (by omega)) ?_ | refine KD.v0 rfl rfl (Val.indexS1 rfl rfl rfl rfl (by omega)) ?_ | refine KD.v0 rfl rfl (Val.indexS rfl rfl rfl rfl (by omega)) ?_ | refine KD.v0 rfl rfl (Val.indexSO rfl rfl rfl rfl (by omega)) ?_ | refine KD.v0 rfl rfl (Val.indexSG rfl rfl rfl rfl (by omega)) ?_)
  (first | refine KD.v0 rfl rfl (Val.loadAP rfl rfl rfl bySeeA) ?_ | refine KD.v0 rfl rfl (Val.loadA rfl rfl rfl bySeeN) ?_)
  refine KD.callc rfl rfl rfl byEvL fun T hT => ?_
  refine (CallV.part (CallV.fn (does_K (what := x.w) (n := x.n) hG hW1 hK1 hxw)) byPart).mono ?_
  rintro _ _ ⟨W2, hW2, hK2, hg2, rfl, rfl⟩
  rw [hg1, ← hst] at hW2 hK2
  obtain ⟨r1, r2, r3, r4, r5, r6, r7, r8⟩ := hW2.o
  unfold woL
  refine hT _ _ byPart ?_; clear hT T
  refine KD.v0 rfl rfl (Val.move rfl) ?_
  refine KD.v0 rfl rfl (Val.extract rfl rfl) ?_
  refine KD.v1 rfl rfl (Val.extract rfl rfl) ?_
  (first | (refine KD.eN rfl (Eff.storeAL rfl rfl rfl byTake byLay byOnes) ?_; rintro _ _ rfl; refine ⟨byPart, ?_⟩) | (refine KD.eN rfl (Eff.stSlA rfl rfl rfl rfl byTakeL (by assumption) (by assumption)) ?_; rintro _ _ rfl; refine ⟨byPart, ?_⟩))
  refine KD.nil ?_
  refine KE.blkN ?_
  refine KE.next (K.region ?_)
  refine KL.v rfl (Val.move rfl) ?_
  refine KL.v rfl (Val.add rfl rfl (by simp only [qL, qH]; omega)) ?_
  refine KL.v rfl (Val.assign rfl) ?_
  refine KL.nil ?_
  exact KE.again ⟨i + 1, W2⟩ bySub byPart ⟨hlt, hW2, hK2, hg2.trans hg1⟩ (by show 4 - (i + 1) < 4 - i; omega)
 ·have hlt' : ¬ i < awL.length := hlt
  have hi4 : i = 4 := by omega
  subst hi4
  have hp : WpR W1 awS := hW1.p
  clear hW1 hK1 hsl
  unfold woL
  refine K.seq (K.seq (K.region ?_))
  refine KL.v rfl (Val.move rfl) ?_
  refine KL.v rfl (Val.move rfl) ?_
  refine KL.v rfl (Val.lenS rfl rfl) ?_
  refine KL.v rfl (Val.isF (Val.lss rfl rfl) byLt) ?_
  refine KL.nil (KE.next (K.condF rfl ?_))
  refine K.exit ?_
  refine KE.passX ?_
  refine KE.passX ?_
  refine KE.blkX ?_
  refine KE.next ?_
  refine byCodeD ?_
  (first | refine K.seq (K.drawn ((b1, cells [.pointer (some ⟨W1.B.m.b, 0, none⟩), .pointer (some ⟨W1.a.b, 0, none⟩), .pointer (some ⟨W1.B.b, 0, none⟩), .pointer (some ⟨W1.k.b, 0, none⟩), .pointer (some ⟨W1.sp.b, 0, none⟩), W1.v.L, W1.v.F, W1.v.M, .int .i64 (W1.B.p.g.words : Nat), W1.v.C, W1.va, W1.vr, .int .i64 ((0 : Nat) : Int), W1.v.L, W1.v.F, W1.v.M, .int .i64 (W1.B.p.g.words : Nat), W1.v.C, W1.vc, .bool W1.ka, .int .i64 (W1.kat : Nat), W1.vd] 47) :: []) [(0, 0), (1, 0), (3, 1), (4, 1), (2, 2), (5, 2), (6, 0), (7, 0)] (by kernel_rfl) (by kernel_rfl) (by kernel_rfl) (by kernel_rfl) (by kernel_rfl) (by kernel_rfl) byPart ?_) | refine K.seq (K.seq (K.drawn ((b1, cells [.pointer (some ⟨W1.B.m.b, 0, none⟩), .pointer (some ⟨W1.a.b, 0, none⟩), .pointer (some ⟨W1.B.b, 0, none⟩), .pointer (some ⟨W1.k.b, 0, none⟩), .pointer (some ⟨W1.sp.b, 0, none⟩), W1.v.L, W1.v.F, W1.v.M, .int .i64 (W1.B.p.g.words : Nat), W1.v.C, W1.va, W1.vr, .int .i64 ((0 : Nat) : Int), W1.v.L, W1.v.F, W1.v.M, .int .i64 (W1.B.p.g.words : Nat), W1.v.C, W1.vc, .bool W1.ka, .int .i64 (W1.kat : Nat), W1.vd] 47) :: []) [(0, 0), (1, 0), (3, 1), (4, 1), (2, 2), (5, 2), (6, 0), (7, 0)] (by kernel_rfl) (by kernel_rfl) (by kernel_rfl) (by kernel_rfl) (by kernel_rfl) (by kernel_rfl) byPart ?_)) | refine K.drawn ((b1, cells [.pointer (some ⟨W1.B.m.b, 0, none⟩), .pointer (some ⟨W1.a.b, 0, none⟩), .pointer (some ⟨W1.B.b, 0, none⟩), .pointer (some ⟨W1.k.b, 0, none⟩), .pointer (some ⟨W1.sp.b, 0, none⟩), W1.v.L, W1.v.F, W1.v.M, .int .i64 (W1.B.p.g.words : Nat), W1.v.C, W1.va, W1.vr, .int .i64 ((0 : Nat) : Int), W1.v.L, W1.v.F, W1.v.M, .int .i64 (W1.B.p.g.words : Nat), W1.v.C, W1.vc, .bool W1.ka, .int .i64 (W1.kat : Nat), W1.vd] 47) :: []) [(0, 0), (1, 0), (3, 1), (4, 1), (2, 2), (5, 2), (6, 0), (7, 0)] (by kernel_rfl) (by kernel_rfl) (by kernel_rfl) (by kernel_rfl) (by kernel_rfl) (by kernel_rfl) byPart ?_)
  (first | refine KD.v0 rfl rfl (Val.fieldSl (k := 4) rfl rfl) ?_ | refine KD.v0 rfl rfl (Val.fieldAddr0 (k := 4) rfl rfl) ?_ | refine KD.v0 rfl rfl (Val.fieldAddrZ rfl rfl) ?_ | refine KD.v0 rfl rfl (Val.fieldAddr (k := 4) rfl rfl) ?_)
  (first | refine KD.v0 rfl rfl (Val.loadP rfl rfl bySee) ?_ | refine KD.v0 rfl rfl (Val.loadP rfl rfl (Sees.more (by assumption) byPart)) ?_)
  (first | refine KD.v1 rfl rfl (Val.fieldSl (k := 4) rfl rfl) ?_ | refine KD.v1 rfl rfl (Val.fieldAddr0 (k := 4) rfl rfl) ?_ | refine KD.v1 rfl rfl (Val.fieldAddrZ rfl rfl) ?_ | refine KD.v1 rfl rfl (Val.fieldAddr (k := 4) rfl rfl) ?_)
  (first | refine KD.v1 rfl rfl (Val.loadP rfl rfl bySee) ?_ | refine KD.v1 rfl rfl (Val.loadP rfl rfl (Sees.more (by assumption) byPart)) ?_)
  refine KD.callc rfl rfl rfl byEvL fun T hT => ?_
  refine (CallV.part (CallV.fn (wStart_K hp aw_act)) byPart).mono ?_
  rintro _ _ ⟨rfl, W2, hp2, hsm2, _, _, _, _, _, _, _, _, rfl⟩
  refine hT _ _ byPart ?_; clear hT T
  refine KD.callc rfl rfl rfl byEvL fun T hT => ?_
  have hg2 : W2.B.p.g = awG := hsm2.g.trans hg1
  have hr0 : Run awG awS 0 (startS awS) := run_start (by have := hp.ok; rw [hg1] at this; exact this) aw_act
  have hok0 : SwOk awG (startS awS) := by have := hp2.ok; rw [hg2] at this; exact this
  have hplok : PlOk awG := by have := hp2.bo.p.g; rw [hg2] at this; exact this
  obtain ⟨t1, ht1, hr1, hok1⟩ := run_ok hplok hok0 hr0 hok0 (by rw [aw_slots]; decide)
  have hstep1 := fun A => wStep_K (w0 := w0) (F := A) hp2 (by rw [hg2]; exact ht1) rfl (by rw [hg2, hr0.at_, aw_slots]; decide)
  simp only [hsm2.sp] at hstep1
  refine (CallV.part (CallV.fn (hstep1 _)) byPart).mono ?_
  rintro _ _ ⟨rfl, W3, hp3, hsm3', rfl⟩
  have hsm3 := hsm2.trans hsm3'
  have hg3 : W3.B.p.g = awG := hsm3.g.trans hg1
  refine hT _ _ byPart ?_; clear hT T
  refine KD.v0 rfl rfl (Val.assign rfl) ?_
  refine KD.v0 rfl rfl (Val.assign rfl) ?_
  refine KD.nil ?_
  refine KE.next (K.seq (K.region ?_))
  refine KL.v rfl (Val.fieldAddr0 (k := 4) rfl rfl) ?_
  refine KL.v rfl (Val.loadP rfl rfl (Sees.cell byTake rfl)) ?_
  refine KL.callc rfl rfl byEvL fun T hT => ?_
  have hd1 : idxP t1.D = [0] := by rw [run_list hr1, aw_slots]; exact aw_d1
  have hdo := fun A => wDoomed_K (w0 := w0) (F := A) hG hp3
  simp only [hsm3.sp, hd1] at hdo
  refine (CallV.part (CallV.fn (hdo _)) byPart).mono ?_
  rintro _ _ ⟨od, kod, rfl, rfl⟩
  refine hT _ _ ?_; clear hT T
  refine KL.v rfl (Val.assign rfl) ?_
  refine KL.nil (KE.next (K.seq (K.region ?_)))
  refine KL.v rfl (Val.fieldAddr0 (k := 4) rfl rfl) ?_
  refine KL.v rfl (Val.loadP rfl rfl (Sees.cell byTake rfl)) ?_
  refine KL.callc rfl rfl byEvL fun T hT => ?_
  have hse := fun A => wStop_E (w0 := w0) (F := A) hp3 (by rw [hg3, hr1.at_, aw_slots]; rintro ⟨_, h⟩; cases h)
  simp only [hsm3.sp] at hse
  refine (CallV.part (CallV.fn (hse _)) byPart).mono ?_
  rintro _ _ ⟨rfl, rfl⟩
  refine hT _ _ ?_; clear hT T
  refine KL.v rfl (Val.move rfl) ?_
  refine KL.v rfl (Val.extract rfl rfl) ?_
  refine KL.v rfl (Val.extract rfl rfl) ?_
  refine KL.v rfl (Val.assign rfl) ?_
  refine KL.v rfl (Val.assign rfl) ?_
  refine KL.nil (KE.next (K.seq (K.region ?_)))
  refine KL.v rfl (Val.assign rfl) ?_
  refine KL.nil (KE.next (K.seq (K.block ?_)))
  refine K.loopT (σ := AwB) [(1, _), (5, _), (6, _), (7, _), (9, _)] (fun s kp_ => (10, .int .i64 (s.n : Nat)) :: kp_) (fun s => woH s.W ++ (oH iE 3 [0] od ++ ((b1, cells [.pointer (some ⟨W1.B.m.b, 0, none⟩), .pointer (some ⟨W1.a.b, 0, none⟩), .pointer (some ⟨W1.B.b, 0, none⟩), .pointer (some ⟨W1.k.b, 0, none⟩), .pointer (some ⟨W1.sp.b, 0, none⟩), W1.v.L, W1.v.F, W1.v.M, .int .i64 (W1.B.p.g.words : Nat), W1.v.C, W1.va, W1.vr, .int .i64 ((0 : Nat) : Int), W1.v.L, W1.v.F, W1.v.M, .int .i64 (W1.B.p.g.words : Nat), W1.v.C, W1.vc, .bool W1.ka, .int .i64 (W1.kat : Nat), W1.vd] 47) :: F))) (fun s => s.n ≤ 14 ∧ WpR s.W s.t ∧ Wsame W1 s.W ∧ Run awG awS (s.n + 1) s.t ∧ SwOk awG s.t) (fun s => 15 - s.n) (⟨0, W3, t1⟩) bySub byPart (⟨Nat.zero_le _, hp3, hsm3, hr1, hok1⟩) ?_
  rintro ⟨n, W4, t⟩ ⟨hn, hp4, hsm4, hr4, hok4⟩
  dsimp only at hn hp4 hsm4 hr4 hok4 ⊢
  have hg4 : W4.B.p.g = awG := hsm4.g.trans hg1
  have hn100 : ((n : Nat) : Int) < 100 := by omega
  by_cases hlt : n < 14
  ·obtain ⟨t', ht', hr', hok'⟩ := run_ok hplok hok0 hr4 hok4 (by rw [aw_slots]; omega)
   have hst := fun A => wStep_K (w0 := w0) (F := A) hp4 (by rw [hg4]; exact ht') hr4.act (by rw [hg4, hr4.at_, aw_slots]; omega)
   simp only [hsm4.sp] at hst
   refine K.seq (K.seq (K.region ?_))
   refine KL.v rfl (Val.fieldAddr0 (k := 4) rfl rfl) ?_
   refine KL.v rfl (Val.loadP rfl rfl (Sees.cell byTake rfl)) ?_
   refine KL.callc rfl rfl byEvL fun T hT => ?_
   refine (CallV.part (CallV.fn (hst _)) byPart).mono ?_
   rintro _ _ ⟨rfl, W5, hp5, hsm5, rfl⟩
   refine hT _ _ ?_; clear hT T
   refine KL.v rfl (Val.move rfl) ?_
   refine KL.yes rfl rfl ?_; refine KL.v rfl (Val.move rfl) ?_
   refine KL.yes rfl rfl ?_; refine KL.v rfl (Val.isT (Val.lss rfl rfl) byLt) ?_
   refine KL.v rfl (Val.pickT rfl rfl rfl) ?_
   refine KL.nil (KE.next (K.condT rfl (K.skip (KE.next (K.block (K.region ?_))))))
   refine KL.v rfl (Val.move rfl) ?_
   refine KL.v rfl (Val.add rfl rfl (by simp only [qL, qH]; omega)) ?_
   refine KL.v rfl (Val.assign rfl) ?_
   refine KL.nil ?_
   refine KE.blkN ?_
   exact KE.again ⟨n + 1, W5, t'⟩ bySub byPart ⟨hlt, hp5, hsm4.trans hsm5, hr', hok'⟩ (by show 15 - (n + 1) < 15 - n; omega)
  ·have hn14 : n = 14 := by omega
   subst hn14
   have hr15 : Run awG awS awG.slots t := by rw [aw_slots]; exact hr4
   have hend := fun A => step_mod (w0 := w0) (F := A) hp4 (by rw [hg4, hr4.at_, aw_slots]; rintro ⟨_, h⟩; omega)
   simp only [hsm4.sp] at hend
   have hd2 : idxP t.D = [0, 10] := by rw [run_list hr4, aw_slots]; exact aw_d2
   have hdo2 := fun A => wDoomed_K (w0 := w0) (F := A) hG hp4
   simp only [hsm4.sp, hd2] at hdo2
   have hdone := fun A => wDone_K (w0 := w0) (F := A) hp4
   simp only [hsm4.sp, hr4.act, hg4, hr4.at_, aw_slots] at hdone
   have hstop := fun A => wStop_K (w0 := w0) (F := A) hG hp4 hr4.act (by rw [hr4.at_, hg4, aw_slots])
   have hcnt : t.D.count true = 2 := by rw [run_list hr4, aw_slots]; exact aw_many
   simp only [hsm4.sp, hcnt] at hstop
   have hoks : SwOk awG awS := by have := hp.ok; rw [hg1] at this; exact this
   obtain ⟨_, hal, hag, _, _⟩ := sweep_all hoks hr15
   rw [aw_slots] at hal
   have hA : (stopS awG t).A = (List.range 15).map fun i => leftP awS i := list_of hal (fun i hi => hag i (by rw [aw_slots]; exact hi))
   refine K.seq (K.seq (K.region ?_))
   refine KL.v rfl (Val.fieldAddr0 (k := 4) rfl rfl) ?_
   refine KL.v rfl (Val.loadP rfl rfl (Sees.cell byTake rfl)) ?_
   refine KL.callc rfl rfl byEvL fun T hT => ?_
   refine (CallV.part (CallV.fn (hend _)) byPart).mono ?_
   rintro _ _ ⟨rfl, rfl⟩
   refine hT _ _ ?_; clear hT T
   refine KL.v rfl (Val.move rfl) ?_
   refine KL.skipG rfl rfl rfl ?_
   refine KL.skipG rfl rfl rfl ?_
   refine KL.v rfl (Val.pickF rfl rfl rfl) ?_
   refine KL.nil (KE.next (K.condF rfl ?_))
   refine K.exit ?_
   refine KE.passX ?_
   refine KE.passX ?_
   refine KE.blkX ?_
   refine KE.next (K.seq (K.region ?_))
   refine KL.v rfl (Val.fieldAddr0 (k := 4) rfl rfl) ?_
   refine KL.v rfl (Val.loadP rfl rfl (Sees.cell byTake rfl)) ?_
   refine KL.callc rfl rfl byEvL fun T hT => ?_
   refine (CallV.part (CallV.fn (hdo2 _)) byPart).mono ?_
   rintro _ _ ⟨of, kof, rfl, rfl⟩
   refine hT _ _ ?_; clear hT T
   refine KL.v rfl (Val.assign rfl) ?_
   refine KL.nil (KE.next (K.seq (K.region ?_)))
   refine KL.v rfl (Val.fieldAddr0 (k := 4) rfl rfl) ?_
   refine KL.v rfl (Val.loadP rfl rfl (Sees.cell byTake rfl)) ?_
   refine KL.callc rfl rfl byEvL fun T hT => ?_
   refine (CallV.part (CallV.fn (hdone _)) byPart).mono ?_
   rintro _ _ ⟨rfl, rfl⟩
   rw [show (true && decide True) = true from rfl]
   refine hT _ _ ?_; clear hT T
   refine KL.v rfl (Val.assign rfl) ?_
   refine KL.nil (KE.next (K.seq (K.region ?_)))
   refine KL.v rfl (Val.fieldAddr0 (k := 4) rfl rfl) ?_
   refine KL.v rfl (Val.loadP rfl rfl (Sees.cell byTake rfl)) ?_
   refine KL.callc rfl rfl byEvL fun T hT => ?_
   refine (CallV.part (CallV.fn (hstop _)) byPart).mono ?_
   rintro _ _ ⟨rfl, W6, hp6, hsm6', _, _, _, _, _, rfl⟩
   have hsm6 := hsm4.trans hsm6'
   have hst2 := fun A => wStop_E (w0 := w0) (F := A) hp6 (by rintro ⟨h, _⟩; cases h)
   simp only [hsm6.sp] at hst2
   rw [hg4] at hp6
   have hc1 := fun A => wCount_K (w0 := w0) (F := A) hp6
   simp only [hsm6.a, hA, aw_cnt] at hc1
   have hh1 := fun A => wHas_K (w0 := w0) (F := A) (i := 1) hp6
   simp only [hsm6.a, hA, aw_one] at hh1
   refine hT _ _ ?_; clear hT T
   refine KL.v rfl (Val.move rfl) ?_
   refine KL.v rfl (Val.extract rfl rfl) ?_
   refine KL.v rfl (Val.extract rfl rfl) ?_
   refine KL.v rfl (Val.assign rfl) ?_
   refine KL.v rfl (Val.assign rfl) ?_
   refine KL.nil (KE.next (K.seq (K.region ?_)))
   refine KL.v rfl (Val.fieldAddr0 (k := 4) rfl rfl) ?_
   refine KL.v rfl (Val.loadP rfl rfl (Sees.cell byTake rfl)) ?_
   refine KL.callc rfl rfl byEvL fun T hT => ?_
   refine (CallV.part (CallV.fn (hst2 _)) byPart).mono ?_
   rintro _ _ ⟨rfl, rfl⟩
   refine hT _ _ ?_; clear hT T
   refine KL.v rfl (Val.move rfl) ?_
   refine KL.v rfl (Val.extract rfl rfl) ?_
   refine KL.v rfl (Val.extract rfl rfl) ?_
   refine KL.v rfl (Val.assign rfl) ?_
   refine KL.v rfl (Val.assign rfl) ?_
   refine KL.nil (KE.next (K.seq (K.region ?_)))
   refine KL.v rfl (Val.move rfl) ?_
   refine KL.v rfl (Val.isT (Val.eql rfl rfl) byLt) ?_
   refine KL.v rfl (Val.move rfl) ?_
   refine KL.yes rfl rfl ?_; refine KL.v rfl (Val.move rfl) ?_
   refine KL.v rfl (Val.pickT rfl rfl rfl) ?_
   refine KL.v rfl (Val.move rfl) ?_
   refine KL.yes rfl rfl ?_; refine KL.v rfl (Val.move rfl) ?_
   refine KL.yes rfl rfl ?_; refine KL.e rfl (Eff.buildS byParts rfl rfl rfl rfl rfl byFill) ?_; rintro _ _ ⟨b97, rfl, rfl⟩
   refine KL.yes rfl rfl ?_; refine KL.callc rfl rfl byEvL fun T hT => ?_
   refine (CallV.fn (SameInts_K (l := [0]) (m := [0]) (Sli.own byTakeL kod rfl) (Sli.blk byTake rfl (by decide) (by decide) rfl) (by decide))).mono ?_
   rintro _ _ ⟨rfl, rfl⟩
   rw [show decide (([0] : List Int) = [0]) = true from rfl]
   refine hT _ _ ?_; clear hT T
   refine KL.v rfl (Val.pickT rfl rfl rfl) ?_
   refine KL.v rfl (Val.move rfl) ?_
   refine KL.yes rfl rfl ?_; refine KL.v rfl (Val.move rfl) ?_
   refine KL.yes rfl rfl ?_; refine KL.v rfl (Val.isT (Val.eql rfl rfl) byLt) ?_
   refine KL.v rfl (Val.pickT rfl rfl rfl) ?_
   refine KL.v rfl (Val.move rfl) ?_
   refine KL.yes rfl rfl ?_; refine KL.v rfl (Val.move rfl) ?_
   refine KL.yes rfl rfl ?_; refine KL.v rfl (Val.isT (Val.eql rfl rfl) byLt) ?_
   refine KL.v rfl (Val.pickT rfl rfl rfl) ?_
   refine KL.v rfl (Val.move rfl) ?_
   refine KL.yes rfl rfl ?_; refine KL.v rfl (Val.move rfl) ?_
   refine KL.yes rfl rfl ?_; refine KL.e rfl (Eff.buildS byParts rfl rfl rfl rfl rfl byFill) ?_; rintro _ _ ⟨b110, rfl, rfl⟩
   refine KL.yes rfl rfl ?_; refine KL.callc rfl rfl byEvL fun T hT => ?_
   refine (CallV.fn (SameInts_K (l := [0, 10]) (m := [0, 10]) (Sli.own byTakeL kof rfl) (Sli.blk byTake rfl (by decide) (by decide) rfl) (by decide))).mono ?_
   rintro _ _ ⟨rfl, rfl⟩
   rw [show decide (([0, 10] : List Int) = [0, 10]) = true from rfl]
   refine hT _ _ ?_; clear hT T
   refine KL.v rfl (Val.pickT rfl rfl rfl) ?_
   refine KL.v rfl (Val.move rfl) ?_
   refine KL.yes rfl rfl ?_; refine KL.v rfl (Val.move rfl) ?_
   refine KL.v rfl (Val.pickT rfl rfl rfl) ?_
   refine KL.v rfl (Val.move rfl) ?_
   refine KL.yes rfl rfl ?_; refine KL.v rfl (Val.move rfl) ?_
   refine KL.yes rfl rfl ?_; refine KL.v rfl (Val.isT (Val.eql rfl rfl) byLt) ?_
   refine KL.v rfl (Val.pickT rfl rfl rfl) ?_
   refine KL.v rfl (Val.move rfl) ?_
   refine KL.yes rfl rfl ?_; refine KL.v rfl (Val.move rfl) ?_
   refine KL.yes rfl rfl ?_; refine KL.v rfl (Val.isT (Val.eql rfl rfl) byLt) ?_
   refine KL.v rfl (Val.pickT rfl rfl rfl) ?_
   refine KL.v rfl (Val.move rfl) ?_
   refine KL.yes rfl rfl ?_; refine KL.v rfl (Val.move rfl) ?_
   refine KL.yes rfl rfl ?_; refine KL.v rfl (Val.isT (Val.eql rfl rfl) byLt) ?_
   refine KL.v rfl (Val.pickT rfl rfl rfl) ?_
   refine KL.v rfl (Val.move rfl) ?_
   refine KL.yes rfl rfl ?_; refine KL.v rfl (Val.fieldAddr0 (k := 1) rfl rfl) ?_
   refine KL.yes rfl rfl ?_; refine KL.v rfl (Val.loadP rfl rfl (Sees.cell byTake rfl)) ?_
   refine KL.yes rfl rfl ?_; refine KL.callc rfl rfl byEvL fun T hT => ?_
   refine (CallV.part (CallV.fn (hc1 _)) byPart).mono ?_
   rintro _ _ ⟨rfl, rfl⟩
   refine hT _ _ ?_; clear hT T
   refine KL.yes rfl rfl ?_; refine KL.v rfl (Val.isT (Val.eql rfl rfl) byLt) ?_
   refine KL.v rfl (Val.pickT rfl rfl rfl) ?_
   refine KL.v rfl (Val.move rfl) ?_
   refine KL.yes rfl rfl ?_; refine KL.v rfl (Val.fieldAddr0 (k := 1) rfl rfl) ?_
   refine KL.yes rfl rfl ?_; refine KL.v rfl (Val.loadP rfl rfl (Sees.cell byTake rfl)) ?_
   refine KL.yes rfl rfl ?_; refine KL.callc rfl rfl byEvL fun T hT => ?_
   refine (CallV.part (CallV.fn (hh1 _)) byPart).mono ?_
   rintro _ _ ⟨rfl, rfl⟩
   refine hT _ _ ?_; clear hT T
   refine KL.v rfl (Val.pickT rfl rfl rfl) ?_
   refine KL.v rfl (Val.assign rfl) ?_
   refine KL.nil (KE.next ?_)
   refine K.ret ?_
   exact KE.fin byMarks rfl byRes byPart ⟨rfl, rfl⟩
end Go.Proofs.YtalholahapcpkaaGreatDoor.Sw
