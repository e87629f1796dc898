/- Sweep: no sweeper of what is none. -/
import Derived.Test.YtalholahapcpkaaGreatDoorWSwY4
namespace Go.Proofs.YtalholahapcpkaaGreatDoor.Sw
open Go.RowKit
set_option linter.unusedVariables false
set_option linter.unusedSimpArgs false
set_option maxRecDepth 10000
section
variable {w0 : World} {F : Heap} {W : WoM} {s : SwP}
theorem new_p (hG : Glob w0) (hp : WpR W s) : Call Tryz.prog w0 23 [.pointer none, .pointer (some ⟨W.a.b, 0, none⟩), .pointer (some ⟨W.B.b, 0, none⟩), .pointer (some ⟨W.k.b, 0, none⟩)] (woH W ++ F) (fun r H' => r = .tuple [.pointer none, .int .i64 1].toArray ∧ H' = woH W ++ F) := by
 have okp := hp.bo.p
 have hs := okp.g.slots
 obtain ⟨y, hy⟩ := L_ex (g := W.B.p.g) (i := 0) (by omega)
 obtain ⟨cc, hcc⟩ := tiC_get hp.mK (s := 0) (by omega)
 have hhead := fun A => Head_K (w0 := w0) (F := A) (s := 0) hG hp.bo hy
 have hhv : ∃ c r w e, headV (headP s.x y) = .tuple [.agg [.int .i64 c, .int .i64 r, .int .i64 w].toArray, .int .i64 e].toArray ∧ e ≠ 1 := by
  unfold headV
  cases headP s.x y with
  | none => exact ⟨0, 0, 0, 5, rfl, by decide⟩
  | some h => exact ⟨h.c, h.r, h.w, 0, rfl, by decide⟩
 obtain ⟨c, r, w, e, hev, hen⟩ := hhv
 simp only [hev] at hhead
 have hen' : ¬ e = 1 := hen
 rw [woH_app]
 refine Call.enter4 (n := 55) (by kernel_rfl) Tryz.func23 rfl rfl rfl ?_
 refine K.seq (K.region ?_)
 refine KL.v rfl (Val.assign rfl) ?_
 refine KL.v rfl (Val.assign rfl) ?_
 refine KL.nil (KE.next (K.seq (K.region ?_)))
 refine KL.v rfl (Val.move rfl) ?_
 refine KL.callc rfl rfl byEvL fun T hT => ?_
 refine (CallV.part (CallV.fn (hhead _)) byPart).mono ?_
 rintro _ _ ⟨rfl, rfl⟩
 refine hT _ _ ?_; clear hT T
 refine KL.v rfl (Val.move rfl) ?_
 refine KL.v rfl (Val.extract rfl rfl) ?_
 refine KL.v rfl (Val.extract rfl rfl) ?_
 refine KL.e rfl (Eff.alloc rfl) ?_; rintro _ _ ⟨b10, rfl, rfl⟩
 refine KL.eN (Eff.storeAL rfl rfl rfl byTake byLay byOnes) ?_; rintro _ _ rfl
 refine KL.v rfl (Val.assign rfl) ?_
 refine KL.nil (KE.next (K.seq (K.region ?_)))
 refine KL.v rfl (Val.move rfl) ?_
 refine KL.callc rfl rfl byEvL fun T hT => ?_
 refine (CallV.part (CallV.fn (mkOf_K hp.mK hcc)) byPart).mono ?_
 rintro _ _ ⟨rfl, rfl⟩
 refine hT _ _ ?_; clear hT T
 refine KL.v rfl (Val.move rfl) ?_
 refine KL.v rfl (Val.extract rfl rfl) ?_
 refine KL.v rfl (Val.extract rfl rfl) ?_
 refine KL.v rfl (Val.assign rfl) ?_
 refine KL.v rfl (Val.assign rfl) ?_
 refine KL.nil (KE.next (K.seq (K.seq (K.region ?_))))
 refine KL.v rfl (Val.move rfl) ?_
 refine KL.callc rfl rfl byEvL fun T hT => ?_
 refine (CallV.fn (slots0_K)).mono ?_
 rintro _ _ ⟨rfl, rfl⟩
 refine hT _ _ ?_; clear hT T
 refine KL.v rfl (Val.isT (Val.eql rfl rfl) byLt) ?_
 refine KL.v rfl (Val.move rfl) ?_
 refine KL.skipG rfl rfl rfl ?_
 refine KL.skipG rfl rfl rfl ?_
 refine KL.skipG rfl rfl rfl ?_
 refine KL.v rfl (Val.pickT rfl rfl rfl) ?_
 refine KL.v rfl (Val.move rfl) ?_
 refine KL.skipG rfl rfl rfl ?_
 refine KL.skipG rfl rfl rfl ?_
 refine KL.v rfl (Val.pickT rfl rfl rfl) ?_
 refine KL.v rfl (Val.move rfl) ?_
 refine KL.skipG rfl rfl rfl ?_
 refine KL.skipG rfl rfl rfl ?_
 refine KL.v rfl (Val.pickT rfl rfl rfl) ?_
 refine KL.nil (KE.next (K.condT rfl (K.seq (K.region ?_))))
 refine KL.v rfl (Val.assign rfl) ?_
 refine KL.v rfl (Val.assign rfl) ?_
 refine KL.nil (KE.next ?_)
 refine K.ret ?_
 refine KE.passR ?_
 exact KE.fin byMarks rfl byRes byPart ⟨rfl, rfl⟩
theorem new_a (hG : Glob w0) (hp : WpR W s) {p : PlanM} (okp2 : PlanOk p) : Call Tryz.prog w0 23 [.pointer (some ⟨p.b, 0, none⟩), .pointer none, .pointer (some ⟨W.B.b, 0, none⟩), .pointer (some ⟨W.k.b, 0, none⟩)] (woH W ++ (planH p ++ F)) (fun r H' => r = .tuple [.pointer none, .int .i64 1].toArray ∧ H' = woH W ++ (planH p ++ F)) := by
 have okp := hp.bo.p
 have hs := okp.g.slots
 obtain ⟨y, hy⟩ := L_ex (g := W.B.p.g) (i := 0) (by omega)
 obtain ⟨cc, hcc⟩ := tiC_get hp.mK (s := 0) (by omega)
 have hhead := fun A => Head_K (w0 := w0) (F := A) (s := 0) hG hp.bo hy
 have hhv : ∃ c r w e, headV (headP s.x y) = .tuple [.agg [.int .i64 c, .int .i64 r, .int .i64 w].toArray, .int .i64 e].toArray ∧ e ≠ 1 := by
  unfold headV
  cases headP s.x y with
  | none => exact ⟨0, 0, 0, 5, rfl, by decide⟩
  | some h => exact ⟨h.c, h.r, h.w, 0, rfl, by decide⟩
 obtain ⟨c, r, w, e, hev, hen⟩ := hhv
 simp only [hev] at hhead
 have hen' : ¬ e = 1 := hen
 rw [woH_app]
 have hs2 := okp2.g.slots
 have hne : ¬ ((p.g.slots : Nat) : Int) = 0 := by omega
 refine Call.enter4 (n := 55) (by kernel_rfl) Tryz.func23 rfl rfl rfl ?_
 refine K.seq (K.region ?_)
 refine KL.v rfl (Val.assign rfl) ?_
 refine KL.v rfl (Val.assign rfl) ?_
 refine KL.nil (KE.next (K.seq (K.region ?_)))
 refine KL.v rfl (Val.move rfl) ?_
 refine KL.callc rfl rfl byEvL fun T hT => ?_
 refine (CallV.part (CallV.fn (hhead _)) byPart).mono ?_
 rintro _ _ ⟨rfl, rfl⟩
 refine hT _ _ ?_; clear hT T
 refine KL.v rfl (Val.move rfl) ?_
 refine KL.v rfl (Val.extract rfl rfl) ?_
 refine KL.v rfl (Val.extract rfl rfl) ?_
 refine KL.e rfl (Eff.alloc rfl) ?_; rintro _ _ ⟨b10, rfl, rfl⟩
 refine KL.eN (Eff.storeAL rfl rfl rfl byTake byLay byOnes) ?_; rintro _ _ rfl
 refine KL.v rfl (Val.assign rfl) ?_
 refine KL.nil (KE.next (K.seq (K.region ?_)))
 refine KL.v rfl (Val.move rfl) ?_
 refine KL.callc rfl rfl byEvL fun T hT => ?_
 refine (CallV.part (CallV.fn (mkOf_K hp.mK hcc)) byPart).mono ?_
 rintro _ _ ⟨rfl, rfl⟩
 refine hT _ _ ?_; clear hT T
 refine KL.v rfl (Val.move rfl) ?_
 refine KL.v rfl (Val.extract rfl rfl) ?_
 refine KL.v rfl (Val.extract rfl rfl) ?_
 refine KL.v rfl (Val.assign rfl) ?_
 refine KL.v rfl (Val.assign rfl) ?_
 refine KL.nil (KE.next (K.seq (K.seq (K.region ?_))))
 refine KL.v rfl (Val.move rfl) ?_
 refine KL.callc rfl rfl byEvL fun T hT => ?_
 refine (CallV.part (CallV.fn (Slots0_K okp2)) byPart).mono ?_
 rintro _ _ ⟨rfl, rfl⟩
 refine hT _ _ ?_; clear hT T
 refine KL.v rfl (Val.isF (Val.eql rfl rfl) byLt) ?_
 refine KL.v rfl (Val.move rfl) ?_
 refine KL.yes rfl rfl ?_; refine KL.v rfl (Val.move rfl) ?_
 refine KL.yes rfl rfl ?_; refine KL.callc rfl rfl byEvL fun T hT => ?_
 refine (CallV.fn (copy0_K)).mono ?_
 rintro _ _ ⟨rfl, rfl⟩
 refine hT _ _ ?_; clear hT T
 refine KL.yes rfl rfl ?_; refine KL.v rfl (Val.eqlPN rfl rfl rfl) ?_
 refine KL.v rfl (Val.pickF rfl rfl rfl) ?_
 refine KL.v rfl (Val.move rfl) ?_
 refine KL.skipG rfl rfl rfl ?_
 refine KL.skipG rfl rfl rfl ?_
 refine KL.v rfl (Val.pickT rfl rfl rfl) ?_
 refine KL.v rfl (Val.move rfl) ?_
 refine KL.skipG rfl rfl rfl ?_
 refine KL.skipG rfl rfl rfl ?_
 refine KL.v rfl (Val.pickT rfl rfl rfl) ?_
 refine KL.nil (KE.next (K.condT rfl (K.seq (K.region ?_))))
 refine KL.v rfl (Val.assign rfl) ?_
 refine KL.v rfl (Val.assign rfl) ?_
 refine KL.nil (KE.next ?_)
 refine K.ret ?_
 refine KE.passR ?_
 exact KE.fin byMarks rfl byRes byPart ⟨rfl, rfl⟩
theorem new_b (hG : Glob w0) (hp : WpR W s) {p : PlanM} (okp2 : PlanOk p) : Call Tryz.prog w0 23 [.pointer (some ⟨p.b, 0, none⟩), .pointer (some ⟨W.a.b, 0, none⟩), .pointer none, .pointer (some ⟨W.k.b, 0, none⟩)] (woH W ++ (planH p ++ F)) (fun r H' => r = .tuple [.pointer none, .int .i64 1].toArray ∧ H' = woH W ++ (planH p ++ F)) := by
 have okp := hp.bo.p
 have hs := okp.g.slots
 obtain ⟨y, hy⟩ := L_ex (g := W.B.p.g) (i := 0) (by omega)
 obtain ⟨cc, hcc⟩ := tiC_get hp.mK (s := 0) (by omega)
 have hhead := fun A => Head_K (w0 := w0) (F := A) (s := 0) hG hp.bo hy
 have hhv : ∃ c r w e, headV (headP s.x y) = .tuple [.agg [.int .i64 c, .int .i64 r, .int .i64 w].toArray, .int .i64 e].toArray ∧ e ≠ 1 := by
  unfold headV
  cases headP s.x y with
  | none => exact ⟨0, 0, 0, 5, rfl, by decide⟩
  | some h => exact ⟨h.c, h.r, h.w, 0, rfl, by decide⟩
 obtain ⟨c, r, w, e, hev, hen⟩ := hhv
 simp only [hev] at hhead
 have hen' : ¬ e = 1 := hen
 rw [woH_app]
 have hs2 := okp2.g.slots
 have hne : ¬ ((p.g.slots : Nat) : Int) = 0 := by omega
 refine Call.enter4 (n := 55) (by kernel_rfl) Tryz.func23 rfl rfl rfl ?_
 refine K.seq (K.region ?_)
 refine KL.v rfl (Val.assign rfl) ?_
 refine KL.v rfl (Val.assign rfl) ?_
 refine KL.nil (KE.next (K.seq (K.region ?_)))
 refine KL.v rfl (Val.move rfl) ?_
 refine KL.callc rfl rfl byEvL fun T hT => ?_
 refine (CallV.fn (head0_K)).mono ?_
 rintro _ _ ⟨rfl, rfl⟩
 refine hT _ _ ?_; clear hT T
 refine KL.v rfl (Val.move rfl) ?_
 refine KL.v rfl (Val.extract rfl rfl) ?_
 refine KL.v rfl (Val.extract rfl rfl) ?_
 refine KL.e rfl (Eff.alloc rfl) ?_; rintro _ _ ⟨b10, rfl, rfl⟩
 refine KL.eN (Eff.storeAL rfl rfl rfl byTake byLay byOnes) ?_; rintro _ _ rfl
 refine KL.v rfl (Val.assign rfl) ?_
 refine KL.nil (KE.next (K.seq (K.region ?_)))
 refine KL.v rfl (Val.move rfl) ?_
 refine KL.callc rfl rfl byEvL fun T hT => ?_
 refine (CallV.part (CallV.fn (mkOf_K hp.mK hcc)) byPart).mono ?_
 rintro _ _ ⟨rfl, rfl⟩
 refine hT _ _ ?_; clear hT T
 refine KL.v rfl (Val.move rfl) ?_
 refine KL.v rfl (Val.extract rfl rfl) ?_
 refine KL.v rfl (Val.extract rfl rfl) ?_
 refine KL.v rfl (Val.assign rfl) ?_
 refine KL.v rfl (Val.assign rfl) ?_
 refine KL.nil (KE.next (K.seq (K.seq (K.region ?_))))
 refine KL.v rfl (Val.move rfl) ?_
 refine KL.callc rfl rfl byEvL fun T hT => ?_
 refine (CallV.part (CallV.fn (Slots0_K okp2)) byPart).mono ?_
 rintro _ _ ⟨rfl, rfl⟩
 refine hT _ _ ?_; clear hT T
 refine KL.v rfl (Val.isF (Val.eql rfl rfl) byLt) ?_
 refine KL.v rfl (Val.move rfl) ?_
 refine KL.yes rfl rfl ?_; refine KL.v rfl (Val.move rfl) ?_
 refine KL.yes rfl rfl ?_; refine KL.callc rfl rfl byEvL fun T hT => ?_
 refine (CallV.part (CallV.fn (aCopy_K hp.ar)) byPart).mono ?_
 rintro _ _ ⟨a', _, _, rfl, rfl⟩
 refine hT _ _ ?_; clear hT T
 refine KL.yes rfl rfl ?_; refine KL.v rfl (Val.eqlPN rfl rfl rfl) ?_
 refine KL.v rfl (Val.pickF rfl rfl rfl) ?_
 refine KL.v rfl (Val.move rfl) ?_
 refine KL.yes rfl rfl ?_; refine KL.v rfl (Val.move rfl) ?_
 refine KL.yes rfl rfl ?_; refine KL.v rfl (Val.isT (Val.eql rfl rfl) byLt) ?_
 refine KL.v rfl (Val.pickF rfl rfl rfl) ?_
 refine KL.v rfl (Val.move rfl) ?_
 refine KL.skipG rfl rfl rfl ?_
 refine KL.skipG rfl rfl rfl ?_
 refine KL.v rfl (Val.pickT rfl rfl rfl) ?_
 refine KL.nil (KE.next (K.condT rfl (K.seq (K.region ?_))))
 refine KL.v rfl (Val.assign rfl) ?_
 refine KL.v rfl (Val.assign rfl) ?_
 refine KL.nil (KE.next ?_)
 refine K.ret ?_
 refine KE.passR ?_
 exact KE.fin byMarks rfl byRes byPart ⟨rfl, rfl⟩
theorem new_k (hG : Glob w0) (hp : WpR W s) {p : PlanM} (okp2 : PlanOk p) : Call Tryz.prog w0 23 [.pointer (some ⟨p.b, 0, none⟩), .pointer (some ⟨W.a.b, 0, none⟩), .pointer (some ⟨W.B.b, 0, none⟩), .pointer none] (woH W ++ (planH p ++ F)) (fun r H' => r = .tuple [.pointer none, .int .i64 1].toArray ∧ H' = woH W ++ (planH p ++ F)) := by
 have okp := hp.bo.p
 have hs := okp.g.slots
 obtain ⟨y, hy⟩ := L_ex (g := W.B.p.g) (i := 0) (by omega)
 obtain ⟨cc, hcc⟩ := tiC_get hp.mK (s := 0) (by omega)
 have hhead := fun A => Head_K (w0 := w0) (F := A) (s := 0) hG hp.bo hy
 have hhv : ∃ c r w e, headV (headP s.x y) = .tuple [.agg [.int .i64 c, .int .i64 r, .int .i64 w].toArray, .int .i64 e].toArray ∧ e ≠ 1 := by
  unfold headV
  cases headP s.x y with
  | none => exact ⟨0, 0, 0, 5, rfl, by decide⟩
  | some h => exact ⟨h.c, h.r, h.w, 0, rfl, by decide⟩
 obtain ⟨c, r, w, e, hev, hen⟩ := hhv
 simp only [hev] at hhead
 have hen' : ¬ e = 1 := hen
 rw [woH_app]
 have hs2 := okp2.g.slots
 have hne : ¬ ((p.g.slots : Nat) : Int) = 0 := by omega
 refine Call.enter4 (n := 55) (by kernel_rfl) Tryz.func23 rfl rfl rfl ?_
 refine K.seq (K.region ?_)
 refine KL.v rfl (Val.assign rfl) ?_
 refine KL.v rfl (Val.assign rfl) ?_
 refine KL.nil (KE.next (K.seq (K.region ?_)))
 refine KL.v rfl (Val.move rfl) ?_
 refine KL.callc rfl rfl byEvL fun T hT => ?_
 refine (CallV.part (CallV.fn (hhead _)) byPart).mono ?_
 rintro _ _ ⟨rfl, rfl⟩
 refine hT _ _ ?_; clear hT T
 refine KL.v rfl (Val.move rfl) ?_
 refine KL.v rfl (Val.extract rfl rfl) ?_
 refine KL.v rfl (Val.extract rfl rfl) ?_
 refine KL.e rfl (Eff.alloc rfl) ?_; rintro _ _ ⟨b10, rfl, rfl⟩
 refine KL.eN (Eff.storeAL rfl rfl rfl byTake byLay byOnes) ?_; rintro _ _ rfl
 refine KL.v rfl (Val.assign rfl) ?_
 refine KL.nil (KE.next (K.seq (K.region ?_)))
 refine KL.v rfl (Val.move rfl) ?_
 refine KL.callc rfl rfl byEvL fun T hT => ?_
 refine (CallV.fn (of0_K)).mono ?_
 rintro _ _ ⟨rfl, rfl⟩
 refine hT _ _ ?_; clear hT T
 refine KL.v rfl (Val.move rfl) ?_
 refine KL.v rfl (Val.extract rfl rfl) ?_
 refine KL.v rfl (Val.extract rfl rfl) ?_
 refine KL.v rfl (Val.assign rfl) ?_
 refine KL.v rfl (Val.assign rfl) ?_
 refine KL.nil (KE.next (K.seq (K.seq (K.region ?_))))
 refine KL.v rfl (Val.move rfl) ?_
 refine KL.callc rfl rfl byEvL fun T hT => ?_
 refine (CallV.part (CallV.fn (Slots0_K okp2)) byPart).mono ?_
 rintro _ _ ⟨rfl, rfl⟩
 refine hT _ _ ?_; clear hT T
 refine KL.v rfl (Val.isF (Val.eql rfl rfl) byLt) ?_
 refine KL.v rfl (Val.move rfl) ?_
 refine KL.yes rfl rfl ?_; refine KL.v rfl (Val.move rfl) ?_
 refine KL.yes rfl rfl ?_; refine KL.callc rfl rfl byEvL fun T hT => ?_
 refine (CallV.part (CallV.fn (aCopy_K hp.ar)) byPart).mono ?_
 rintro _ _ ⟨a', _, _, rfl, rfl⟩
 refine hT _ _ ?_; clear hT T
 refine KL.yes rfl rfl ?_; refine KL.v rfl (Val.eqlPN rfl rfl rfl) ?_
 refine KL.v rfl (Val.pickF rfl rfl rfl) ?_
 refine KL.v rfl (Val.move rfl) ?_
 refine KL.yes rfl rfl ?_; refine KL.v rfl (Val.move rfl) ?_
 refine KL.yes rfl rfl ?_; refine KL.v rfl (Val.isF (Val.eql rfl rfl) byLt) ?_
 refine KL.v rfl (Val.pickF rfl rfl rfl) ?_
 refine KL.v rfl (Val.move rfl) ?_
 refine KL.yes rfl rfl ?_; refine KL.v rfl (Val.move rfl) ?_
 refine KL.yes rfl rfl ?_; refine KL.v rfl (Val.isT (Val.eql rfl rfl) byLt) ?_
 refine KL.v rfl (Val.pickF rfl rfl rfl) ?_
 refine KL.nil (KE.next (K.condT rfl (K.seq (K.region ?_))))
 refine KL.v rfl (Val.assign rfl) ?_
 refine KL.v rfl (Val.assign rfl) ?_
 refine KL.nil (KE.next ?_)
 refine K.ret ?_
 refine KE.passR ?_
 exact KE.fin byMarks rfl byRes byPart ⟨rfl, rfl⟩
end
end Go.Proofs.YtalholahapcpkaaGreatDoor.Sw
