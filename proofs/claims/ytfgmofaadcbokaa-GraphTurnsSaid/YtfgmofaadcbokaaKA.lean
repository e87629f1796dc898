/- The walker's searches by short names: each is a theorem whose premise is found by its default proof. -/
import Derived.Test.YtfgmofaadcbokaaK7
namespace Go.Proofs.Ytfgmofaadcbokaa
open Go.RowKit Go.ChangeShapes Go.WideShapes
set_option linter.unusedVariables false
set_option autoImplicit false
theorem byTake {G : Prop} (h : G := by first | ((repeat (first | exact Take.head | apply Take.tail | apply Take.app)) <;> fail) | fail) : G := h
theorem byTakeL {G : Prop} (h : G := by first | ((repeat (first | exact TakeL.head | exact TakeL.whole | apply TakeL.tail | apply TakeL.app)) <;> fail) | fail) : G := h
theorem byEvL {G : Prop} (h : G := by first | ((repeat (first | exact EvL.nil | (apply EvL.cons; (· exact rfl)))) <;> fail) | fail) : G := h
theorem bySeg {G : Prop} (h : G := by first | ((repeat (first | exact Seg.nil | apply Seg.cons | apply Seg.next)) <;> fail) | fail) : G := h
theorem byParts {G : Prop} (h : G := by first | ((repeat (first | exact Parts.nil | (apply Parts.cons; (· exact rfl)))) <;> fail) | fail) : G := h
theorem bySetAt {G : Prop} (h : G := by first | ((repeat (first | exact SetAt.here | apply SetAt.next)) <;> fail) | fail) : G := h
theorem byLay {G : Prop} (h : G := by first | ((repeat (first | exact Lay.nil | apply Lay.cons | apply Lay.next)) <;> fail) | fail) : G := h
theorem byOnes {G : Prop} (h : G := by first | rfl | (simp only [List.all_cons, List.all_nil, Bool.and_true, Bool.and_eq_true]; (repeat' apply And.intro) <;> first | rfl | exact oV_one _ _ | exact SlW.one (by assumption) | assumption)) : G := h
theorem byOne {G : Prop} (h : G := by first | rfl | exact oV_one _ _ | exact SlW.one (by assumption) | assumption) : G := h
theorem byFill {G : Prop} (h : G := by first | ((repeat (first | exact Fill.nil | (apply Fill.one; (· exact rfl); (· exact byOne); (· exact bySetAt)) | (apply Fill.agg; (· exact rfl); (· exact rfl); (· exact byLay)))) <;> fail) | fail) : G := h
theorem byLen {G : Prop} (h : G := by first | rfl | assumption | (simp <;> fail) | (simp; omega) | omega) : G := h
theorem byLt {G : Prop} (h : G := by first | assumption | omega) : G := h
theorem bySub {G : Prop} (h : G := by first | ((repeat (first | exact trivial | refine And.intro ⟨_, rfl, (by first | rfl | (dsimp only; first | rfl | (congr 1; omega) | (simp <;> fail) | (congr 1; simp <;> fail) | (congr 1; simp; omega) | (congr 2; simp; omega)) | (congr 1; omega) | (simp <;> fail) | (congr 1; simp <;> fail) | (congr 1; simp; omega) | (congr 2; simp; omega))⟩ ?_)) <;> fail) | fail) : G := h
theorem byPart {G : Prop} (h : G := by first | ((repeat (first | exact Part.all | (apply Part.takeA; (· exact byTakeL)) | apply Part.assoc | (apply Part.take; (· exact byTake)) | exact Part.lastA byTakeL | apply Part.drop | apply Part.dropA | exact Part.nil)) <;> fail) | fail) : G := h
theorem bySli {G : Prop} (h : G := by first | exact Sli.old (by assumption) | exact Sli.own byTakeL (by assumption) byLen | assumption | exact Sli.part (by assumption) byPart) : G := h
theorem bySee {G : Prop} (h : G := by first | exact Sees.cell byTake rfl | exact Sees.sl bySli (by assumption) rfl | exact Sees.sl0 bySli (by assumption) rfl | exact Sees.old (by assumption) | assumption) : G := h
theorem bySeeN {G : Prop} (h : G := by first | exact SeesN.own byTake bySeg | assumption) : G := h
theorem bySeeA {G : Prop} (h : G := by first | exact SeesA.sl bySli (by assumption) | assumption) : G := h
theorem byMarks {G : Prop} (h : G := by first | ((repeat (first | exact Marks.nil | (apply Marks.cons; (· exact byTake)))) <;> fail) | fail) : G := h
theorem byRes {G : Prop} (h : G := by first | ((repeat (first | exact ResV.nil | (apply ResV.tmp; (· exact rfl)) | (apply ResV.cell; (· exact rfl); (· exact rfl); (· exact bySee)) | (apply ResV.cellN; (· exact rfl); (· exact rfl); (· exact rfl); (· exact bySeeN)))) <;> fail) | fail) : G := h
theorem byEqv {G : Prop} (h : G := by first | ((repeat (first | exact EqF.nil | exact EqV.int rfl | exact EqV.bool rfl | (apply EqV.agg; (· kernel_rfl); (· kernel_rfl); (· exact rfl)) | (apply EqF.one; (· exact rfl); (· exact rfl); (· exact rfl); (· exact rfl)) | (apply EqF.sub; (· exact rfl); (· exact rfl); (· exact rfl); (· exact bySeg); (· exact bySeg)))) <;> fail) | fail) : G := h
theorem byCode {G G' : Prop} (k : G') (h : G' → G := by intro k; (repeat (first | refine KE.next ?_ | refine KE.passX ?_ | refine KE.passR ?_ | refine KE.blkN ?_ | refine KE.blkR ?_ | refine KE.blkX ?_ | refine KE.blkO rfl ?_ | refine K.skip ?_ | refine K.exit ?_ | refine K.ret ?_ | refine K.seq (K.region ?_) | refine K.region ?_ | refine K.seq (K.seq (K.region ?_)) | refine K.condT rfl ?_ | refine K.condF rfl ?_ | refine K.seq (K.condT rfl ?_) | refine K.seq (K.condF rfl ?_))); exact k) : G := h k
theorem byCodeD {G G' : Prop} (k : G') (h : G' → G := by intro k; (repeat (first | refine KE.next ?_ | refine KE.passX ?_ | refine KE.passR ?_ | refine KE.blkN ?_ | refine KE.blkR ?_ | refine KE.blkX ?_ | refine KE.blkO rfl ?_ | refine K.skip ?_ | refine K.exit ?_ | refine K.ret ?_ | refine K.condT rfl ?_ | refine K.condF rfl ?_ | refine K.seq (K.condT rfl ?_) | refine K.seq (K.condF rfl ?_))); exact k) : G := h k
theorem byBlk {G G' : Prop} (k : G') (h : G' → G := by intro k; ((repeat (refine KE.next ?_)); (first | refine K.block ?_ | refine K.seq (K.block ?_))); exact k) : G := h k
end Go.Proofs.Ytfgmofaadcbokaa
