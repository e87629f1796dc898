/- Sweep: what is none: no plan, arena, body, marker, sweeper; the zero sweeper. -/
import Derived.Test.YtalholahapcpkaaGreatDoorJ29
namespace Go.Proofs.YtalholahapcpkaaGreatDoor.Sw
open Go.RowKit
set_option linter.unusedVariables false
set_option linter.unusedSimpArgs false
set_option maxRecDepth 10000
section
variable {w0 : World} {F : Heap} {zb : Nat}
theorem pnone0_K : Call Tryz.prog w0 145 [.pointer none] F (fun r H' => r = .bool true ∧ H' = F) := by
 refine Call.enter1 (n := 12) (by kernel_rfl) Tryz.func145 rfl rfl rfl ?_
 refine K.seq (K.region ?_)
 refine KL.v rfl (Val.assign rfl) ?_
 refine KL.nil (KE.next (K.seq (K.region ?_)))
 refine KL.v rfl (Val.move rfl) ?_
 refine KL.v rfl (Val.eqlPN rfl rfl rfl) ?_
 refine KL.v rfl (Val.move rfl) ?_
 refine KL.skipG rfl rfl rfl ?_
 refine KL.skipG rfl rfl rfl ?_
 refine KL.skipG rfl rfl rfl ?_
 refine KL.skipG rfl rfl rfl ?_
 refine KL.skipG rfl rfl rfl ?_
 refine KL.v rfl (Val.pickT rfl rfl rfl) ?_
 refine KL.v rfl (Val.assign rfl) ?_
 refine KL.nil (KE.next ?_)
 refine K.ret ?_
 exact KE.fin byMarks rfl byRes byPart ⟨rfl, rfl⟩
theorem anone0_K : Call Tryz.prog w0 86 [.pointer none] F (fun r H' => r = .bool true ∧ H' = F) := by
 refine Call.enter1 (n := 12) (by kernel_rfl) Tryz.func86 rfl rfl rfl ?_
 refine K.seq (K.region ?_)
 refine KL.v rfl (Val.assign rfl) ?_
 refine KL.nil (KE.next (K.seq (K.region ?_)))
 refine KL.v rfl (Val.move rfl) ?_
 refine KL.v rfl (Val.eqlPN rfl rfl rfl) ?_
 refine KL.v rfl (Val.move rfl) ?_
 refine KL.skipG rfl rfl rfl ?_
 refine KL.skipG rfl rfl rfl ?_
 refine KL.skipG rfl rfl rfl ?_
 refine KL.skipG rfl rfl rfl ?_
 refine KL.skipG rfl rfl rfl ?_
 refine KL.v rfl (Val.pickT rfl rfl rfl) ?_
 refine KL.v rfl (Val.assign rfl) ?_
 refine KL.nil (KE.next ?_)
 refine K.ret ?_
 exact KE.fin byMarks rfl byRes byPart ⟨rfl, rfl⟩
theorem bnone0_K : Call Tryz.prog w0 225 [.pointer none] F (fun r H' => r = .bool true ∧ H' = F) := by
 refine Call.enter1 (n := 12) (by kernel_rfl) Tryz.func225 rfl rfl rfl ?_
 refine K.seq (K.region ?_)
 refine KL.v rfl (Val.assign rfl) ?_
 refine KL.nil (KE.next (K.seq (K.region ?_)))
 refine KL.v rfl (Val.move rfl) ?_
 refine KL.v rfl (Val.eqlPN rfl rfl rfl) ?_
 refine KL.v rfl (Val.move rfl) ?_
 refine KL.skipG rfl rfl rfl ?_
 refine KL.skipG rfl rfl rfl ?_
 refine KL.skipG rfl rfl rfl ?_
 refine KL.skipG rfl rfl rfl ?_
 refine KL.skipG rfl rfl rfl ?_
 refine KL.v rfl (Val.pickT rfl rfl rfl) ?_
 refine KL.v rfl (Val.assign rfl) ?_
 refine KL.nil (KE.next ?_)
 refine K.ret ?_
 exact KE.fin byMarks rfl byRes byPart ⟨rfl, rfl⟩
theorem knone0_K : Call Tryz.prog w0 111 [.pointer none] F (fun r H' => r = .bool true ∧ H' = F) := by
 refine Call.enter1 (n := 12) (by kernel_rfl) Tryz.func111 rfl rfl rfl ?_
 refine K.seq (K.region ?_)
 refine KL.v rfl (Val.assign rfl) ?_
 refine KL.nil (KE.next (K.seq (K.region ?_)))
 refine KL.v rfl (Val.move rfl) ?_
 refine KL.v rfl (Val.eqlPN rfl rfl rfl) ?_
 refine KL.v rfl (Val.move rfl) ?_
 refine KL.skipG rfl rfl rfl ?_
 refine KL.skipG rfl rfl rfl ?_
 refine KL.skipG rfl rfl rfl ?_
 refine KL.skipG rfl rfl rfl ?_
 refine KL.skipG rfl rfl rfl ?_
 refine KL.v rfl (Val.pickT rfl rfl rfl) ?_
 refine KL.v rfl (Val.assign rfl) ?_
 refine KL.nil (KE.next ?_)
 refine K.ret ?_
 exact KE.fin byMarks rfl byRes byPart ⟨rfl, rfl⟩
theorem slots0_K : Call Tryz.prog w0 60 [.pointer none] F (fun r H' => r = .int .i64 0 ∧ H' = F) := by
 refine Call.enter1 (n := 9) (by kernel_rfl) Tryz.func60 rfl rfl rfl ?_
 refine K.seq (K.region ?_)
 refine KL.v rfl (Val.assign rfl) ?_
 refine KL.nil (KE.next (K.seq (K.seq (K.region ?_))))
 refine KL.v rfl (Val.move rfl) ?_
 refine KL.callc rfl rfl byEvL fun T hT => ?_
 refine (CallV.fn (pnone0_K)).mono ?_
 rintro _ _ ⟨rfl, rfl⟩
 refine hT _ _ ?_; clear hT T
 refine KL.nil (KE.next (K.condT rfl (K.seq (K.region ?_))))
 refine KL.v rfl (Val.assign rfl) ?_
 refine KL.nil (KE.next ?_)
 refine K.ret ?_
 refine KE.passR ?_
 exact KE.fin byMarks rfl byRes byPart ⟨rfl, rfl⟩
theorem copy0_K : Call Tryz.prog w0 95 [.pointer none] F (fun r H' => r = .pointer none ∧ H' = F) := by
 refine Call.enter1 (n := 20) (by kernel_rfl) Tryz.func95 rfl rfl rfl ?_
 refine K.seq (K.region ?_)
 refine KL.v rfl (Val.assign rfl) ?_
 refine KL.nil (KE.next (K.seq (K.seq (K.region ?_))))
 refine KL.v rfl (Val.move rfl) ?_
 refine KL.callc rfl rfl byEvL fun T hT => ?_
 refine (CallV.fn (anone0_K)).mono ?_
 rintro _ _ ⟨rfl, rfl⟩
 refine hT _ _ ?_; clear hT T
 refine KL.nil (KE.next (K.condT rfl (K.seq (K.region ?_))))
 refine KL.v rfl (Val.assign rfl) ?_
 refine KL.nil (KE.next ?_)
 refine K.ret ?_
 refine KE.passR ?_
 exact KE.fin byMarks rfl byRes byPart ⟨rfl, rfl⟩
theorem place0_K {s : Int} : Call Tryz.prog w0 152 [.pointer none, .int .i64 s] F (fun r H' => r = .tuple [.int .i64 0, .int .i64 0, .int .i64 1].toArray ∧ H' = F) := by
 refine Call.enter2 (n := 33) (by kernel_rfl) Tryz.func152 rfl rfl rfl ?_
 refine K.seq (K.region ?_)
 refine KL.v rfl (Val.assign rfl) ?_
 refine KL.v rfl (Val.assign rfl) ?_
 refine KL.v rfl (Val.assign rfl) ?_
 refine KL.nil (KE.next (K.seq (K.seq (K.region ?_))))
 refine KL.v rfl (Val.move rfl) ?_
 refine KL.callc rfl rfl byEvL fun T hT => ?_
 refine (CallV.fn (bnone0_K)).mono ?_
 rintro _ _ ⟨rfl, rfl⟩
 refine hT _ _ ?_; clear hT T
 refine KL.nil (KE.next (K.condT rfl (K.seq (K.region ?_))))
 refine KL.v rfl (Val.assign rfl) ?_
 refine KL.v rfl (Val.assign rfl) ?_
 refine KL.v rfl (Val.assign rfl) ?_
 refine KL.nil (KE.next ?_)
 refine K.ret ?_
 refine KE.passR ?_
 exact KE.fin byMarks rfl byRes byPart ⟨rfl, rfl⟩
theorem head0_K {s : Int} : Call Tryz.prog w0 94 [.pointer none, .int .i64 s] F (fun r H' => r = .tuple [.agg [.int .i64 0, .int .i64 0, .int .i64 0].toArray, .int .i64 1].toArray ∧ H' = F) := by
 refine Call.enter2 (n := 53) (by kernel_rfl) Tryz.func94 rfl rfl rfl ?_
 refine K.seq (K.region ?_)
 refine KL.e rfl (Eff.alloc rfl) ?_; rintro _ _ ⟨b4, rfl, rfl⟩
 refine KL.v rfl (Val.assign rfl) ?_
 refine KL.nil (KE.next (K.seq (K.region ?_)))
 refine KL.v rfl (Val.move rfl) ?_
 refine KL.v rfl (Val.move rfl) ?_
 refine KL.callc rfl rfl byEvL fun T hT => ?_
 refine (CallV.fn (place0_K)).mono ?_
 rintro _ _ ⟨rfl, rfl⟩
 refine hT _ _ ?_; clear hT T
 refine KL.v rfl (Val.move rfl) ?_
 refine KL.v rfl (Val.extract rfl rfl) ?_
 refine KL.v rfl (Val.extract rfl rfl) ?_
 refine KL.v rfl (Val.extract rfl rfl) ?_
 refine KL.v rfl (Val.assign rfl) ?_
 refine KL.v rfl (Val.assign rfl) ?_
 refine KL.v rfl (Val.assign rfl) ?_
 refine KL.nil (KE.next (K.seq (K.seq (K.region ?_))))
 refine KL.v rfl (Val.move rfl) ?_
 refine KL.v rfl (Val.isT (Val.neq rfl rfl) byLt) ?_
 refine KL.nil (KE.next (K.condT rfl (K.seq (K.region ?_))))
 refine KL.v rfl (Val.build byParts rfl rfl byFill) ?_
 refine KL.v rfl (Val.move rfl) ?_
 refine KL.eN (Eff.storeAL rfl rfl rfl byTake byLay byOnes) ?_; rintro _ _ rfl
 refine KL.v rfl (Val.assign rfl) ?_
 refine KL.nil (KE.next ?_)
 refine K.ret ?_
 refine KE.passR ?_
 exact KE.fin byMarks rfl byRes byPart ⟨rfl, rfl⟩
theorem of0_K {s : Int} : Call Tryz.prog w0 36 [.pointer none, .int .i64 s] F (fun r H' => r = .tuple [.int .u8 0, .int .i64 1].toArray ∧ H' = F) := by
 refine Call.enter2 (n := 16) (by kernel_rfl) Tryz.func36 rfl rfl rfl ?_
 refine K.seq (K.region ?_)
 refine KL.v rfl (Val.assign rfl) ?_
 refine KL.v rfl (Val.assign rfl) ?_
 refine KL.nil (KE.next (K.seq (K.seq (K.region ?_))))
 refine KL.v rfl (Val.move rfl) ?_
 refine KL.callc rfl rfl byEvL fun T hT => ?_
 refine (CallV.fn (knone0_K)).mono ?_
 rintro _ _ ⟨rfl, rfl⟩
 refine hT _ _ ?_; clear hT T
 refine KL.nil (KE.next (K.condT rfl (K.seq (K.region ?_))))
 refine KL.v rfl (Val.assign rfl) ?_
 refine KL.v rfl (Val.assign rfl) ?_
 refine KL.nil (KE.next ?_)
 refine K.ret ?_
 refine KE.passR ?_
 exact KE.fin byMarks rfl byRes byPart ⟨rfl, rfl⟩
theorem spnone0_K : Call Tryz.prog w0 79 [.pointer none] F (fun r H' => r = .bool true ∧ H' = F) := by
 refine Call.enter1 (n := 12) (by kernel_rfl) Tryz.func79 rfl rfl rfl ?_
 refine K.seq (K.region ?_)
 refine KL.v rfl (Val.assign rfl) ?_
 refine KL.nil (KE.next (K.seq (K.region ?_)))
 refine KL.v rfl (Val.move rfl) ?_
 refine KL.v rfl (Val.eqlPN rfl rfl rfl) ?_
 refine KL.v rfl (Val.move rfl) ?_
 refine KL.skipG rfl rfl rfl ?_
 refine KL.skipG rfl rfl rfl ?_
 refine KL.skipG rfl rfl rfl ?_
 refine KL.skipG rfl rfl rfl ?_
 refine KL.skipG rfl rfl rfl ?_
 refine KL.v rfl (Val.pickT rfl rfl rfl) ?_
 refine KL.v rfl (Val.assign rfl) ?_
 refine KL.nil (KE.next ?_)
 refine K.ret ?_
 exact KE.fin byMarks rfl byRes byPart ⟨rfl, rfl⟩
def zeroH (b : Nat) : Heap := [(b, cells [.pointer none, .pointer none, .pointer none, .pointer none, .int .i64 0, .bool false] 73)]
theorem zeroH_app {b : Nat} : zeroH b ++ F = (b, cells [.pointer none, .pointer none, .pointer none, .pointer none, .int .i64 0, .bool false] 73) :: F := rfl
theorem spnoneZ_K : Call Tryz.prog w0 79 [.pointer (some ⟨zb, 0, none⟩)] (zeroH zb ++ F) (fun r H' => r = .bool true ∧ H' = zeroH zb ++ F) := by
 rw [zeroH_app]
 refine Call.enter1 (n := 12) (by kernel_rfl) Tryz.func79 rfl rfl rfl ?_
 refine K.seq (K.region ?_)
 refine KL.v rfl (Val.assign rfl) ?_
 refine KL.nil (KE.next (K.seq (K.region ?_)))
 refine KL.v rfl (Val.move rfl) ?_
 refine KL.v rfl (Val.eqlPN rfl rfl rfl) ?_
 refine KL.v rfl (Val.move rfl) ?_
 refine KL.yes rfl rfl ?_; refine KL.v rfl (Val.move rfl) ?_
 refine KL.yes rfl rfl ?_; refine KL.v rfl (Val.nilCheck rfl) ?_
 refine KL.yes rfl rfl ?_; refine KL.v rfl (Val.fieldAddr0 (k := 3) rfl rfl) ?_
 refine KL.yes rfl rfl ?_; refine KL.v rfl (Val.loadP rfl rfl (Sees.cell byTake rfl)) ?_
 refine KL.yes rfl rfl ?_; refine KL.v rfl (Val.eqlPN rfl rfl rfl) ?_
 refine KL.v rfl (Val.pickF rfl rfl rfl) ?_
 refine KL.v rfl (Val.assign rfl) ?_
 refine KL.nil (KE.next ?_)
 refine K.ret ?_
 exact KE.fin byMarks rfl byRes byPart ⟨rfl, rfl⟩
theorem spstart0_K : Call Tryz.prog w0 17 [.pointer none] F (fun r H' => r = .int .i64 1 ∧ H' = F) := by
 refine Call.enter1 (n := 14) (by kernel_rfl) Tryz.func17 rfl rfl rfl ?_
 refine K.seq (K.region ?_)
 refine KL.v rfl (Val.assign rfl) ?_
 refine KL.nil (KE.next (K.seq (K.block (K.seq (K.region ?_)))))
 refine KL.v rfl (Val.move rfl) ?_
 refine KL.callc rfl rfl byEvL fun T hT => ?_
 refine (CallV.fn (spnone0_K)).mono ?_
 rintro _ _ ⟨rfl, rfl⟩
 refine hT _ _ ?_; clear hT T
 refine KL.v rfl (Val.assign rfl) ?_
 refine KL.nil (KE.next (K.condT rfl (K.seq (K.region ?_))))
 refine KL.v rfl (Val.assign rfl) ?_
 refine KL.nil (KE.next ?_)
 refine K.ret ?_
 refine KE.blkR ?_
 refine KE.passR ?_
 exact KE.fin byMarks rfl byRes byPart ⟨rfl, rfl⟩
theorem spstartZ_K : Call Tryz.prog w0 17 [.pointer (some ⟨zb, 0, none⟩)] (zeroH zb ++ F) (fun r H' => r = .int .i64 1 ∧ H' = zeroH zb ++ F) := by
 refine Call.enter1 (n := 14) (by kernel_rfl) Tryz.func17 rfl rfl rfl ?_
 refine K.seq (K.region ?_)
 refine KL.v rfl (Val.assign rfl) ?_
 refine KL.nil (KE.next (K.seq (K.block (K.seq (K.region ?_)))))
 refine KL.v rfl (Val.move rfl) ?_
 refine KL.callc rfl rfl byEvL fun T hT => ?_
 refine (CallV.part (CallV.fn (spnoneZ_K)) byPart).mono ?_
 rintro _ _ ⟨rfl, rfl⟩
 refine hT _ _ ?_; clear hT T
 refine KL.v rfl (Val.assign rfl) ?_
 refine KL.nil (KE.next (K.condT rfl (K.seq (K.region ?_))))
 refine KL.v rfl (Val.assign rfl) ?_
 refine KL.nil (KE.next ?_)
 refine K.ret ?_
 refine KE.blkR ?_
 refine KE.passR ?_
 exact KE.fin byMarks rfl byRes byPart ⟨rfl, rfl⟩
theorem spact0_K : Call Tryz.prog w0 26 [.pointer none] F (fun r H' => r = .bool false ∧ H' = F) := by
 refine Call.enter1 (n := 12) (by kernel_rfl) Tryz.func26 rfl rfl rfl ?_
 refine K.seq (K.region ?_)
 refine KL.v rfl (Val.assign rfl) ?_
 refine KL.nil (KE.next (K.seq (K.region ?_)))
 refine KL.v rfl (Val.move rfl) ?_
 refine KL.callc rfl rfl byEvL fun T hT => ?_
 refine (CallV.fn (spnone0_K)).mono ?_
 rintro _ _ ⟨rfl, rfl⟩
 refine hT _ _ ?_; clear hT T
 refine KL.v rfl (Val.notT rfl) ?_
 refine KL.v rfl (Val.move rfl) ?_
 refine KL.skipG rfl rfl rfl ?_
 refine KL.skipG rfl rfl rfl ?_
 refine KL.skipG rfl rfl rfl ?_
 refine KL.skipG rfl rfl rfl ?_
 refine KL.v rfl (Val.pickF rfl rfl rfl) ?_
 refine KL.v rfl (Val.assign rfl) ?_
 refine KL.nil (KE.next ?_)
 refine K.ret ?_
 exact KE.fin byMarks rfl byRes byPart ⟨rfl, rfl⟩
theorem spactZ_K : Call Tryz.prog w0 26 [.pointer (some ⟨zb, 0, none⟩)] (zeroH zb ++ F) (fun r H' => r = .bool false ∧ H' = zeroH zb ++ F) := by
 refine Call.enter1 (n := 12) (by kernel_rfl) Tryz.func26 rfl rfl rfl ?_
 refine K.seq (K.region ?_)
 refine KL.v rfl (Val.assign rfl) ?_
 refine KL.nil (KE.next (K.seq (K.region ?_)))
 refine KL.v rfl (Val.move rfl) ?_
 refine KL.callc rfl rfl byEvL fun T hT => ?_
 refine (CallV.part (CallV.fn (spnoneZ_K)) byPart).mono ?_
 rintro _ _ ⟨rfl, rfl⟩
 refine hT _ _ ?_; clear hT T
 refine KL.v rfl (Val.notT rfl) ?_
 refine KL.v rfl (Val.move rfl) ?_
 refine KL.skipG rfl rfl rfl ?_
 refine KL.skipG rfl rfl rfl ?_
 refine KL.skipG rfl rfl rfl ?_
 refine KL.skipG rfl rfl rfl ?_
 refine KL.v rfl (Val.pickF rfl rfl rfl) ?_
 refine KL.v rfl (Val.assign rfl) ?_
 refine KL.nil (KE.next ?_)
 refine K.ret ?_
 exact KE.fin byMarks rfl byRes byPart ⟨rfl, rfl⟩
theorem spplace0_K : Call Tryz.prog w0 24 [.pointer none] F (fun r H' => r = .int .i64 0 ∧ H' = F) := by
 refine Call.enter1 (n := 9) (by kernel_rfl) Tryz.func24 rfl rfl rfl ?_
 refine K.seq (K.region ?_)
 refine KL.v rfl (Val.assign rfl) ?_
 refine KL.nil (KE.next (K.seq (K.seq (K.region ?_))))
 refine KL.v rfl (Val.move rfl) ?_
 refine KL.callc rfl rfl byEvL fun T hT => ?_
 refine (CallV.fn (spnone0_K)).mono ?_
 rintro _ _ ⟨rfl, rfl⟩
 refine hT _ _ ?_; clear hT T
 refine KL.nil (KE.next (K.condT rfl (K.seq (K.region ?_))))
 refine KL.v rfl (Val.assign rfl) ?_
 refine KL.nil (KE.next ?_)
 refine K.ret ?_
 refine KE.passR ?_
 exact KE.fin byMarks rfl byRes byPart ⟨rfl, rfl⟩
theorem spplaceZ_K : Call Tryz.prog w0 24 [.pointer (some ⟨zb, 0, none⟩)] (zeroH zb ++ F) (fun r H' => r = .int .i64 0 ∧ H' = zeroH zb ++ F) := by
 refine Call.enter1 (n := 9) (by kernel_rfl) Tryz.func24 rfl rfl rfl ?_
 refine K.seq (K.region ?_)
 refine KL.v rfl (Val.assign rfl) ?_
 refine KL.nil (KE.next (K.seq (K.seq (K.region ?_))))
 refine KL.v rfl (Val.move rfl) ?_
 refine KL.callc rfl rfl byEvL fun T hT => ?_
 refine (CallV.part (CallV.fn (spnoneZ_K)) byPart).mono ?_
 rintro _ _ ⟨rfl, rfl⟩
 refine hT _ _ ?_; clear hT T
 refine KL.nil (KE.next (K.condT rfl (K.seq (K.region ?_))))
 refine KL.v rfl (Val.assign rfl) ?_
 refine KL.nil (KE.next ?_)
 refine K.ret ?_
 refine KE.passR ?_
 exact KE.fin byMarks rfl byRes byPart ⟨rfl, rfl⟩
theorem spdone0_K : Call Tryz.prog w0 25 [.pointer none] F (fun r H' => r = .bool false ∧ H' = F) := by
 refine Call.enter1 (n := 17) (by kernel_rfl) Tryz.func25 rfl rfl rfl ?_
 refine K.seq (K.region ?_)
 refine KL.v rfl (Val.assign rfl) ?_
 refine KL.nil (KE.next (K.seq ?_))
 refine K.drawn _ [(0, 0), (1, 2), (2, 0), (3, 1), (4, 1), (5, 1), (6, 1), (7, 0), (8, 0), (9, 0), (10, 0), (11, 2), (12, 0), (13, 0), (14, 0)] (by kernel_rfl) (by kernel_rfl) (by kernel_rfl) (by kernel_rfl) (by kernel_rfl) (by kernel_rfl) Part.all ?_
 refine KD.v0 rfl rfl (Val.move rfl) ?_
 refine KD.callc rfl rfl rfl byEvL fun T hT => ?_
 refine (CallV.fn (spact0_K)).mono ?_
 rintro _ _ ⟨rfl, rfl⟩
 refine hT _ _ byPart ?_; clear hT T
 refine KD.v0 rfl rfl (Val.move rfl) ?_
 refine KD.no rfl rfl rfl rfl rfl ?_
 refine KD.no rfl rfl rfl rfl rfl ?_
 refine KD.no rfl rfl rfl rfl rfl ?_
 refine KD.no rfl rfl rfl rfl rfl ?_
 refine KD.no rfl rfl rfl rfl rfl ?_
 refine KD.no rfl rfl rfl rfl rfl ?_
 refine KD.no rfl rfl rfl rfl rfl ?_
 refine KD.no rfl rfl rfl rfl rfl ?_
 refine KD.noA rfl rfl rfl rfl ?_
 refine KD.no rfl rfl rfl rfl rfl ?_
 refine KD.v0 rfl rfl (Val.pickF rfl rfl rfl) ?_
 refine KD.v0 rfl rfl (Val.assign rfl) ?_
 refine KD.nil ?_
 refine KE.next ?_
 refine K.ret ?_
 exact KE.fin byMarks rfl byRes byPart ⟨rfl, rfl⟩
theorem spdoneZ_K : Call Tryz.prog w0 25 [.pointer (some ⟨zb, 0, none⟩)] (zeroH zb ++ F) (fun r H' => r = .bool false ∧ H' = zeroH zb ++ F) := by
 refine Call.enter1 (n := 17) (by kernel_rfl) Tryz.func25 rfl rfl rfl ?_
 refine K.seq (K.region ?_)
 refine KL.v rfl (Val.assign rfl) ?_
 refine KL.nil (KE.next (K.seq ?_))
 refine K.drawn _ [(0, 0), (1, 2), (2, 0), (3, 1), (4, 1), (5, 1), (6, 1), (7, 0), (8, 0), (9, 0), (10, 0), (11, 2), (12, 0), (13, 0), (14, 0)] (by kernel_rfl) (by kernel_rfl) (by kernel_rfl) (by kernel_rfl) (by kernel_rfl) (by kernel_rfl) Part.all ?_
 refine KD.v0 rfl rfl (Val.move rfl) ?_
 refine KD.callc rfl rfl rfl byEvL fun T hT => ?_
 refine (CallV.part (CallV.fn (spactZ_K)) byPart).mono ?_
 rintro _ _ ⟨rfl, rfl⟩
 refine hT _ _ byPart ?_; clear hT T
 refine KD.v0 rfl rfl (Val.move rfl) ?_
 refine KD.no rfl rfl rfl rfl rfl ?_
 refine KD.no rfl rfl rfl rfl rfl ?_
 refine KD.no rfl rfl rfl rfl rfl ?_
 refine KD.no rfl rfl rfl rfl rfl ?_
 refine KD.no rfl rfl rfl rfl rfl ?_
 refine KD.no rfl rfl rfl rfl rfl ?_
 refine KD.no rfl rfl rfl rfl rfl ?_
 refine KD.no rfl rfl rfl rfl rfl ?_
 refine KD.noA rfl rfl rfl rfl ?_
 refine KD.no rfl rfl rfl rfl rfl ?_
 refine KD.v0 rfl rfl (Val.pickF rfl rfl rfl) ?_
 refine KD.v0 rfl rfl (Val.assign rfl) ?_
 refine KD.nil ?_
 refine KE.next ?_
 refine K.ret ?_
 exact KE.fin byMarks rfl byRes byPart ⟨rfl, rfl⟩
theorem spstop0_K : Call Tryz.prog w0 21 [.pointer none] F (fun r H' => r = .tuple [.int .i64 0, .int .i64 1].toArray ∧ H' = F) := by
 refine Call.enter1 (n := 37) (by kernel_rfl) Tryz.func21 rfl rfl rfl ?_
 refine K.seq (K.region ?_)
 refine KL.v rfl (Val.assign rfl) ?_
 refine KL.v rfl (Val.assign rfl) ?_
 refine KL.nil (KE.next (K.seq (K.block (K.seq (K.region ?_)))))
 refine KL.v rfl (Val.move rfl) ?_
 refine KL.callc rfl rfl byEvL fun T hT => ?_
 refine (CallV.fn (spnone0_K)).mono ?_
 rintro _ _ ⟨rfl, rfl⟩
 refine hT _ _ ?_; clear hT T
 refine KL.v rfl (Val.assign rfl) ?_
 refine KL.nil (KE.next (K.condT rfl (K.seq (K.region ?_))))
 refine KL.v rfl (Val.assign rfl) ?_
 refine KL.v rfl (Val.assign rfl) ?_
 refine KL.nil (KE.next ?_)
 refine K.ret ?_
 refine KE.blkR ?_
 refine KE.passR ?_
 exact KE.fin byMarks rfl byRes byPart ⟨rfl, rfl⟩
theorem spstopZ_K : Call Tryz.prog w0 21 [.pointer (some ⟨zb, 0, none⟩)] (zeroH zb ++ F) (fun r H' => r = .tuple [.int .i64 0, .int .i64 1].toArray ∧ H' = zeroH zb ++ F) := by
 refine Call.enter1 (n := 37) (by kernel_rfl) Tryz.func21 rfl rfl rfl ?_
 refine K.seq (K.region ?_)
 refine KL.v rfl (Val.assign rfl) ?_
 refine KL.v rfl (Val.assign rfl) ?_
 refine KL.nil (KE.next (K.seq (K.block (K.seq (K.region ?_)))))
 refine KL.v rfl (Val.move rfl) ?_
 refine KL.callc rfl rfl byEvL fun T hT => ?_
 refine (CallV.part (CallV.fn (spnoneZ_K)) byPart).mono ?_
 rintro _ _ ⟨rfl, rfl⟩
 refine hT _ _ ?_; clear hT T
 refine KL.v rfl (Val.assign rfl) ?_
 refine KL.nil (KE.next (K.condT rfl (K.seq (K.region ?_))))
 refine KL.v rfl (Val.assign rfl) ?_
 refine KL.v rfl (Val.assign rfl) ?_
 refine KL.nil (KE.next ?_)
 refine K.ret ?_
 refine KE.blkR ?_
 refine KE.passR ?_
 exact KE.fin byMarks rfl byRes byPart ⟨rfl, rfl⟩
theorem spstep0_K : Call Tryz.prog w0 18 [.pointer none] F (fun r H' => r = .bool false ∧ H' = F) := by
 refine Call.enter1 (n := 47) (by kernel_rfl) Tryz.func18 rfl rfl rfl ?_
 refine K.seq (K.region ?_)
 refine KL.e rfl (Eff.box rfl rfl) ?_; rintro _ _ ⟨b1, rfl, rfl⟩
 refine KL.v rfl (Val.assign rfl) ?_
 refine KL.nil (KE.next (K.seq (K.seq (K.region ?_))))
 refine KL.v rfl (Val.loadP rfl rfl (Sees.cell byTake rfl)) ?_
 refine KL.callc rfl rfl byEvL fun T hT => ?_
 refine (CallV.fn (spact0_K)).mono ?_
 rintro _ _ ⟨rfl, rfl⟩
 refine hT _ _ ?_; clear hT T
 refine KL.v rfl (Val.notF rfl) ?_
 refine KL.v rfl (Val.move rfl) ?_
 refine KL.skipG rfl rfl rfl ?_
 refine KL.skipG rfl rfl rfl ?_
 refine KL.v rfl (Val.pickT rfl rfl rfl) ?_
 refine KL.nil (KE.next (K.condT rfl (K.seq (K.region ?_))))
 refine KL.v rfl (Val.assign rfl) ?_
 refine KL.nil (KE.next ?_)
 refine K.ret ?_
 refine KE.passR ?_
 exact KE.fin byMarks rfl byRes byPart ⟨rfl, rfl⟩
theorem spstepZ_K : Call Tryz.prog w0 18 [.pointer (some ⟨zb, 0, none⟩)] (zeroH zb ++ F) (fun r H' => r = .bool false ∧ H' = zeroH zb ++ F) := by
 refine Call.enter1 (n := 47) (by kernel_rfl) Tryz.func18 rfl rfl rfl ?_
 refine K.seq (K.region ?_)
 refine KL.e rfl (Eff.box rfl rfl) ?_; rintro _ _ ⟨b1, rfl, rfl⟩
 refine KL.v rfl (Val.assign rfl) ?_
 refine KL.nil (KE.next (K.seq (K.seq (K.region ?_))))
 refine KL.v rfl (Val.loadP rfl rfl (Sees.cell byTake rfl)) ?_
 refine KL.callc rfl rfl byEvL fun T hT => ?_
 refine (CallV.part (CallV.fn (spactZ_K)) byPart).mono ?_
 rintro _ _ ⟨rfl, rfl⟩
 refine hT _ _ ?_; clear hT T
 refine KL.v rfl (Val.notF rfl) ?_
 refine KL.v rfl (Val.move rfl) ?_
 refine KL.skipG rfl rfl rfl ?_
 refine KL.skipG rfl rfl rfl ?_
 refine KL.v rfl (Val.pickT rfl rfl rfl) ?_
 refine KL.nil (KE.next (K.condT rfl (K.seq (K.region ?_))))
 refine KL.v rfl (Val.assign rfl) ?_
 refine KL.nil (KE.next ?_)
 refine K.ret ?_
 refine KE.passR ?_
 exact KE.fin byMarks rfl byRes byPart ⟨rfl, rfl⟩
theorem all1z_K {A0 Z : Heap} {bl : Nat} {p yv : Value} (hn : ∀ A, Call Tryz.prog w0 79 [p] (Z ++ A) (fun r H' => r = .bool true ∧ H' = Z ++ A)) (hp : p.oneCell' = true) :
  Call Tryz.prog w0 168 [yv, .pointer (some ⟨bl, 0, none⟩)] (A0 ++ ((bl, cells [p] 31) :: (Z ++ F))) (fun u H' => H' = A0 ++ ((bl, cells [p] 31) :: (Z ++ F))) := by
 refine Call.enter2 (n := 31) (by kernel_rfl) Tryz.func168 rfl rfl rfl ?_
 refine K.seq (K.seq (K.region ?_))
 refine KL.v rfl (Val.loadP rfl rfl (Sees.cell byTake rfl)) ?_
 refine KL.callc rfl rfl byEvL fun T hT => ?_
 refine (CallV.part (CallV.fn (hn _)) byPart).mono ?_
 rintro _ _ ⟨rfl, rfl⟩
 refine hT _ _ ?_; clear hT T
 refine KL.nil (KE.next (K.condT rfl ?_))
 refine K.ret ?_
 refine KE.passR ?_
 exact KE.fin (H' := A0 ++ ((bl, cells [p] 31) :: (Z ++ F))) byMarks rfl byRes byPart rfl
theorem AppendSeqz_K {Z : Heap} {bl : Nat} {p : Value} (hn : ∀ A, Call Tryz.prog w0 79 [p] (Z ++ A) (fun r H' => r = .bool true ∧ H' = Z ++ A)) (hp : p.oneCell' = true) :
  Call Tryz.prog w0 167 [.slice none 0 0, .func (.func 168) #[] [.pointer (some ⟨bl, 0, none⟩)].toArray] ((bl, cells [p] 31) :: (Z ++ F)) (fun r H' => r = .slice none 0 0 ∧ H' = Z ++ F) := by
 refine Call.enter2 (n := 13) (by kernel_rfl) Tryz.func167 rfl rfl rfl ?_
 refine K.seq (K.region ?_)
 refine KL.e rfl (Eff.box rfl rfl) ?_; rintro _ _ ⟨b2, rfl, rfl⟩
 refine KL.v rfl (Val.assign rfl) ?_
 refine KL.nil (KE.next (K.seq (K.seq (K.region ?_))))
 refine KL.v rfl (Val.move rfl) ?_
 refine KL.nil (KE.next (K.block ?_))
 refine K.rangeFunc (lb := [.pointer (some ⟨bl, 0, none⟩)]) rfl
  (fun D G => G = (D, .deferred (some [])) :: (b2, cells [.slice none 0 0] 22) :: (Z ++ F))
  (fun D c G => False) ?_ ?_ ?_
 ·intro l D rc hyl
  refine (Call.part (all1z_K (F := F) (Z := Z) (bl := bl) (A0 := (l, .loop (rc .ready none)) :: (D, .deferred (some [])) :: (b2, cells [.slice none 0 0] 22) :: []) hn hp) (by simp only [List.cons_append, List.nil_append]; exact byPart)).mono ?_
  rintro u H' rfl
  refine .inl ⟨_, ?_, rfl⟩
  simp only [List.cons_append, List.nil_append]
  exact byPart
 ·rintro D G rfl
  refine KE.blkN ?_
  refine KE.next (K.seq (K.region ?_))
  refine KL.v rfl (Val.loadP rfl rfl (Sees.cell byTake rfl)) ?_
  refine KL.v rfl (Val.assign rfl) ?_
  refine KL.nil (KE.next ?_)
  refine K.ret ?_
  exact KE.fin byMarks rfl byRes byPart ⟨rfl, rfl⟩
 ·rintro D c G hf
  exact hf.elim
theorem Doomedz_K {Z : Heap} {b : Value} (hn : ∀ A, Call Tryz.prog w0 79 [b] (Z ++ A) (fun r H' => r = .bool true ∧ H' = Z ++ A)) (hp : b.oneCell' = true)
  (hall : ∀ H, Call Tryz.prog w0 85 [b] H (fun u H' => ∃ bl, u = .func (.func 168) #[] [.pointer (some ⟨bl, 0, none⟩)].toArray ∧ H' = (bl, cells [b] 31) :: H)) :
  Call Tryz.prog w0 19 [b] (Z ++ F) (fun r H' => r = .slice none 0 0 ∧ H' = Z ++ F) := by
 have hcol : ∀ bl, Call Tryz.prog w0 84 [.func (.func 168) #[] [.pointer (some ⟨bl, 0, none⟩)].toArray] ((bl, cells [b] 31) :: (Z ++ F)) (fun r H' => r = .slice none 0 0 ∧ H' = Z ++ F) := by
  intro bl
  refine Call.enter1 (n := 5) (by kernel_rfl) Tryz.func84 rfl rfl rfl ?_
  refine K.seq (K.region ?_)
  refine KL.v rfl (Val.assign rfl) ?_
  refine KL.nil (KE.next (K.seq (K.region ?_)))
  refine KL.v rfl (Val.move rfl) ?_
  refine KL.callc rfl rfl byEvL fun T hT => ?_
  refine (CallV.fn (AppendSeqz_K hn hp)).mono ?_
  rintro _ _ ⟨rfl, rfl⟩
  refine hT _ _ ?_; clear hT T
  refine KL.v rfl (Val.assign rfl) ?_
  refine KL.nil (KE.next ?_)
  refine K.ret ?_
  exact KE.fin byMarks rfl byRes byPart ⟨rfl, rfl⟩
 refine Call.enter1 (n := 6) (by kernel_rfl) Tryz.func19 rfl rfl rfl ?_
 refine K.seq (K.region ?_)
 refine KL.v rfl (Val.assign rfl) ?_
 refine KL.nil (KE.next (K.seq (K.region ?_)))
 refine KL.v rfl (Val.move rfl) ?_
 refine KL.callc rfl rfl byEvL fun T hT => ?_
 refine (CallV.fn (hall _)).mono ?_
 rintro _ _ ⟨bl, rfl, rfl⟩
 refine hT _ _ ?_; clear hT T
 refine KL.callc rfl rfl byEvL fun T hT => ?_
 refine (CallV.fn (hcol _)).mono ?_
 rintro _ _ ⟨rfl, rfl⟩
 refine hT _ _ ?_; clear hT T
 refine KL.v rfl (Val.assign rfl) ?_
 refine KL.nil (KE.next ?_)
 refine K.ret ?_
 exact KE.fin byMarks rfl byRes byPart ⟨rfl, rfl⟩
theorem spall0_K : Call Tryz.prog w0 85 [.pointer none] F (fun u H' => ∃ bl, u = .func (.func 168) #[] [.pointer (some ⟨bl, 0, none⟩)].toArray ∧ H' = (bl, cells [.pointer none] 31) :: F) := by
 refine Call.enter1 (n := 4) (by kernel_rfl) Tryz.func85 rfl rfl rfl ?_
 refine K.seq (K.region ?_)
 refine KL.e rfl (Eff.box rfl rfl) ?_; rintro _ _ ⟨b1, rfl, rfl⟩
 refine KL.v rfl (Val.assign rfl) ?_
 refine KL.nil (KE.next (K.seq (K.region ?_)))
 refine KL.v rfl (Val.makeFunc byEvL byEvL) ?_
 refine KL.v rfl (Val.assign rfl) ?_
 refine KL.nil (KE.next ?_)
 refine K.ret ?_
 exact KE.fin byMarks rfl byRes byPart ⟨_, rfl, rfl⟩
theorem spdoomed0_K : Call Tryz.prog w0 19 [.pointer none] F (fun r H' => r = .slice none 0 0 ∧ H' = F) :=
 Doomedz_K (Z := []) (fun A => spnone0_K) rfl (fun H => spall0_K)
theorem spdoomedZ_K : Call Tryz.prog w0 19 [.pointer (some ⟨zb, 0, none⟩)] (zeroH zb ++ F) (fun r H' => r = .slice none 0 0 ∧ H' = zeroH zb ++ F) :=
 Doomedz_K (Z := zeroH zb) (fun A => spnoneZ_K) rfl (fun H => spall_K)
end
end Go.Proofs.YtalholahapcpkaaGreatDoor.Sw
