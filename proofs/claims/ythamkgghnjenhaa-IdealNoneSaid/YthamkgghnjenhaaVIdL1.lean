/- Ideal: the law IdealNone. -/
import Derived.Test.YthamkgghnjenhaaJ22
namespace Go.Proofs.Ythamkgghnjenhaa
open Go.RowKit Go.ChangeShapes Go.WideShapes Go.ChangeAt Go.Deep Go.Joins
set_option linter.unusedVariables false
set_option linter.unusedSimpArgs false
set_option maxRecDepth 10000

abbrev ptV (p : Option Nat) : Value := .pointer (p.map fun b => ⟨b, 0, none⟩)
def ptE : Enc (Option Nat) := ⟨fun p => [ptV p], 1, fun _ => rfl, by intro x v hv; simp at hv; subst hv; rfl⟩
/-- no store -/
def NoStore (w0 : World) (H : Heap) (p : Option Nat) : Prop := ∀ b, p = some b → Sees w0 H ⟨b, 3, none⟩ (.map none)
theorem NoStore.more {w0 : World} {H H' : Heap} {p : Option Nat} (h : NoStore w0 H' p) (hp : Part H H') : NoStore w0 H p := fun b hb => (h b hb).more hp
theorem noneP_K {w0 : World} {H : Heap} {p : Option Nat} (h : NoStore w0 H p) : Call Try.prog w0 27 [ptV p] H (fun r H' => r = .bool true ∧ H' = H) := by
  cases p with
  | none => exact noneN_K
  | some b => exact (noneR_K (bt := none) (h b rfl)).mono fun _ _ h => h
theorem NamesN_K {w0 : World} {H : Heap} {p : Option Nat} {h : Int} (hp : NoStore w0 H p) : Call Try.prog w0 14 [ptV p, .int .i64 h] H (fun r H' => r = .tuple [.int .i64 0, .int .i64 1].toArray ∧ H' = H) := by
  refine Call.enter2 (n := 22) (by kernel_rfl) Try.func14 rfl rfl rfl ?_
  refine K.seq ?_
  refine K.region ?_
  (refine KL.v rfl (Val.assign rfl) ?_)
  (refine KL.v rfl (Val.assign rfl) ?_)
  refine KL.nil ?_
  refine KE.next ?_
  refine K.seq ?_
  refine K.seq ?_
  refine K.region ?_
  (refine KL.v rfl (Val.move rfl) ?_)
  (refine KL.callc rfl rfl byEvL fun T hT => ?_)
  refine (CallV.fn (noneP_K hp)).mono ?_
  rintro _ _ ⟨rfl, rfl⟩
  refine hT _ _ ?_; clear hT; clear T
  refine KL.nil ?_
  refine KE.next ?_
  refine K.condT rfl ?_
  refine K.seq ?_
  refine K.region ?_
  (refine KL.v rfl (Val.assign rfl) ?_)
  (refine KL.v rfl (Val.assign rfl) ?_)
  refine KL.nil ?_
  refine KE.next ?_
  refine K.ret ?_
  refine KE.passR ?_
  exact KE.fin byMarks rfl byRes byPart ⟨rfl, rfl⟩
theorem ObjectsN_K {w0 : World} {H : Heap} {p : Option Nat} (hp : NoStore w0 H p) : Call Try.prog w0 9 [ptV p] H (fun r H' => r = .slice none 0 0 ∧ H' = H) := by
  refine Call.enter1 (n := 11) (by kernel_rfl) Try.func9 rfl rfl rfl ?_
  refine K.seq ?_
  refine K.region ?_
  (refine KL.v rfl (Val.assign rfl) ?_)
  refine KL.nil ?_
  refine KE.next ?_
  refine K.seq ?_
  refine K.seq ?_
  refine K.region ?_
  (refine KL.v rfl (Val.move rfl) ?_)
  (refine KL.callc rfl rfl byEvL fun T hT => ?_)
  refine (CallV.fn (noneP_K hp)).mono ?_
  rintro _ _ ⟨rfl, rfl⟩
  refine hT _ _ ?_; clear hT; clear T
  refine KL.nil ?_
  refine KE.next ?_
  refine K.condT rfl ?_
  refine K.seq ?_
  refine K.region ?_
  (refine KL.v rfl (Val.assign rfl) ?_)
  refine KL.nil ?_
  refine KE.next ?_
  refine K.ret ?_
  refine KE.passR ?_
  exact KE.fin byMarks rfl byRes byPart ⟨rfl, rfl⟩
theorem HandlesN_K {w0 : World} {H : Heap} {p : Option Nat} (hp : NoStore w0 H p) : Call Try.prog w0 13 [ptV p] H (fun r H' => r = .slice none 0 0 ∧ H' = H) := by
  refine Call.enter1 (n := 11) (by kernel_rfl) Try.func13 rfl rfl rfl ?_
  refine K.seq ?_
  refine K.region ?_
  (refine KL.v rfl (Val.assign rfl) ?_)
  refine KL.nil ?_
  refine KE.next ?_
  refine K.seq ?_
  refine K.seq ?_
  refine K.region ?_
  (refine KL.v rfl (Val.move rfl) ?_)
  (refine KL.callc rfl rfl byEvL fun T hT => ?_)
  refine (CallV.fn (noneP_K hp)).mono ?_
  rintro _ _ ⟨rfl, rfl⟩
  refine hT _ _ ?_; clear hT; clear T
  refine KL.nil ?_
  refine KE.next ?_
  refine K.condT rfl ?_
  refine K.seq ?_
  refine K.region ?_
  (refine KL.v rfl (Val.assign rfl) ?_)
  refine KL.nil ?_
  refine KE.next ?_
  refine K.ret ?_
  refine KE.passR ?_
  exact KE.fin byMarks rfl byRes byPart ⟨rfl, rfl⟩
theorem LiveN_K {w0 : World} {H : Heap} {p : Option Nat} (hp : NoStore w0 H p) : Call Try.prog w0 18 [ptV p] H (fun r H' => r = .int .i64 0 ∧ H' = H) := by
  refine Call.enter1 (n := 6) (by kernel_rfl) Try.func18 rfl rfl rfl ?_
  refine K.seq ?_
  refine K.region ?_
  (refine KL.v rfl (Val.assign rfl) ?_)
  refine KL.nil ?_
  refine KE.next ?_
  refine K.seq ?_
  refine K.region ?_
  (refine KL.v rfl (Val.move rfl) ?_)
  (refine KL.callc rfl rfl byEvL fun T hT => ?_)
  refine (CallV.fn (HandlesN_K hp)).mono ?_
  rintro _ _ ⟨rfl, rfl⟩
  refine hT _ _ ?_; clear hT; clear T
  (refine KL.v rfl (Val.lenS rfl rfl) ?_)
  (refine KL.v rfl (Val.assign rfl) ?_)
  refine KL.nil ?_
  refine KE.next ?_
  refine K.ret ?_
  exact KE.fin byMarks rfl byRes byPart ⟨rfl, rfl⟩
theorem UsedN_K {w0 : World} {H : Heap} {p : Option Nat} (hp : NoStore w0 H p) : Call Try.prog w0 16 [ptV p] H (fun r H' => r = .int .i64 0 ∧ H' = H) := by
  refine Call.enter1 (n := 24) (by kernel_rfl) Try.func16 rfl rfl rfl ?_
  refine K.seq ?_
  refine K.region ?_
  (refine KL.v rfl (Val.assign rfl) ?_)
  refine KL.nil ?_
  refine KE.next ?_
  refine K.seq ?_
  refine K.region ?_
  (refine KL.v rfl (Val.assign rfl) ?_)
  refine KL.nil ?_
  refine KE.next ?_
  refine K.seq ?_
  refine K.seq ?_
  refine K.region ?_
  (refine KL.v rfl (Val.move rfl) ?_)
  (refine KL.callc rfl rfl byEvL fun T hT => ?_)
  refine (CallV.fn (ObjectsN_K hp)).mono ?_
  rintro _ H ⟨rfl, rfl⟩
  refine hT _ _ ?_; clear hT; clear T
  (refine KL.v rfl (Val.lenS rfl rfl) ?_)
  (refine KL.v rfl (Val.move rfl) ?_)
  refine KL.nil ?_
  refine KE.next ?_
  refine K.block ?_
  refine K.loopT (σ := Nat) [(0, _), (7, _), (8, _)] (fun s kp_ => (9, .int .i64 (s : Nat)) :: (3, .int .i64 0) :: kp_) (fun s => H) (fun s => s = 0) (fun s => s) (0) bySub byPart (rfl) ?_
  rintro k rfl
  refine K.seq ?_
  refine K.region ?_
  (refine KL.v rfl (Val.isF (Val.lss rfl rfl) byLt) ?_)
  refine KL.nil ?_
  refine KE.next ?_
  refine K.seq ?_
  refine K.condF rfl ?_
  refine K.exit ?_
  refine KE.passX ?_
  refine KE.passX ?_
  refine KE.blkX ?_
  refine KE.next ?_
  refine K.seq ?_
  refine K.region ?_
  (refine KL.v rfl (Val.move rfl) ?_)
  (refine KL.v rfl (Val.assign rfl) ?_)
  refine KL.nil ?_
  refine KE.next ?_
  refine K.ret ?_
  exact KE.fin byMarks rfl byRes byPart ⟨rfl, rfl⟩
theorem MintedN_K {w0 : World} {H : Heap} {p : Option Nat} (hp : NoStore w0 H p) : Call Try.prog w0 20 [ptV p] H (fun r H' => r = .int .i64 0 ∧ H' = H) := by
  refine Call.enter1 (n := 9) (by kernel_rfl) Try.func20 rfl rfl rfl ?_
  refine K.seq ?_
  refine K.region ?_
  (refine KL.v rfl (Val.assign rfl) ?_)
  refine KL.nil ?_
  refine KE.next ?_
  refine K.seq ?_
  refine K.seq ?_
  refine K.region ?_
  (refine KL.v rfl (Val.move rfl) ?_)
  (refine KL.callc rfl rfl byEvL fun T hT => ?_)
  refine (CallV.fn (noneP_K hp)).mono ?_
  rintro _ _ ⟨rfl, rfl⟩
  refine hT _ _ ?_; clear hT; clear T
  refine KL.nil ?_
  refine KE.next ?_
  refine K.condT rfl ?_
  refine K.seq ?_
  refine K.region ?_
  (refine KL.v rfl (Val.assign rfl) ?_)
  refine KL.nil ?_
  refine KE.next ?_
  refine K.ret ?_
  refine KE.passR ?_
  exact KE.fin byMarks rfl byRes byPart ⟨rfl, rfl⟩
theorem CopyN_K {w0 : World} {H : Heap} {p : Option Nat} (hp : NoStore w0 H p) : Call Try.prog w0 17 [ptV p] H (fun r H' => r = .pointer none ∧ H' = H) := by
  refine Call.enter1 (n := 40) (by kernel_rfl) Try.func17 rfl rfl rfl ?_
  refine K.seq ?_
  refine K.region ?_
  (refine KL.v rfl (Val.assign rfl) ?_)
  refine KL.nil ?_
  refine KE.next ?_
  refine K.seq ?_
  refine K.seq ?_
  refine K.region ?_
  (refine KL.v rfl (Val.move rfl) ?_)
  (refine KL.callc rfl rfl byEvL fun T hT => ?_)
  refine (CallV.fn (noneP_K hp)).mono ?_
  rintro _ _ ⟨rfl, rfl⟩
  refine hT _ _ ?_; clear hT; clear T
  refine KL.nil ?_
  refine KE.next ?_
  refine K.condT rfl ?_
  refine K.seq ?_
  refine K.region ?_
  (refine KL.v rfl (Val.assign rfl) ?_)
  refine KL.nil ?_
  refine KE.next ?_
  refine K.ret ?_
  refine KE.passR ?_
  exact KE.fin byMarks rfl byRes byPart ⟨rfl, rfl⟩
theorem SetCapsN_K {w0 : World} {H : Heap} {p : Option Nat} {n : Int} (hp : NoStore w0 H p) : Call Try.prog w0 24 [ptV p, .int .i64 n] H (fun r H' => r = .int .i64 1 ∧ H' = H) := by
  refine Call.enter2 (n := 19) (by kernel_rfl) Try.func24 rfl rfl rfl ?_
  refine K.seq ?_
  refine K.region ?_
  (refine KL.v rfl (Val.assign rfl) ?_)
  refine KL.nil ?_
  refine KE.next ?_
  refine K.seq ?_
  refine K.block ?_
  refine K.seq ?_
  refine K.region ?_
  (refine KL.v rfl (Val.move rfl) ?_)
  (refine KL.callc rfl rfl byEvL fun T hT => ?_)
  refine (CallV.fn (noneP_K hp)).mono ?_
  rintro _ _ ⟨rfl, rfl⟩
  refine hT _ _ ?_; clear hT; clear T
  (refine KL.v rfl (Val.assign rfl) ?_)
  refine KL.nil ?_
  refine KE.next ?_
  refine K.condT rfl ?_
  refine K.seq ?_
  refine K.region ?_
  (refine KL.v rfl (Val.assign rfl) ?_)
  refine KL.nil ?_
  refine KE.next ?_
  refine K.ret ?_
  refine KE.blkR ?_
  refine KE.passR ?_
  exact KE.fin byMarks rfl byRes byPart ⟨rfl, rfl⟩
theorem ObjectNo_K {w0 : World} {H : Heap} {p : Option Nat} {n : Int} (hp : NoStore w0 H p) : Call Try.prog w0 10 [ptV p, .int .i64 n] H (fun r H' => r = .tuple [.agg [.slice none 0 0, .slice none 0 0, .int .i64 0, .int .i64 0].toArray, .int .i64 1].toArray ∧ H' = H) := by
  refine Call.enter2 (n := 25) (by kernel_rfl) Try.func10 rfl rfl rfl ?_
  refine K.seq ?_
  refine K.region ?_
  (refine KL.e rfl (Eff.alloc rfl) ?_; rintro _ _ ⟨b4, rfl, rfl⟩)
  (refine KL.v rfl (Val.assign rfl) ?_)
  refine KL.nil ?_
  refine KE.next ?_
  refine K.seq ?_
  refine K.seq ?_
  refine K.region ?_
  (refine KL.v rfl (Val.move rfl) ?_)
  (refine KL.callc rfl rfl byEvL fun T hT => ?_)
  refine (CallV.fn (noneP_K (hp.more byPart))).mono ?_
  rintro _ _ ⟨rfl, rfl⟩
  refine hT _ _ ?_; clear hT; clear T
  refine KL.nil ?_
  refine KE.next ?_
  refine K.condT rfl ?_
  refine K.seq ?_
  refine K.region ?_
  (refine KL.v rfl (Val.build byParts rfl rfl byFill) ?_)
  (refine KL.eN (Eff.storeAL rfl rfl rfl byTake byLay byOnes) ?_; rintro _ _ rfl)
  (refine KL.v rfl (Val.assign rfl) ?_)
  refine KL.nil ?_
  refine KE.next ?_
  refine K.ret ?_
  refine KE.passR ?_
  exact KE.fin byMarks rfl byRes byPart ⟨rfl, rfl⟩
theorem DoN_K {w0 : World} {H : Heap} {p : Option Nat} {op : OpP} (hp : NoStore w0 H p) : Call Try.prog w0 19 [ptV p, opV op] H (fun r H' => r = sdV ⟨1, 0, 0⟩ ∧ H' = H) := by
  have hopv : opV op = .agg [.int .u8 op.code, .int .i64 op.h, .int .i64 op.a, .int .i64 op.b, .int .u64 op.v, .int .i64 op.to].toArray := rfl
  rw [hopv]
  refine Call.enter2 (n := 49) (by kernel_rfl) Try.func19 rfl rfl rfl ?_
  refine K.seq ?_
  refine K.region ?_
  (refine KL.e rfl (Eff.box rfl rfl) ?_; rintro _ _ ⟨b3, rfl, rfl⟩)
  (refine KL.e rfl (Eff.alloc rfl) ?_; rintro _ _ ⟨b4, rfl, rfl⟩)
  refine KL.nil ?_
  refine KE.next ?_
  refine K.seq ?_
  refine K.region ?_
  (refine KL.callc rfl rfl byEvL fun T hT => ?_)
  refine (CallV.fn (operations_K)).mono ?_
  rintro _ _ ⟨rfl, rfl⟩
  refine hT _ _ ?_; clear hT; clear T
  unfold opsL
  (refine KL.e rfl (Eff.alloc rfl) ?_; rintro _ _ ⟨b5, rfl, rfl⟩)
  (refine KL.eN (Eff.storeAL rfl rfl rfl byTake byLay byOnes) ?_; rintro _ _ rfl)
  refine KL.nil ?_
  refine KE.next ?_
  refine K.seq ?_
  refine K.block ?_
  refine K.seq ?_
  refine K.region ?_
  (refine KL.v rfl (Val.move rfl) ?_)
  (refine KL.callc rfl rfl byEvL fun T hT => ?_)
  refine (CallV.fn (noneP_K (hp.more byPart))).mono ?_
  rintro _ _ ⟨rfl, rfl⟩
  refine hT _ _ ?_; clear hT; clear T
  (refine KL.v rfl (Val.assign rfl) ?_)
  refine KL.nil ?_
  refine KE.next ?_
  refine K.condT rfl ?_
  refine K.seq ?_
  refine K.region ?_
  (refine KL.v rfl (Val.build byParts rfl rfl byFill) ?_)
  (refine KL.eN (Eff.storeAL rfl rfl rfl byTake byLay byOnes) ?_; rintro _ _ rfl)
  refine KL.nil ?_
  refine KE.next ?_
  refine K.ret ?_
  refine KE.blkR ?_
  refine KE.passR ?_
  exact KE.fin byMarks rfl byRes byPart ⟨rfl, rfl⟩

set_option maxHeartbeats 4000000 in
theorem idealNone_K {w0 : World} {op : OpP} : Call Try.prog w0 5 [opV op] [] (fun r H' => r = .bool true ∧ H' = []) := by
  have hopv : opV op = .agg [.int .u8 op.code, .int .i64 op.h, .int .i64 op.a, .int .i64 op.b, .int .u64 op.v, .int .i64 op.to].toArray := rfl
  rw [hopv]
  refine Call.enter1 (n := 82) (by kernel_rfl) Try.func5 rfl rfl rfl ?_
  refine K.seq ?_
  refine K.region ?_
  (refine KL.e rfl (Eff.box rfl rfl) ?_; rintro _ _ ⟨b1, rfl, rfl⟩)
  (refine KL.v rfl (Val.assign rfl) ?_)
  refine KL.nil ?_
  refine KE.next ?_
  refine K.seq ?_
  refine K.region ?_
  (refine KL.v rfl (Val.assign rfl) ?_)
  refine KL.nil ?_
  refine KE.next ?_
  refine K.seq ?_
  refine K.region ?_
  (refine KL.v rfl (Val.move rfl) ?_)
  (refine KL.v rfl (Val.build byParts rfl rfl byFill) ?_)
  (refine KL.e rfl (Eff.box rfl rfl) ?_; rintro _ _ ⟨b13, rfl, rfl⟩)
  (refine KL.e rfl (Eff.buildS byParts rfl rfl rfl rfl rfl byFill) ?_; rintro _ _ ⟨b14, rfl, rfl⟩)
  (refine KL.v rfl (Val.assign rfl) ?_)
  refine KL.nil ?_
  refine KE.next ?_
  refine K.seq ?_
  refine K.seq ?_
  refine K.region ?_
  (refine KL.v rfl (Val.assign rfl) ?_)
  refine KL.nil ?_
  refine KE.next ?_
  refine K.block ?_
  obtain ⟨Hh, hHh⟩ : ∃ Hh : Heap, Hh = (b14, cells (flat ptE [none, some b13]) 28) :: (b13, cells [.slice none 0 0, .int .i64 0, .int .i64 0, .map none, .map none, .int .i64 0, .int .i64 0] 58) :: [] := ⟨_, rfl⟩
  have hSl : Sli w0 Hh ptE (.slice (some ⟨b14, 0, none⟩) 2 2) [none, some b13] := by rw [hHh]; exact Sli.blk byTake rfl (by simp) (by simp [maxLen]) rfl
  have hNo : ∀ p, p ∈ [none, some b13] → NoStore w0 Hh p := by
    intro p hp b hb
    subst hb
    simp at hp
    subst hp
    rw [hHh]
    exact Sees.cell byTake rfl
  have hSl1 : Sli w0 ((b1, cells [.int .u8 op.code, .int .i64 op.h, .int .i64 op.a, .int .i64 op.b, .int .u64 op.v, .int .i64 op.to] 51) :: (Hh ++ [])) ptE (.slice (some ⟨b14, 0, none⟩) 2 2) [none, some b13] := Sli.part hSl byPart
  refine K.loopT (σ := Nat) [(1, _), (4, _)] (fun s kp_ => (5, .int .i64 (s : Nat)) :: kp_) (fun s => (b1, cells [.int .u8 op.code, .int .i64 op.h, .int .i64 op.a, .int .i64 op.b, .int .u64 op.v, .int .i64 op.to] 51) :: (Hh ++ [])) (fun s => s ≤ 2) (fun s => 2 - s) (0) bySub (by rw [hHh]; exact byPart) (by omega) ?_
  rintro k hk
  have h2 : [none, some b13].length = 2 := rfl
  by_cases hlt : k < 2
  · obtain ⟨p, hp⟩ := get_of_lt (l := [none, some b13]) (k := k) (by rw [h2]; exact hlt)
    have hN := hNo p (List.mem_of_getElem? hp)
    refine K.seq ?_
    refine K.seq ?_
    refine K.region ?_
    (refine KL.v rfl (Val.move rfl) ?_)
    (refine KL.v rfl (Val.move rfl) ?_)
    (refine KL.v rfl (Val.lenSl rfl rfl bySli) ?_)
    (refine KL.v rfl (Val.isT (Val.lss rfl rfl) byLt) ?_)
    refine KL.nil ?_
    refine KE.next ?_
    refine K.condT rfl ?_
    refine K.skip ?_
    refine KE.next ?_
    refine K.seq ?_
    refine K.block ?_
    refine K.seq ?_
    refine K.region ?_
    (refine KL.v rfl (Val.move rfl) ?_)
    (refine KL.v rfl (Val.move rfl) ?_)
    (refine KL.v rfl (Val.idxSl rfl rfl rfl bySli rfl byLt) ?_)
    (refine KL.v rfl (Val.loadP rfl rfl bySee) ?_)
    (refine KL.v rfl (Val.assign rfl) ?_)
    refine KL.nil ?_
    refine KE.next ?_
    refine K.seq ?_
    refine K.region ?_
    (refine KL.v rfl (Val.move rfl) ?_)
    (refine KL.v rfl (Val.fieldAddr0 (k := 1) rfl rfl) ?_)
    (refine KL.v rfl (Val.loadP rfl rfl (Sees.cell byTake rfl)) ?_)
    (refine KL.callc rfl rfl byEvL fun T hT => ?_)
    refine (CallV.fn (NamesN_K (hN.more byPart))).mono ?_
    rintro _ _ ⟨rfl, rfl⟩
    refine hT _ _ ?_; clear hT; clear T
    (refine KL.v rfl (Val.move rfl) ?_)
    (refine KL.v rfl (Val.extract rfl rfl) ?_)
    (refine KL.v rfl (Val.extract rfl rfl) ?_)
    (refine KL.v rfl (Val.assign rfl) ?_)
    (refine KL.v rfl (Val.assign rfl) ?_)
    refine KL.nil ?_
    refine KE.next ?_
    refine K.seq ?_
    refine K.region ?_
    (refine KL.v rfl (Val.move rfl) ?_)
    (refine KL.v rfl (Val.fieldAddr0 (k := 2) rfl rfl) ?_)
    (refine KL.v rfl (Val.loadP rfl rfl (Sees.cell byTake rfl)) ?_)
    (refine KL.callc rfl rfl byEvL fun T hT => ?_)
    refine (CallV.fn (ObjectNo_K (hN.more byPart))).mono ?_
    rintro _ _ ⟨rfl, rfl⟩
    refine hT _ _ ?_; clear hT; clear T
    (refine KL.v rfl (Val.move rfl) ?_)
    (refine KL.v rfl (Val.extract rfl rfl) ?_)
    (refine KL.v rfl (Val.extract rfl rfl) ?_)
    (refine KL.e rfl (Eff.alloc rfl) ?_; rintro _ _ ⟨b9, rfl, rfl⟩)
    (refine KL.eN (Eff.storeAL rfl rfl rfl byTake byLay byOnes) ?_; rintro _ _ rfl)
    (refine KL.v rfl (Val.assign rfl) ?_)
    refine KL.nil ?_
    refine KE.next ?_
    refine K.seq ?_
    refine K.region ?_
    (refine KL.v rfl (Val.move rfl) ?_)
    (refine KL.v rfl (Val.loadA rfl rfl rfl bySeeN) ?_)
    (refine KL.callc rfl rfl byEvL fun T hT => ?_)
    refine (CallV.fn (DoN_K (op := op) (hN.more byPart))).mono ?_
    rintro _ _ ⟨rfl, rfl⟩
    unfold sdV
    refine hT _ _ ?_; clear hT; clear T
    (refine KL.v rfl (Val.build byParts rfl rfl byFill) ?_)
    (refine KL.v rfl (Val.neqAE rfl rfl (by kernel_rfl) byEqv (by first | assumption | rfl)) ?_)
    (refine KL.v rfl (Val.move rfl) ?_)
    (refine KL.yes rfl rfl ?_; refine KL.v rfl (Val.move rfl) ?_)
    (refine KL.yes rfl rfl ?_; refine KL.callc rfl rfl byEvL fun T hT => ?_)
    refine (CallV.fn (SetCapsN_K (hN.more byPart))).mono ?_
    rintro _ _ ⟨rfl, rfl⟩
    refine hT _ _ ?_; clear hT; clear T
    (refine KL.yes rfl rfl ?_; refine KL.v rfl (Val.isF (Val.neq rfl rfl) byLt) ?_)
    (refine KL.v rfl (Val.pickF rfl rfl rfl) ?_)
    (refine KL.v rfl (Val.move rfl) ?_)
    (refine KL.yes rfl rfl ?_; refine KL.v rfl (Val.move rfl) ?_)
    (refine KL.yes rfl rfl ?_; refine KL.v rfl (Val.isF (Val.neq rfl rfl) byLt) ?_)
    (refine KL.v rfl (Val.pickF rfl rfl rfl) ?_)
    (refine KL.v rfl (Val.move rfl) ?_)
    (refine KL.yes rfl rfl ?_; refine KL.v rfl (Val.move rfl) ?_)
    (refine KL.yes rfl rfl ?_; refine KL.v rfl (Val.isF (Val.neq rfl rfl) byLt) ?_)
    (refine KL.v rfl (Val.pickF rfl rfl rfl) ?_)
    (refine KL.v rfl (Val.move rfl) ?_)
    (refine KL.yes rfl rfl ?_; refine KL.v rfl (Val.move rfl) ?_)
    (refine KL.yes rfl rfl ?_; refine KL.callc rfl rfl byEvL fun T hT => ?_)
    refine (CallV.fn (UsedN_K (hN.more byPart))).mono ?_
    rintro _ _ ⟨rfl, rfl⟩
    refine hT _ _ ?_; clear hT; clear T
    (refine KL.yes rfl rfl ?_; refine KL.v rfl (Val.move rfl) ?_)
    (refine KL.yes rfl rfl ?_; refine KL.callc rfl rfl byEvL fun T hT => ?_)
    refine (CallV.fn (LiveN_K (hN.more byPart))).mono ?_
    rintro _ _ ⟨rfl, rfl⟩
    refine hT _ _ ?_; clear hT; clear T
    (refine KL.yes rfl rfl ?_; refine KL.v rfl (Val.add rfl rfl (by simp only [Go.Proofs.Ythamkgghnjenhaa.lo, Go.Proofs.Ythamkgghnjenhaa.hi]; omega)) ?_)
    (refine KL.yes rfl rfl ?_; refine KL.v rfl (Val.move rfl) ?_)
    (refine KL.yes rfl rfl ?_; refine KL.callc rfl rfl byEvL fun T hT => ?_)
    refine (CallV.fn (MintedN_K (hN.more byPart))).mono ?_
    rintro _ _ ⟨rfl, rfl⟩
    refine hT _ _ ?_; clear hT; clear T
    (refine KL.yes rfl rfl ?_; refine KL.v rfl (Val.add rfl rfl (by simp only [Go.Proofs.Ythamkgghnjenhaa.lo, Go.Proofs.Ythamkgghnjenhaa.hi]; omega)) ?_)
    (refine KL.yes rfl rfl ?_; refine KL.v rfl (Val.move rfl) ?_)
    (refine KL.yes rfl rfl ?_; refine KL.callc rfl rfl byEvL fun T hT => ?_)
    refine (CallV.fn (HandlesN_K (hN.more byPart))).mono ?_
    rintro _ _ ⟨rfl, rfl⟩
    refine hT _ _ ?_; clear hT; clear T
    (refine KL.yes rfl rfl ?_; refine KL.v rfl (Val.lenS rfl rfl) ?_)
    (refine KL.yes rfl rfl ?_; refine KL.v rfl (Val.add rfl rfl (by simp only [Go.Proofs.Ythamkgghnjenhaa.lo, Go.Proofs.Ythamkgghnjenhaa.hi]; omega)) ?_)
    (refine KL.yes rfl rfl ?_; refine KL.v rfl (Val.move rfl) ?_)
    (refine KL.yes rfl rfl ?_; refine KL.callc rfl rfl byEvL fun T hT => ?_)
    refine (CallV.fn (ObjectsN_K (hN.more byPart))).mono ?_
    rintro _ _ ⟨rfl, rfl⟩
    refine hT _ _ ?_; clear hT; clear T
    (refine KL.yes rfl rfl ?_; refine KL.v rfl (Val.lenS rfl rfl) ?_)
    (refine KL.yes rfl rfl ?_; refine KL.v rfl (Val.add rfl rfl (by simp only [Go.Proofs.Ythamkgghnjenhaa.lo, Go.Proofs.Ythamkgghnjenhaa.hi]; omega)) ?_)
    (refine KL.yes rfl rfl ?_; refine KL.v rfl (Val.isF (Val.neq rfl rfl) byLt) ?_)
    (refine KL.v rfl (Val.pickF rfl rfl rfl) ?_)
    (refine KL.v rfl (Val.move rfl) ?_)
    (refine KL.yes rfl rfl ?_; refine KL.v rfl (Val.move rfl) ?_)
    (refine KL.yes rfl rfl ?_; refine KL.callc rfl rfl byEvL fun T hT => ?_)
    refine (CallV.fn (CopyN_K (hN.more byPart))).mono ?_
    rintro _ _ ⟨rfl, rfl⟩
    refine hT _ _ ?_; clear hT; clear T
    (refine KL.yes rfl rfl ?_; refine KL.v rfl (Val.neqPN rfl rfl rfl) ?_)
    (refine KL.v rfl (Val.pickF rfl rfl rfl) ?_)
    refine KL.nil ?_
    refine KE.next ?_
    refine K.condF rfl ?_
    refine K.skip ?_
    refine KE.blkN ?_
    refine KE.next ?_
    refine K.region ?_
    (refine KL.v rfl (Val.move rfl) ?_)
    (refine KL.v rfl (Val.add rfl rfl (by simp only [Go.Proofs.Ythamkgghnjenhaa.lo, Go.Proofs.Ythamkgghnjenhaa.hi]; omega)) ?_)
    (refine KL.v rfl (Val.assign rfl) ?_)
    refine KL.nil ?_
    exact KE.again (k + 1) bySub byPart (by omega) (by omega)
  · have hk2 : k = 2 := by omega
    subst hk2
    refine K.seq ?_
    refine K.seq ?_
    refine K.region ?_
    (refine KL.v rfl (Val.move rfl) ?_)
    (refine KL.v rfl (Val.move rfl) ?_)
    (refine KL.v rfl (Val.lenSl rfl rfl bySli) ?_)
    (refine KL.v rfl (Val.isF (Val.lss rfl rfl) byLt) ?_)
    refine KL.nil ?_
    refine KE.next ?_
    refine K.condF rfl ?_
    refine K.exit ?_
    refine KE.passX ?_
    refine KE.passX ?_
    refine KE.blkX ?_
    refine KE.next ?_
    refine K.seq ?_
    refine K.region ?_
    (refine KL.callc rfl rfl byEvL fun T hT => ?_)
    refine (CallV.fn awake_K).mono ?_
    rintro _ _ ⟨rfl, rfl⟩
    refine hT _ _ ?_; clear hT; clear T
    (refine KL.v rfl (Val.assign rfl) ?_)
    refine KL.nil ?_
    refine KE.next ?_
    refine K.ret ?_
    exact KE.fin byMarks rfl byRes byPart ⟨rfl, rfl⟩
theorem idealNone_call {H : Type} {enc : TypeId × Value → H} (W : World) (base : Nat) (v0 : Value) {d0 : DataW H} {p0 : List MemPlace}
    (o0 : Value.okWide Try.prog W .any base 51 v0) (h0 : DataW.Trod enc Try.prog W 0 (fun _ => true) true 51 v0 d0 p0) :
    Calls Try.prog 5 #[v0] W (AwakeEnd W) := by
  obtain ⟨op, rfl, _⟩ := plain_v o0 h0
  exact (idealNone_K).calls
end Go.Proofs.Ythamkgghnjenhaa
