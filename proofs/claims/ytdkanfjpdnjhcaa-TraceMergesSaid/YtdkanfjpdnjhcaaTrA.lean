/- Trace: calls whose answers the document fixes. -/
import Derived.Test.YtdkanfjpdnjhcaaTrW9
namespace Go.Proofs.Ytdkanfjpdnjhcaa
open Go.RowKit
set_option linter.unusedVariables false
set_option linter.unusedSimpArgs false

def sA : Seen := ⟨2, 1, 0, -1, 4, 0, 0, true⟩
def lA : List Wat := [⟨3, sA⟩, ⟨5, seen0⟩, ⟨3, seen0⟩]
def mA : List Wat := [⟨1, seen0⟩, ⟨0, sA⟩, ⟨0, seen0⟩]
theorem sA_ok : sA.ok := by simp [Seen.ok, sA, i64ok, u64ok]
theorem tenA : tenP lA = [3, 5] := by
  refine sorted_ext (compact_sorted (sortP_sorted _)) (by decide) ?_
  intro x
  unfold tenP
  rw [compact_mem, sortP_mem]
  simp [lA]
  omega
theorem mergeA : mergeP [[sA, seen0], [seen0]] [1, 0, 1, 7] = mA := by decide
theorem getA : getP [120] = ([], 5) := by
  unfold getP
  rw [get_bad (by simp) (.inl (by simp))]
theorem rowsA {w0 : World} {H F F' : Heap} {b1 b2 : Nat} (h1 : Take (b1, cells (flat sE [sA, seen0]) 46) H F) (h2 : Take (b2, cells (flat sE [seen0]) 46) H F') (w : World) (hw : HF w0 H w) :
    RowsOf w [⟨some ⟨b1, 0, none⟩, 2, 2⟩, ⟨some ⟨b2, 0, none⟩, 1, 1⟩] [[sA, seen0], [seen0]] := by
  refine ⟨rfl, ?_⟩
  intro i p r hp hr
  match i with
  | 0 =>
    simp at hp hr; subst hp hr
    exact Sli.blk (xs := [sA, seen0]) h1 rfl (by simp) (by simp [maxLen]) rfl w hw
  | 1 =>
    simp at hp hr; subst hp hr
    exact Sli.blk (xs := [seen0]) h2 rfl (by simp) (by simp [maxLen]) rfl w hw
  | n + 2 => simp at hp

set_option maxRecDepth 100000 in
set_option maxHeartbeats 4000000 in
theorem awake_K {w0 : World} {H : Heap} : Call Try.prog w0 7 [] H (fun v H' => v = .bool true ∧ H' = H) := by
  refine Call.enter (n := 106) [] (by kernel_rfl) Try.func7 rfl rfl rfl trivial ?_
  have hp1 : (putB [sA]).length = 57 := putB_len _
  have hp2 : (putB [sA]).take (16 : Int).toNat = [0, 0, 0, 0, 0, 0, 0, 2, 0, 0, 0, 0, 0, 0, 0, 1] := by decide
  have hp3 : ((putB [sA]).take (32 : Int).toNat).drop (24 : Int).toNat = [255, 255, 255, 255, 255, 255, 255, 255] := by decide
  have hp4 : (putB [sA])[(56 : Int).toNat]? = some 1 := by decide
  have d1 : diffV [sA, seen0] [sA] = .tuple #[.int .i64 1, .bool true] := rfl
  have d2 : diffV [] [sA] = .tuple #[.int .i64 0, .bool true] := rfl
  have e1 : decide (ofP lA 3 = [sA, seen0]) = true := by decide
  have e2 : decide (tenP lA = [3, 5]) = true := by rw [tenA]; decide
  have e3 : decide (mergeP [[sA, seen0], [seen0]] [1, 0, 1, 7] = mA) = true := by rw [mergeA]; decide
  refine byCode ?_
  (refine KL.v rfl (Val.assign rfl) ?_)
  refine KL.nil ?_
  refine byCode ?_
  (refine KL.v rfl (Val.build byParts rfl rfl byFill) ?_)
  (refine KL.e rfl (Eff.alloc rfl) ?_; rintro _ _ ⟨b1, rfl, rfl⟩)
  (first | (refine KL.eN (Eff.storeAL rfl rfl rfl byTake byLay byOnes) ?_; rintro _ _ rfl) | (refine KL.eN (Eff.stSlA rfl rfl rfl rfl byTakeL (by assumption) (by assumption)) ?_; rintro _ _ rfl))
  refine KL.nil ?_
  refine byCode ?_
  (first | (refine KL.v rfl (Val.loadAP rfl rfl rfl bySeeA) ?_) | (refine KL.v rfl (Val.loadA rfl rfl rfl bySeeN) ?_))
  (refine KL.e rfl (Eff.buildS byParts rfl rfl rfl rfl rfl byFill) ?_; rintro _ _ ⟨b13, rfl, rfl⟩)
  (refine KL.callc rfl rfl byEvL fun T hT => ?_)
  refine (CallV.pure fun w hw => CallV.fn (Put_K (Sli.blk (xs := [sA]) byTake rfl (by decide) (by decide) rfl w hw) (by decide) (by simp [sA_ok]))).mono ?_
  rintro _ _ ⟨_, ⟨rfl, rfl⟩, rfl⟩
  refine hT _ _ ?_; clear hT; clear T
  (refine KL.v rfl (Val.assign rfl) ?_)
  refine KL.nil ?_
  refine byCode ?_
  (refine KL.callc rfl rfl byEvL fun T hT => ?_)
  refine (CallV.pure fun w hw => CallV.fn (Get_K (c := [120]) (by decide))).mono ?_
  rintro _ _ ⟨_, ⟨oG, okG, rfl, rfl⟩, rfl⟩
  refine hT _ _ ?_; clear hT; clear T
  rw [getA]
  (refine KL.v rfl (Val.move rfl) ?_)
  (refine KL.v rfl (Val.extract rfl rfl) ?_)
  (refine KL.v rfl (Val.extract rfl rfl) ?_)
  (refine KL.v rfl (Val.assign rfl) ?_)
  (refine KL.v rfl (Val.assign rfl) ?_)
  refine KL.nil ?_
  refine byCode ?_
  (first | (refine KL.v rfl (Val.loadAP rfl rfl rfl bySeeA) ?_) | (refine KL.v rfl (Val.loadA rfl rfl rfl bySeeN) ?_))
  (refine KL.v rfl (Val.build byParts rfl rfl byFill) ?_)
  (refine KL.v rfl (Val.build byParts rfl rfl byFill) ?_)
  (refine KL.v rfl (Val.build byParts rfl rfl byFill) ?_)
  (refine KL.e rfl (Eff.buildS byParts rfl rfl rfl rfl rfl byFill) ?_; rintro _ _ ⟨b23, rfl, rfl⟩)
  (refine KL.v rfl (Val.assign rfl) ?_)
  refine KL.nil ?_
  refine byCode ?_
  (first | (refine KL.v rfl (Val.loadAP rfl rfl rfl bySeeA) ?_) | (refine KL.v rfl (Val.loadA rfl rfl rfl bySeeN) ?_))
  (refine KL.v rfl (Val.build byParts rfl rfl byFill) ?_)
  (refine KL.e rfl (Eff.buildS byParts rfl rfl rfl rfl rfl byFill) ?_; rintro _ _ ⟨b27, rfl, rfl⟩)
  (first | (refine KL.v rfl (Val.loadAP rfl rfl rfl bySeeA) ?_) | (refine KL.v rfl (Val.loadA rfl rfl rfl bySeeN) ?_))
  (refine KL.e rfl (Eff.buildS byParts rfl rfl rfl rfl rfl byFill) ?_; rintro _ _ ⟨b29, rfl, rfl⟩)
  (refine KL.callc rfl rfl byEvL fun T hT => ?_)
  refine (CallV.pure fun w hw => CallV.fn (Diff_K (Sli.blk (xs := [sA, seen0]) byTake rfl (by decide) (by decide) rfl w hw) (Sli.blk (xs := [sA]) byTake rfl (by decide) (by decide) rfl w hw))).mono ?_
  rintro _ _ ⟨_, ⟨rfl, rfl⟩, rfl⟩
  refine hT _ _ ?_; clear hT; clear T
  rw [d1]
  (refine KL.v rfl (Val.move rfl) ?_)
  (refine KL.v rfl (Val.extract rfl rfl) ?_)
  (refine KL.v rfl (Val.extract rfl rfl) ?_)
  (refine KL.v rfl (Val.assign rfl) ?_)
  (refine KL.v rfl (Val.assign rfl) ?_)
  refine KL.nil ?_
  refine byCode ?_
  (first | (refine KL.v rfl (Val.loadAP rfl rfl rfl bySeeA) ?_) | (refine KL.v rfl (Val.loadA rfl rfl rfl bySeeN) ?_))
  (refine KL.e rfl (Eff.buildS byParts rfl rfl rfl rfl rfl byFill) ?_; rintro _ _ ⟨b35, rfl, rfl⟩)
  (refine KL.callc rfl rfl byEvL fun T hT => ?_)
  refine (CallV.pure fun w hw => CallV.fn (Diff_K (SlW.nil w sE) (Sli.blk (xs := [sA]) byTake rfl (by decide) (by decide) rfl w hw))).mono ?_
  rintro _ _ ⟨_, ⟨rfl, rfl⟩, rfl⟩
  refine hT _ _ ?_; clear hT; clear T
  rw [d2]
  (refine KL.v rfl (Val.move rfl) ?_)
  (refine KL.v rfl (Val.extract rfl rfl) ?_)
  (refine KL.v rfl (Val.extract rfl rfl) ?_)
  (refine KL.v rfl (Val.assign rfl) ?_)
  (refine KL.v rfl (Val.assign rfl) ?_)
  refine KL.nil ?_
  refine byCode ?_
  (first | (refine KL.v rfl (Val.loadAP rfl rfl rfl bySeeA) ?_) | (refine KL.v rfl (Val.loadA rfl rfl rfl bySeeN) ?_))
  (refine KL.v rfl (Val.build byParts rfl rfl byFill) ?_)
  (refine KL.e rfl (Eff.buildS byParts rfl rfl rfl rfl rfl byFill) ?_; rintro _ _ ⟨b41, rfl, rfl⟩)
  (refine KL.v rfl (Val.build byParts rfl rfl byFill) ?_)
  (refine KL.e rfl (Eff.buildS byParts rfl rfl rfl rfl rfl byFill) ?_; rintro _ _ ⟨b43, rfl, rfl⟩)
  (refine KL.e rfl (Eff.buildS byParts rfl rfl rfl rfl rfl byFill) ?_; rintro _ _ ⟨b44, rfl, rfl⟩)
  (refine KL.e rfl (Eff.buildS byParts rfl rfl rfl rfl rfl byFill) ?_; rintro _ _ ⟨b45, rfl, rfl⟩)
  (refine KL.callc rfl rfl byEvL fun T hT => ?_)
  refine (CallV.pure fun w hw => CallV.fn (Merge_K (ps := [⟨some ⟨b41, 0, none⟩, 2, 2⟩, ⟨some ⟨b43, 0, none⟩, 1, 1⟩]) (rows := [[sA, seen0], [seen0]]) (ts := [1, 0, 1, 7]) (Sli.blk byTake rfl (by simp) (by decide) rfl w hw) (rowsA byTake byTake w hw) (Sli.blk byTake rfl (by decide) (by decide) rfl w hw) (by simp) (by decide) (by decide))).mono ?_
  rintro _ _ ⟨_, ⟨o3, ok3, rfl, rfl⟩, rfl⟩
  refine hT _ _ ?_; clear hT; clear T
  (refine KL.v rfl (Val.assign rfl) ?_)
  refine KL.nil ?_
  refine byCodeD ?_
  (first | refine K.seq (K.drawn _ ((0, 0) :: (1, 0) :: (2, 0) :: (3, 0) :: (4, 0) :: (5, 0) :: (6, 0) :: (7, 0) :: (8, 0) :: (9, 0) :: (10, 0) :: (11, 0) :: (12, 0) :: (13, 0) :: (14, 0) :: (15, 0) :: (16, 0) :: (17, 0) :: (18, 0) :: (19, 0) :: (20, 0) :: (21, 0) :: (22, 0) :: (23, 1) :: (25, 1) :: (26, 1) :: (24, 3) :: (27, 2) :: (28, 2) :: (29, 0) :: (30, 0) :: (31, 1) :: (32, 3) :: (33, 2) :: (34, 2) :: (35, 0) :: (36, 0) :: (37, 0) :: (38, 0) :: (39, 0) :: (40, 0) :: (41, 0) :: (42, 0) :: (43, 0) :: (44, 0) :: (45, 0) :: (46, 0) :: (47, 0) :: (48, 0) :: (49, 0) :: (50, 0) :: (51, 1) :: (52, 0) :: (53, 0) :: (54, 0) :: (55, 0) :: (56, 2) :: (57, 2) :: (58, 0) :: (59, 0) :: []) (by kernel_rfl) (by kernel_rfl) (by kernel_rfl) (by kernel_rfl) (by kernel_rfl) (by kernel_rfl) Part.all ?_) | refine K.seq (K.seq (K.drawn _ ((0, 0) :: (1, 0) :: (2, 0) :: (3, 0) :: (4, 0) :: (5, 0) :: (6, 0) :: (7, 0) :: (8, 0) :: (9, 0) :: (10, 0) :: (11, 0) :: (12, 0) :: (13, 0) :: (14, 0) :: (15, 0) :: (16, 0) :: (17, 0) :: (18, 0) :: (19, 0) :: (20, 0) :: (21, 0) :: (22, 0) :: (23, 1) :: (25, 1) :: (26, 1) :: (24, 3) :: (27, 2) :: (28, 2) :: (29, 0) :: (30, 0) :: (31, 1) :: (32, 3) :: (33, 2) :: (34, 2) :: (35, 0) :: (36, 0) :: (37, 0) :: (38, 0) :: (39, 0) :: (40, 0) :: (41, 0) :: (42, 0) :: (43, 0) :: (44, 0) :: (45, 0) :: (46, 0) :: (47, 0) :: (48, 0) :: (49, 0) :: (50, 0) :: (51, 1) :: (52, 0) :: (53, 0) :: (54, 0) :: (55, 0) :: (56, 2) :: (57, 2) :: (58, 0) :: (59, 0) :: []) (by kernel_rfl) (by kernel_rfl) (by kernel_rfl) (by kernel_rfl) (by kernel_rfl) (by kernel_rfl) Part.all ?_)) | refine K.drawn _ ((0, 0) :: (1, 0) :: (2, 0) :: (3, 0) :: (4, 0) :: (5, 0) :: (6, 0) :: (7, 0) :: (8, 0) :: (9, 0) :: (10, 0) :: (11, 0) :: (12, 0) :: (13, 0) :: (14, 0) :: (15, 0) :: (16, 0) :: (17, 0) :: (18, 0) :: (19, 0) :: (20, 0) :: (21, 0) :: (22, 0) :: (23, 1) :: (25, 1) :: (26, 1) :: (24, 3) :: (27, 2) :: (28, 2) :: (29, 0) :: (30, 0) :: (31, 1) :: (32, 3) :: (33, 2) :: (34, 2) :: (35, 0) :: (36, 0) :: (37, 0) :: (38, 0) :: (39, 0) :: (40, 0) :: (41, 0) :: (42, 0) :: (43, 0) :: (44, 0) :: (45, 0) :: (46, 0) :: (47, 0) :: (48, 0) :: (49, 0) :: (50, 0) :: (51, 1) :: (52, 0) :: (53, 0) :: (54, 0) :: (55, 0) :: (56, 2) :: (57, 2) :: (58, 0) :: (59, 0) :: []) (by kernel_rfl) (by kernel_rfl) (by kernel_rfl) (by kernel_rfl) (by kernel_rfl) (by kernel_rfl) Part.all ?_)
  refine KD.v0 rfl rfl (Val.move rfl) ?_
  refine KD.v0 rfl rfl (Val.lenB rfl rfl) ?_
  (first | refine KD.v0 rfl rfl (Val.isT (Val.eql rfl rfl) byLt) ?_ | refine KD.v0 rfl rfl (Val.isF (Val.eql rfl rfl) byLt) ?_ | refine KD.v0 rfl rfl (Val.eql rfl rfl) ?_)
  refine KD.v0 rfl rfl (Val.move rfl) ?_
  (first | refine KD.no rfl rfl rfl rfl rfl ?_ | refine KD.noU rfl rfl rfl rfl rfl ?_ | refine KD.y0 rfl rfl rfl rfl (Val.move rfl) ?_)
  (first | refine KD.no rfl rfl rfl rfl rfl ?_ | refine KD.noU rfl rfl rfl rfl rfl ?_ | refine KD.y0 rfl rfl rfl rfl (Val.subBH rfl rfl rfl byLt) ?_ | refine KD.y0 rfl rfl rfl rfl (Val.subBHZ rfl rfl rfl (by omega)) ?_)
  (first | refine KD.no rfl rfl rfl rfl rfl ?_ | refine KD.noU rfl rfl rfl rfl rfl ?_ | refine KD.y0 rfl rfl rfl rfl (Val.isT (Val.eqlBs rfl rfl) byLt) ?_ | refine KD.y0 rfl rfl rfl rfl (Val.isF (Val.eqlBs rfl rfl) byLt) ?_ | refine KD.y0 rfl rfl rfl rfl (Val.eqlBs rfl rfl) ?_ | refine KD.y0 rfl rfl rfl rfl (Val.isT (Val.eqlS rfl rfl) byLt) ?_ | refine KD.y0 rfl rfl rfl rfl (Val.isF (Val.eqlS rfl rfl) byLt) ?_ | refine KD.y0 rfl rfl rfl rfl (Val.eqlS rfl rfl) ?_)
  (first | refine KD.v0 rfl rfl (Val.pickT rfl rfl rfl) ?_ | refine KD.v0 rfl rfl (Val.pickF rfl rfl rfl) ?_ | refine KD.v0 rfl rfl (Val.pickB rfl rfl rfl) ?_)
  refine KD.v0 rfl rfl (Val.move rfl) ?_
  (first | refine KD.no rfl rfl rfl rfl rfl ?_ | refine KD.noU rfl rfl rfl rfl rfl ?_ | refine KD.y0 rfl rfl rfl rfl (Val.move rfl) ?_)
  (first | refine KD.no rfl rfl rfl rfl rfl ?_ | refine KD.noU rfl rfl rfl rfl rfl ?_ | refine KD.y0 rfl rfl rfl rfl (Val.subB rfl rfl rfl rfl byLt byLt) ?_ | refine KD.y0 rfl rfl rfl rfl (Val.subBZ rfl rfl rfl rfl (by omega)) ?_)
  (first | refine KD.no rfl rfl rfl rfl rfl ?_ | refine KD.noU rfl rfl rfl rfl rfl ?_ | refine KD.y0 rfl rfl rfl rfl (Val.isT (Val.eqlBs rfl rfl) byLt) ?_ | refine KD.y0 rfl rfl rfl rfl (Val.isF (Val.eqlBs rfl rfl) byLt) ?_ | refine KD.y0 rfl rfl rfl rfl (Val.eqlBs rfl rfl) ?_ | refine KD.y0 rfl rfl rfl rfl (Val.isT (Val.eqlS rfl rfl) byLt) ?_ | refine KD.y0 rfl rfl rfl rfl (Val.isF (Val.eqlS rfl rfl) byLt) ?_ | refine KD.y0 rfl rfl rfl rfl (Val.eqlS rfl rfl) ?_)
  (first | refine KD.v0 rfl rfl (Val.pickT rfl rfl rfl) ?_ | refine KD.v0 rfl rfl (Val.pickF rfl rfl rfl) ?_ | refine KD.v0 rfl rfl (Val.pickB rfl rfl rfl) ?_)
  refine KD.v0 rfl rfl (Val.move rfl) ?_
  (first | refine KD.no rfl rfl rfl rfl rfl ?_ | refine KD.noU rfl rfl rfl rfl rfl ?_ | refine KD.y0 rfl rfl rfl rfl (Val.move rfl) ?_)
  (first | refine KD.no rfl rfl rfl rfl rfl ?_ | refine KD.noU rfl rfl rfl rfl rfl ?_ | refine KD.y0 rfl rfl rfl rfl (Val.idxB rfl rfl rfl (by assumption)) ?_ | refine KD.y0 rfl rfl rfl rfl (Val.idxBZ rfl rfl rfl (by omega) (by assumption)) ?_)
  (first | refine KD.no rfl rfl rfl rfl rfl ?_ | refine KD.noU rfl rfl rfl rfl rfl ?_ | refine KD.y0 rfl rfl rfl rfl (Val.isT (Val.eql rfl rfl) byLt) ?_ | refine KD.y0 rfl rfl rfl rfl (Val.isF (Val.eql rfl rfl) byLt) ?_ | refine KD.y0 rfl rfl rfl rfl (Val.eql rfl rfl) ?_)
  (first | refine KD.v0 rfl rfl (Val.pickT rfl rfl rfl) ?_ | refine KD.v0 rfl rfl (Val.pickF rfl rfl rfl) ?_ | refine KD.v0 rfl rfl (Val.pickB rfl rfl rfl) ?_)
  refine KD.v0 rfl rfl (Val.move rfl) ?_
  (first | refine KD.no rfl rfl rfl rfl rfl ?_ | refine KD.noU rfl rfl rfl rfl rfl ?_ | refine KD.y0 rfl rfl rfl rfl (Val.move rfl) ?_)
  (first | refine KD.no rfl rfl rfl rfl rfl ?_ | refine KD.noU rfl rfl rfl rfl rfl ?_ | refine KD.y0 rfl rfl rfl rfl (Val.isT (Val.eql rfl rfl) byLt) ?_ | refine KD.y0 rfl rfl rfl rfl (Val.isF (Val.eql rfl rfl) byLt) ?_ | refine KD.y0 rfl rfl rfl rfl (Val.eql rfl rfl) ?_)
  (first | refine KD.v0 rfl rfl (Val.pickT rfl rfl rfl) ?_ | refine KD.v0 rfl rfl (Val.pickF rfl rfl rfl) ?_ | refine KD.v0 rfl rfl (Val.pickB rfl rfl rfl) ?_)
  refine KD.v0 rfl rfl (Val.move rfl) ?_
  (first | refine KD.no rfl rfl rfl rfl rfl ?_ | refine KD.noU rfl rfl rfl rfl rfl ?_ | refine KD.y1 rfl rfl rfl rfl (Val.move rfl) ?_)
  (first | refine KD.no rfl rfl rfl rfl rfl ?_ | refine KD.noU rfl rfl rfl rfl rfl ?_ | refine KD.y1 rfl rfl rfl rfl (Val.loadAP rfl rfl rfl bySeeA) ?_ | refine KD.y1 rfl rfl rfl rfl (Val.loadA rfl rfl rfl bySeeN) ?_)
  (first | refine KD.no rfl rfl rfl rfl rfl ?_ | refine KD.noU rfl rfl rfl rfl rfl ?_ | refine KD.y1 rfl rfl rfl rfl (Val.build byParts rfl rfl byFill) ?_)
  -- FORK at region 8: ((24, 3) :: (27, 2) :: (28, 2) :: (29, 0) :: (30, 0) :: (31, 1) :: (32, 3) :: (33, 2) :: (34, 2) :: (35, 0) :: (36, 0) :: (37, 0) :: (38, 0) :: (39, 0) :: (40, 0) :: (41, 0) :: (42, 0) :: (43, 0) :: (44, 0) :: (45, 0) :: (46, 0) :: (47, 0) :: (48, 0) :: (49, 0) :: (50, 0) :: (51, 1) :: (52, 0) :: (53, 0) :: (54, 0) :: (55, 0) :: (56, 2) :: (57, 2) :: (58, 0) :: (59, 0) :: [])
  refine KD.fork2 (x := 24) (y := 27) (o1 := ((27, 2) :: (28, 2) :: (29, 0) :: (30, 0) :: (31, 1) :: (32, 3) :: (33, 2) :: (34, 2) :: (35, 0) :: (36, 0) :: (37, 0) :: (38, 0) :: (39, 0) :: (40, 0) :: (41, 0) :: (42, 0) :: (43, 0) :: (44, 0) :: (45, 0) :: (46, 0) :: (47, 0) :: (48, 0) :: (49, 0) :: (50, 0) :: (51, 1) :: (52, 0) :: (53, 0) :: (54, 0) :: (55, 0) :: (56, 2) :: (57, 2) :: (58, 0) :: (59, 0) :: [])) (o2 := ((24, 2) :: (28, 2) :: (29, 0) :: (30, 0) :: (31, 1) :: (32, 3) :: (33, 2) :: (34, 2) :: (35, 0) :: (36, 0) :: (37, 0) :: (38, 0) :: (39, 0) :: (40, 0) :: (41, 0) :: (42, 0) :: (43, 0) :: (44, 0) :: (45, 0) :: (46, 0) :: (47, 0) :: (48, 0) :: (49, 0) :: (50, 0) :: (51, 1) :: (52, 0) :: (53, 0) :: (54, 0) :: (55, 0) :: (56, 2) :: (57, 2) :: (58, 0) :: (59, 0) :: [])) (by kernel_rfl) rfl rfl (by kernel_rfl) (by kernel_rfl) ?_ ?_
  · refine ActK.callcY rfl rfl rfl rfl byEvL fun T hT => ?_
    refine (CallV.pure fun w hw => CallV.fn (Of_K (Sli.blk (xs := lA) byTake rfl (by decide) (by decide) rfl w hw) (by decide) 3)).mono ?_
    rintro _ _ ⟨_, ⟨o2, ok2, rfl, rfl⟩, rfl⟩
    refine hT _ _ byPart ?_; clear hT; clear T
    (first | refine KD.noA rfl rfl rfl rfl ?_ | refine KD.noUA rfl rfl rfl rfl ?_ | (refine KD.eY rfl rfl rfl rfl (Eff.buildS byParts rfl rfl rfl rfl rfl byFill) ?_; rintro _ _ ⟨b74, rfl, rfl⟩; refine ⟨byPart, ?_⟩))
    refine KD.callcY rfl rfl rfl rfl rfl byEvL fun T hT => ?_
    refine (CallV.pure fun w hw => CallV.fn (Same_K (Sli.own byTakeL ok2 rfl w hw) (Sli.blk (xs := [sA, seen0]) byTake rfl (by decide) (by decide) rfl w hw))).mono ?_
    rintro _ _ ⟨_, ⟨rfl, rfl⟩, rfl⟩
    refine hT _ _ byPart ?_; clear hT; clear T
    rw [e1]
    (first | refine KD.v0 rfl rfl (Val.pickT rfl rfl rfl) ?_ | refine KD.v0 rfl rfl (Val.pickF rfl rfl rfl) ?_ | refine KD.v0 rfl rfl (Val.pickB rfl rfl rfl) ?_)
    refine KD.v0 rfl rfl (Val.move rfl) ?_
    (first | refine KD.no rfl rfl rfl rfl rfl ?_ | refine KD.noU rfl rfl rfl rfl rfl ?_ | refine KD.y1 rfl rfl rfl rfl (Val.move rfl) ?_)
    -- FORK at region 8: [(32, 3), (33, 2), (34, 2), (35, 0), (36, 0), (37, 0), (38, 0), (39, 0), (40, 0), (41, 0), (42, 0), (43, 0), (44, 0), (45, 0), (46, 0), (47, 0), (48, 0), (49, 0), (50, 0), (51, 1), (52, 0), (53, 0), (54, 0), (55, 0), (56, 2), (57, 2), (58, 0), (59, 0)]
    refine KD.fork2 (x := 32) (y := 33) (o1 := [(33, 2), (34, 2), (35, 0), (36, 0), (37, 0), (38, 0), (39, 0), (40, 0), (41, 0), (42, 0), (43, 0), (44, 0), (45, 0), (46, 0), (47, 0), (48, 0), (49, 0), (50, 0), (51, 1), (52, 0), (53, 0), (54, 0), (55, 0), (56, 2), (57, 2), (58, 0), (59, 0)]) (o2 := [(32, 2), (34, 2), (35, 0), (36, 0), (37, 0), (38, 0), (39, 0), (40, 0), (41, 0), (42, 0), (43, 0), (44, 0), (45, 0), (46, 0), (47, 0), (48, 0), (49, 0), (50, 0), (51, 1), (52, 0), (53, 0), (54, 0), (55, 0), (56, 2), (57, 2), (58, 0), (59, 0)]) (by kernel_rfl) rfl rfl (by kernel_rfl) (by kernel_rfl) ?_ ?_
    · refine ActK.callcY rfl rfl rfl rfl byEvL fun T hT => ?_
      refine (CallV.pure fun w hw => CallV.fn (Tenants_K (Sli.blk (xs := lA) byTake rfl (by decide) (by decide) rfl w hw) (by decide))).mono ?_
      rintro _ _ ⟨_, ⟨o4, ok4, rfl, rfl⟩, rfl⟩
      refine hT _ _ byPart ?_; clear hT; clear T
      (first | refine KD.noA rfl rfl rfl rfl ?_ | refine KD.noUA rfl rfl rfl rfl ?_ | (refine KD.eY rfl rfl rfl rfl (Eff.buildS byParts rfl rfl rfl rfl rfl byFill) ?_; rintro _ _ ⟨b80, rfl, rfl⟩; refine ⟨byPart, ?_⟩))
      refine KD.callcY rfl rfl rfl rfl rfl byEvL fun T hT => ?_
      refine (CallV.pure fun w hw => CallV.fn (SameInts_K (Sli.own byTakeL ok4 rfl w hw) (Sli.blk (xs := [3, 5]) byTake rfl (by decide) (by decide) rfl w hw))).mono ?_
      rintro _ _ ⟨_, ⟨rfl, rfl⟩, rfl⟩
      refine hT _ _ byPart ?_; clear hT; clear T
      rw [e2]
      (first | refine KD.v0 rfl rfl (Val.pickT rfl rfl rfl) ?_ | refine KD.v0 rfl rfl (Val.pickF rfl rfl rfl) ?_ | refine KD.v0 rfl rfl (Val.pickB rfl rfl rfl) ?_)
      refine KD.v0 rfl rfl (Val.move rfl) ?_
      (first | refine KD.no rfl rfl rfl rfl rfl ?_ | refine KD.noU rfl rfl rfl rfl rfl ?_ | refine KD.y0 rfl rfl rfl rfl (Val.move rfl) ?_)
      (first | refine KD.no rfl rfl rfl rfl rfl ?_ | refine KD.noU rfl rfl rfl rfl rfl ?_ | refine KD.y0 rfl rfl rfl rfl (Val.isT (Val.eql rfl rfl) byLt) ?_ | refine KD.y0 rfl rfl rfl rfl (Val.isF (Val.eql rfl rfl) byLt) ?_ | refine KD.y0 rfl rfl rfl rfl (Val.eql rfl rfl) ?_)
      (first | refine KD.v0 rfl rfl (Val.pickT rfl rfl rfl) ?_ | refine KD.v0 rfl rfl (Val.pickF rfl rfl rfl) ?_ | refine KD.v0 rfl rfl (Val.pickB rfl rfl rfl) ?_)
      refine KD.v0 rfl rfl (Val.move rfl) ?_
      (first | refine KD.no rfl rfl rfl rfl rfl ?_ | refine KD.noU rfl rfl rfl rfl rfl ?_ | refine KD.y0 rfl rfl rfl rfl (Val.move rfl) ?_)
      (first | refine KD.v0 rfl rfl (Val.pickT rfl rfl rfl) ?_ | refine KD.v0 rfl rfl (Val.pickF rfl rfl rfl) ?_ | refine KD.v0 rfl rfl (Val.pickB rfl rfl rfl) ?_)
      refine KD.v0 rfl rfl (Val.move rfl) ?_
      (first | refine KD.no rfl rfl rfl rfl rfl ?_ | refine KD.noU rfl rfl rfl rfl rfl ?_ | refine KD.y0 rfl rfl rfl rfl (Val.move rfl) ?_)
      (first | refine KD.no rfl rfl rfl rfl rfl ?_ | refine KD.noU rfl rfl rfl rfl rfl ?_ | refine KD.y0 rfl rfl rfl rfl (Val.isT (Val.eql rfl rfl) byLt) ?_ | refine KD.y0 rfl rfl rfl rfl (Val.isF (Val.eql rfl rfl) byLt) ?_ | refine KD.y0 rfl rfl rfl rfl (Val.eql rfl rfl) ?_)
      (first | refine KD.v0 rfl rfl (Val.pickT rfl rfl rfl) ?_ | refine KD.v0 rfl rfl (Val.pickF rfl rfl rfl) ?_ | refine KD.v0 rfl rfl (Val.pickB rfl rfl rfl) ?_)
      refine KD.v0 rfl rfl (Val.move rfl) ?_
      (first | refine KD.no rfl rfl rfl rfl rfl ?_ | refine KD.noU rfl rfl rfl rfl rfl ?_ | refine KD.y0 rfl rfl rfl rfl (Val.move rfl) ?_)
      (first | refine KD.v0 rfl rfl (Val.pickT rfl rfl rfl) ?_ | refine KD.v0 rfl rfl (Val.pickF rfl rfl rfl) ?_ | refine KD.v0 rfl rfl (Val.pickB rfl rfl rfl) ?_)
      refine KD.v0 rfl rfl (Val.move rfl) ?_
      (first | refine KD.no rfl rfl rfl rfl rfl ?_ | refine KD.noU rfl rfl rfl rfl rfl ?_ | refine KD.y1 rfl rfl rfl rfl (Val.move rfl) ?_)
      (first | refine KD.no rfl rfl rfl rfl rfl ?_ | refine KD.noU rfl rfl rfl rfl rfl ?_ | refine KD.y0 rfl rfl rfl rfl (Val.build byParts rfl rfl byFill) ?_)
      (first | refine KD.no rfl rfl rfl rfl rfl ?_ | refine KD.noU rfl rfl rfl rfl rfl ?_ | refine KD.y0 rfl rfl rfl rfl (Val.loadAP rfl rfl rfl bySeeA) ?_ | refine KD.y0 rfl rfl rfl rfl (Val.loadA rfl rfl rfl bySeeN) ?_)
      (first | refine KD.no rfl rfl rfl rfl rfl ?_ | refine KD.noU rfl rfl rfl rfl rfl ?_ | refine KD.y0 rfl rfl rfl rfl (Val.build byParts rfl rfl byFill) ?_)
      (first | refine KD.no rfl rfl rfl rfl rfl ?_ | refine KD.noU rfl rfl rfl rfl rfl ?_ | refine KD.y0 rfl rfl rfl rfl (Val.build byParts rfl rfl byFill) ?_)
      (first | refine KD.noA rfl rfl rfl rfl ?_ | refine KD.noUA rfl rfl rfl rfl ?_ | (refine KD.eY rfl rfl rfl rfl (Eff.buildS byParts rfl rfl rfl rfl rfl byFill) ?_; rintro _ _ ⟨b103, rfl, rfl⟩; refine ⟨byPart, ?_⟩))
      refine KD.callcY rfl rfl rfl rfl rfl byEvL fun T hT => ?_
      refine (CallV.pure fun w hw => CallV.fn (SameWatched_K (Sli.own byTakeL ok3 rfl w hw) (Sli.blk (xs := mA) byTake rfl (by decide) (by decide) rfl w hw))).mono ?_
      rintro _ _ ⟨_, ⟨rfl, rfl⟩, rfl⟩
      refine hT _ _ byPart ?_; clear hT; clear T
      rw [e3]
      (first | refine KD.v0 rfl rfl (Val.pickT rfl rfl rfl) ?_ | refine KD.v0 rfl rfl (Val.pickF rfl rfl rfl) ?_ | refine KD.v0 rfl rfl (Val.pickB rfl rfl rfl) ?_)
      refine KD.v0 rfl rfl (Val.assign rfl) ?_
      refine KD.nil ?_
      refine byCode ?_
      exact KE.fin byMarks rfl byRes byPart ⟨rfl, rfl⟩
    · (refine ActK.eY rfl rfl rfl (Eff.buildS byParts rfl rfl rfl rfl rfl byFill) ?_; rintro _ _ ⟨b80, rfl, rfl⟩; refine ⟨byPart, ?_⟩)
      refine KD.callcY rfl rfl rfl rfl rfl byEvL fun T hT => ?_
      refine (CallV.pure fun w hw => CallV.fn (Tenants_K (Sli.blk (xs := lA) byTake rfl (by decide) (by decide) rfl w hw) (by decide))).mono ?_
      rintro _ _ ⟨_, ⟨o4, ok4, rfl, rfl⟩, rfl⟩
      refine hT _ _ byPart ?_; clear hT; clear T
      refine KD.callcY rfl rfl rfl rfl rfl byEvL fun T hT => ?_
      refine (CallV.pure fun w hw => CallV.fn (SameInts_K (Sli.own byTakeL ok4 rfl w hw) (Sli.blk (xs := [3, 5]) byTake rfl (by decide) (by decide) rfl w hw))).mono ?_
      rintro _ _ ⟨_, ⟨rfl, rfl⟩, rfl⟩
      refine hT _ _ byPart ?_; clear hT; clear T
      rw [e2]
      (first | refine KD.v0 rfl rfl (Val.pickT rfl rfl rfl) ?_ | refine KD.v0 rfl rfl (Val.pickF rfl rfl rfl) ?_ | refine KD.v0 rfl rfl (Val.pickB rfl rfl rfl) ?_)
      refine KD.v0 rfl rfl (Val.move rfl) ?_
      (first | refine KD.no rfl rfl rfl rfl rfl ?_ | refine KD.noU rfl rfl rfl rfl rfl ?_ | refine KD.y0 rfl rfl rfl rfl (Val.move rfl) ?_)
      (first | refine KD.no rfl rfl rfl rfl rfl ?_ | refine KD.noU rfl rfl rfl rfl rfl ?_ | refine KD.y0 rfl rfl rfl rfl (Val.isT (Val.eql rfl rfl) byLt) ?_ | refine KD.y0 rfl rfl rfl rfl (Val.isF (Val.eql rfl rfl) byLt) ?_ | refine KD.y0 rfl rfl rfl rfl (Val.eql rfl rfl) ?_)
      (first | refine KD.v0 rfl rfl (Val.pickT rfl rfl rfl) ?_ | refine KD.v0 rfl rfl (Val.pickF rfl rfl rfl) ?_ | refine KD.v0 rfl rfl (Val.pickB rfl rfl rfl) ?_)
      refine KD.v0 rfl rfl (Val.move rfl) ?_
      (first | refine KD.no rfl rfl rfl rfl rfl ?_ | refine KD.noU rfl rfl rfl rfl rfl ?_ | refine KD.y0 rfl rfl rfl rfl (Val.move rfl) ?_)
      (first | refine KD.v0 rfl rfl (Val.pickT rfl rfl rfl) ?_ | refine KD.v0 rfl rfl (Val.pickF rfl rfl rfl) ?_ | refine KD.v0 rfl rfl (Val.pickB rfl rfl rfl) ?_)
      refine KD.v0 rfl rfl (Val.move rfl) ?_
      (first | refine KD.no rfl rfl rfl rfl rfl ?_ | refine KD.noU rfl rfl rfl rfl rfl ?_ | refine KD.y0 rfl rfl rfl rfl (Val.move rfl) ?_)
      (first | refine KD.no rfl rfl rfl rfl rfl ?_ | refine KD.noU rfl rfl rfl rfl rfl ?_ | refine KD.y0 rfl rfl rfl rfl (Val.isT (Val.eql rfl rfl) byLt) ?_ | refine KD.y0 rfl rfl rfl rfl (Val.isF (Val.eql rfl rfl) byLt) ?_ | refine KD.y0 rfl rfl rfl rfl (Val.eql rfl rfl) ?_)
      (first | refine KD.v0 rfl rfl (Val.pickT rfl rfl rfl) ?_ | refine KD.v0 rfl rfl (Val.pickF rfl rfl rfl) ?_ | refine KD.v0 rfl rfl (Val.pickB rfl rfl rfl) ?_)
      refine KD.v0 rfl rfl (Val.move rfl) ?_
      (first | refine KD.no rfl rfl rfl rfl rfl ?_ | refine KD.noU rfl rfl rfl rfl rfl ?_ | refine KD.y0 rfl rfl rfl rfl (Val.move rfl) ?_)
      (first | refine KD.v0 rfl rfl (Val.pickT rfl rfl rfl) ?_ | refine KD.v0 rfl rfl (Val.pickF rfl rfl rfl) ?_ | refine KD.v0 rfl rfl (Val.pickB rfl rfl rfl) ?_)
      refine KD.v0 rfl rfl (Val.move rfl) ?_
      (first | refine KD.no rfl rfl rfl rfl rfl ?_ | refine KD.noU rfl rfl rfl rfl rfl ?_ | refine KD.y1 rfl rfl rfl rfl (Val.move rfl) ?_)
      (first | refine KD.no rfl rfl rfl rfl rfl ?_ | refine KD.noU rfl rfl rfl rfl rfl ?_ | refine KD.y0 rfl rfl rfl rfl (Val.build byParts rfl rfl byFill) ?_)
      (first | refine KD.no rfl rfl rfl rfl rfl ?_ | refine KD.noU rfl rfl rfl rfl rfl ?_ | refine KD.y0 rfl rfl rfl rfl (Val.loadAP rfl rfl rfl bySeeA) ?_ | refine KD.y0 rfl rfl rfl rfl (Val.loadA rfl rfl rfl bySeeN) ?_)
      (first | refine KD.no rfl rfl rfl rfl rfl ?_ | refine KD.noU rfl rfl rfl rfl rfl ?_ | refine KD.y0 rfl rfl rfl rfl (Val.build byParts rfl rfl byFill) ?_)
      (first | refine KD.no rfl rfl rfl rfl rfl ?_ | refine KD.noU rfl rfl rfl rfl rfl ?_ | refine KD.y0 rfl rfl rfl rfl (Val.build byParts rfl rfl byFill) ?_)
      (first | refine KD.noA rfl rfl rfl rfl ?_ | refine KD.noUA rfl rfl rfl rfl ?_ | (refine KD.eY rfl rfl rfl rfl (Eff.buildS byParts rfl rfl rfl rfl rfl byFill) ?_; rintro _ _ ⟨b103, rfl, rfl⟩; refine ⟨byPart, ?_⟩))
      refine KD.callcY rfl rfl rfl rfl rfl byEvL fun T hT => ?_
      refine (CallV.pure fun w hw => CallV.fn (SameWatched_K (Sli.own byTakeL ok3 rfl w hw) (Sli.blk (xs := mA) byTake rfl (by decide) (by decide) rfl w hw))).mono ?_
      rintro _ _ ⟨_, ⟨rfl, rfl⟩, rfl⟩
      refine hT _ _ byPart ?_; clear hT; clear T
      rw [e3]
      (first | refine KD.v0 rfl rfl (Val.pickT rfl rfl rfl) ?_ | refine KD.v0 rfl rfl (Val.pickF rfl rfl rfl) ?_ | refine KD.v0 rfl rfl (Val.pickB rfl rfl rfl) ?_)
      refine KD.v0 rfl rfl (Val.assign rfl) ?_
      refine KD.nil ?_
      refine byCode ?_
      exact KE.fin byMarks rfl byRes byPart ⟨rfl, rfl⟩
  · (refine ActK.eY rfl rfl rfl (Eff.buildS byParts rfl rfl rfl rfl rfl byFill) ?_; rintro _ _ ⟨b74, rfl, rfl⟩; refine ⟨byPart, ?_⟩)
    refine KD.callcY rfl rfl rfl rfl rfl byEvL fun T hT => ?_
    refine (CallV.pure fun w hw => CallV.fn (Of_K (Sli.blk (xs := lA) byTake rfl (by decide) (by decide) rfl w hw) (by decide) 3)).mono ?_
    rintro _ _ ⟨_, ⟨o2, ok2, rfl, rfl⟩, rfl⟩
    refine hT _ _ byPart ?_; clear hT; clear T
    refine KD.callcY rfl rfl rfl rfl rfl byEvL fun T hT => ?_
    refine (CallV.pure fun w hw => CallV.fn (Same_K (Sli.own byTakeL ok2 rfl w hw) (Sli.blk (xs := [sA, seen0]) byTake rfl (by decide) (by decide) rfl w hw))).mono ?_
    rintro _ _ ⟨_, ⟨rfl, rfl⟩, rfl⟩
    refine hT _ _ byPart ?_; clear hT; clear T
    rw [e1]
    (first | refine KD.v0 rfl rfl (Val.pickT rfl rfl rfl) ?_ | refine KD.v0 rfl rfl (Val.pickF rfl rfl rfl) ?_ | refine KD.v0 rfl rfl (Val.pickB rfl rfl rfl) ?_)
    refine KD.v0 rfl rfl (Val.move rfl) ?_
    (first | refine KD.no rfl rfl rfl rfl rfl ?_ | refine KD.noU rfl rfl rfl rfl rfl ?_ | refine KD.y1 rfl rfl rfl rfl (Val.move rfl) ?_)
    -- FORK at region 8: [(32, 3), (33, 2), (34, 2), (35, 0), (36, 0), (37, 0), (38, 0), (39, 0), (40, 0), (41, 0), (42, 0), (43, 0), (44, 0), (45, 0), (46, 0), (47, 0), (48, 0), (49, 0), (50, 0), (51, 1), (52, 0), (53, 0), (54, 0), (55, 0), (56, 2), (57, 2), (58, 0), (59, 0)]
    refine KD.fork2 (x := 32) (y := 33) (o1 := [(33, 2), (34, 2), (35, 0), (36, 0), (37, 0), (38, 0), (39, 0), (40, 0), (41, 0), (42, 0), (43, 0), (44, 0), (45, 0), (46, 0), (47, 0), (48, 0), (49, 0), (50, 0), (51, 1), (52, 0), (53, 0), (54, 0), (55, 0), (56, 2), (57, 2), (58, 0), (59, 0)]) (o2 := [(32, 2), (34, 2), (35, 0), (36, 0), (37, 0), (38, 0), (39, 0), (40, 0), (41, 0), (42, 0), (43, 0), (44, 0), (45, 0), (46, 0), (47, 0), (48, 0), (49, 0), (50, 0), (51, 1), (52, 0), (53, 0), (54, 0), (55, 0), (56, 2), (57, 2), (58, 0), (59, 0)]) (by kernel_rfl) rfl rfl (by kernel_rfl) (by kernel_rfl) ?_ ?_
    · refine ActK.callcY rfl rfl rfl rfl byEvL fun T hT => ?_
      refine (CallV.pure fun w hw => CallV.fn (Tenants_K (Sli.blk (xs := lA) byTake rfl (by decide) (by decide) rfl w hw) (by decide))).mono ?_
      rintro _ _ ⟨_, ⟨o4, ok4, rfl, rfl⟩, rfl⟩
      refine hT _ _ byPart ?_; clear hT; clear T
      (first | refine KD.noA rfl rfl rfl rfl ?_ | refine KD.noUA rfl rfl rfl rfl ?_ | (refine KD.eY rfl rfl rfl rfl (Eff.buildS byParts rfl rfl rfl rfl rfl byFill) ?_; rintro _ _ ⟨b80, rfl, rfl⟩; refine ⟨byPart, ?_⟩))
      refine KD.callcY rfl rfl rfl rfl rfl byEvL fun T hT => ?_
      refine (CallV.pure fun w hw => CallV.fn (SameInts_K (Sli.own byTakeL ok4 rfl w hw) (Sli.blk (xs := [3, 5]) byTake rfl (by decide) (by decide) rfl w hw))).mono ?_
      rintro _ _ ⟨_, ⟨rfl, rfl⟩, rfl⟩
      refine hT _ _ byPart ?_; clear hT; clear T
      rw [e2]
      (first | refine KD.v0 rfl rfl (Val.pickT rfl rfl rfl) ?_ | refine KD.v0 rfl rfl (Val.pickF rfl rfl rfl) ?_ | refine KD.v0 rfl rfl (Val.pickB rfl rfl rfl) ?_)
      refine KD.v0 rfl rfl (Val.move rfl) ?_
      (first | refine KD.no rfl rfl rfl rfl rfl ?_ | refine KD.noU rfl rfl rfl rfl rfl ?_ | refine KD.y0 rfl rfl rfl rfl (Val.move rfl) ?_)
      (first | refine KD.no rfl rfl rfl rfl rfl ?_ | refine KD.noU rfl rfl rfl rfl rfl ?_ | refine KD.y0 rfl rfl rfl rfl (Val.isT (Val.eql rfl rfl) byLt) ?_ | refine KD.y0 rfl rfl rfl rfl (Val.isF (Val.eql rfl rfl) byLt) ?_ | refine KD.y0 rfl rfl rfl rfl (Val.eql rfl rfl) ?_)
      (first | refine KD.v0 rfl rfl (Val.pickT rfl rfl rfl) ?_ | refine KD.v0 rfl rfl (Val.pickF rfl rfl rfl) ?_ | refine KD.v0 rfl rfl (Val.pickB rfl rfl rfl) ?_)
      refine KD.v0 rfl rfl (Val.move rfl) ?_
      (first | refine KD.no rfl rfl rfl rfl rfl ?_ | refine KD.noU rfl rfl rfl rfl rfl ?_ | refine KD.y0 rfl rfl rfl rfl (Val.move rfl) ?_)
      (first | refine KD.v0 rfl rfl (Val.pickT rfl rfl rfl) ?_ | refine KD.v0 rfl rfl (Val.pickF rfl rfl rfl) ?_ | refine KD.v0 rfl rfl (Val.pickB rfl rfl rfl) ?_)
      refine KD.v0 rfl rfl (Val.move rfl) ?_
      (first | refine KD.no rfl rfl rfl rfl rfl ?_ | refine KD.noU rfl rfl rfl rfl rfl ?_ | refine KD.y0 rfl rfl rfl rfl (Val.move rfl) ?_)
      (first | refine KD.no rfl rfl rfl rfl rfl ?_ | refine KD.noU rfl rfl rfl rfl rfl ?_ | refine KD.y0 rfl rfl rfl rfl (Val.isT (Val.eql rfl rfl) byLt) ?_ | refine KD.y0 rfl rfl rfl rfl (Val.isF (Val.eql rfl rfl) byLt) ?_ | refine KD.y0 rfl rfl rfl rfl (Val.eql rfl rfl) ?_)
      (first | refine KD.v0 rfl rfl (Val.pickT rfl rfl rfl) ?_ | refine KD.v0 rfl rfl (Val.pickF rfl rfl rfl) ?_ | refine KD.v0 rfl rfl (Val.pickB rfl rfl rfl) ?_)
      refine KD.v0 rfl rfl (Val.move rfl) ?_
      (first | refine KD.no rfl rfl rfl rfl rfl ?_ | refine KD.noU rfl rfl rfl rfl rfl ?_ | refine KD.y0 rfl rfl rfl rfl (Val.move rfl) ?_)
      (first | refine KD.v0 rfl rfl (Val.pickT rfl rfl rfl) ?_ | refine KD.v0 rfl rfl (Val.pickF rfl rfl rfl) ?_ | refine KD.v0 rfl rfl (Val.pickB rfl rfl rfl) ?_)
      refine KD.v0 rfl rfl (Val.move rfl) ?_
      (first | refine KD.no rfl rfl rfl rfl rfl ?_ | refine KD.noU rfl rfl rfl rfl rfl ?_ | refine KD.y1 rfl rfl rfl rfl (Val.move rfl) ?_)
      (first | refine KD.no rfl rfl rfl rfl rfl ?_ | refine KD.noU rfl rfl rfl rfl rfl ?_ | refine KD.y0 rfl rfl rfl rfl (Val.build byParts rfl rfl byFill) ?_)
      (first | refine KD.no rfl rfl rfl rfl rfl ?_ | refine KD.noU rfl rfl rfl rfl rfl ?_ | refine KD.y0 rfl rfl rfl rfl (Val.loadAP rfl rfl rfl bySeeA) ?_ | refine KD.y0 rfl rfl rfl rfl (Val.loadA rfl rfl rfl bySeeN) ?_)
      (first | refine KD.no rfl rfl rfl rfl rfl ?_ | refine KD.noU rfl rfl rfl rfl rfl ?_ | refine KD.y0 rfl rfl rfl rfl (Val.build byParts rfl rfl byFill) ?_)
      (first | refine KD.no rfl rfl rfl rfl rfl ?_ | refine KD.noU rfl rfl rfl rfl rfl ?_ | refine KD.y0 rfl rfl rfl rfl (Val.build byParts rfl rfl byFill) ?_)
      (first | refine KD.noA rfl rfl rfl rfl ?_ | refine KD.noUA rfl rfl rfl rfl ?_ | (refine KD.eY rfl rfl rfl rfl (Eff.buildS byParts rfl rfl rfl rfl rfl byFill) ?_; rintro _ _ ⟨b103, rfl, rfl⟩; refine ⟨byPart, ?_⟩))
      refine KD.callcY rfl rfl rfl rfl rfl byEvL fun T hT => ?_
      refine (CallV.pure fun w hw => CallV.fn (SameWatched_K (Sli.own byTakeL ok3 rfl w hw) (Sli.blk (xs := mA) byTake rfl (by decide) (by decide) rfl w hw))).mono ?_
      rintro _ _ ⟨_, ⟨rfl, rfl⟩, rfl⟩
      refine hT _ _ byPart ?_; clear hT; clear T
      rw [e3]
      (first | refine KD.v0 rfl rfl (Val.pickT rfl rfl rfl) ?_ | refine KD.v0 rfl rfl (Val.pickF rfl rfl rfl) ?_ | refine KD.v0 rfl rfl (Val.pickB rfl rfl rfl) ?_)
      refine KD.v0 rfl rfl (Val.assign rfl) ?_
      refine KD.nil ?_
      refine byCode ?_
      exact KE.fin byMarks rfl byRes byPart ⟨rfl, rfl⟩
    · (refine ActK.eY rfl rfl rfl (Eff.buildS byParts rfl rfl rfl rfl rfl byFill) ?_; rintro _ _ ⟨b80, rfl, rfl⟩; refine ⟨byPart, ?_⟩)
      refine KD.callcY rfl rfl rfl rfl rfl byEvL fun T hT => ?_
      refine (CallV.pure fun w hw => CallV.fn (Tenants_K (Sli.blk (xs := lA) byTake rfl (by decide) (by decide) rfl w hw) (by decide))).mono ?_
      rintro _ _ ⟨_, ⟨o4, ok4, rfl, rfl⟩, rfl⟩
      refine hT _ _ byPart ?_; clear hT; clear T
      refine KD.callcY rfl rfl rfl rfl rfl byEvL fun T hT => ?_
      refine (CallV.pure fun w hw => CallV.fn (SameInts_K (Sli.own byTakeL ok4 rfl w hw) (Sli.blk (xs := [3, 5]) byTake rfl (by decide) (by decide) rfl w hw))).mono ?_
      rintro _ _ ⟨_, ⟨rfl, rfl⟩, rfl⟩
      refine hT _ _ byPart ?_; clear hT; clear T
      rw [e2]
      (first | refine KD.v0 rfl rfl (Val.pickT rfl rfl rfl) ?_ | refine KD.v0 rfl rfl (Val.pickF rfl rfl rfl) ?_ | refine KD.v0 rfl rfl (Val.pickB rfl rfl rfl) ?_)
      refine KD.v0 rfl rfl (Val.move rfl) ?_
      (first | refine KD.no rfl rfl rfl rfl rfl ?_ | refine KD.noU rfl rfl rfl rfl rfl ?_ | refine KD.y0 rfl rfl rfl rfl (Val.move rfl) ?_)
      (first | refine KD.no rfl rfl rfl rfl rfl ?_ | refine KD.noU rfl rfl rfl rfl rfl ?_ | refine KD.y0 rfl rfl rfl rfl (Val.isT (Val.eql rfl rfl) byLt) ?_ | refine KD.y0 rfl rfl rfl rfl (Val.isF (Val.eql rfl rfl) byLt) ?_ | refine KD.y0 rfl rfl rfl rfl (Val.eql rfl rfl) ?_)
      (first | refine KD.v0 rfl rfl (Val.pickT rfl rfl rfl) ?_ | refine KD.v0 rfl rfl (Val.pickF rfl rfl rfl) ?_ | refine KD.v0 rfl rfl (Val.pickB rfl rfl rfl) ?_)
      refine KD.v0 rfl rfl (Val.move rfl) ?_
      (first | refine KD.no rfl rfl rfl rfl rfl ?_ | refine KD.noU rfl rfl rfl rfl rfl ?_ | refine KD.y0 rfl rfl rfl rfl (Val.move rfl) ?_)
      (first | refine KD.v0 rfl rfl (Val.pickT rfl rfl rfl) ?_ | refine KD.v0 rfl rfl (Val.pickF rfl rfl rfl) ?_ | refine KD.v0 rfl rfl (Val.pickB rfl rfl rfl) ?_)
      refine KD.v0 rfl rfl (Val.move rfl) ?_
      (first | refine KD.no rfl rfl rfl rfl rfl ?_ | refine KD.noU rfl rfl rfl rfl rfl ?_ | refine KD.y0 rfl rfl rfl rfl (Val.move rfl) ?_)
      (first | refine KD.no rfl rfl rfl rfl rfl ?_ | refine KD.noU rfl rfl rfl rfl rfl ?_ | refine KD.y0 rfl rfl rfl rfl (Val.isT (Val.eql rfl rfl) byLt) ?_ | refine KD.y0 rfl rfl rfl rfl (Val.isF (Val.eql rfl rfl) byLt) ?_ | refine KD.y0 rfl rfl rfl rfl (Val.eql rfl rfl) ?_)
      (first | refine KD.v0 rfl rfl (Val.pickT rfl rfl rfl) ?_ | refine KD.v0 rfl rfl (Val.pickF rfl rfl rfl) ?_ | refine KD.v0 rfl rfl (Val.pickB rfl rfl rfl) ?_)
      refine KD.v0 rfl rfl (Val.move rfl) ?_
      (first | refine KD.no rfl rfl rfl rfl rfl ?_ | refine KD.noU rfl rfl rfl rfl rfl ?_ | refine KD.y0 rfl rfl rfl rfl (Val.move rfl) ?_)
      (first | refine KD.v0 rfl rfl (Val.pickT rfl rfl rfl) ?_ | refine KD.v0 rfl rfl (Val.pickF rfl rfl rfl) ?_ | refine KD.v0 rfl rfl (Val.pickB rfl rfl rfl) ?_)
      refine KD.v0 rfl rfl (Val.move rfl) ?_
      (first | refine KD.no rfl rfl rfl rfl rfl ?_ | refine KD.noU rfl rfl rfl rfl rfl ?_ | refine KD.y1 rfl rfl rfl rfl (Val.move rfl) ?_)
      (first | refine KD.no rfl rfl rfl rfl rfl ?_ | refine KD.noU rfl rfl rfl rfl rfl ?_ | refine KD.y0 rfl rfl rfl rfl (Val.build byParts rfl rfl byFill) ?_)
      (first | refine KD.no rfl rfl rfl rfl rfl ?_ | refine KD.noU rfl rfl rfl rfl rfl ?_ | refine KD.y0 rfl rfl rfl rfl (Val.loadAP rfl rfl rfl bySeeA) ?_ | refine KD.y0 rfl rfl rfl rfl (Val.loadA rfl rfl rfl bySeeN) ?_)
      (first | refine KD.no rfl rfl rfl rfl rfl ?_ | refine KD.noU rfl rfl rfl rfl rfl ?_ | refine KD.y0 rfl rfl rfl rfl (Val.build byParts rfl rfl byFill) ?_)
      (first | refine KD.no rfl rfl rfl rfl rfl ?_ | refine KD.noU rfl rfl rfl rfl rfl ?_ | refine KD.y0 rfl rfl rfl rfl (Val.build byParts rfl rfl byFill) ?_)
      (first | refine KD.noA rfl rfl rfl rfl ?_ | refine KD.noUA rfl rfl rfl rfl ?_ | (refine KD.eY rfl rfl rfl rfl (Eff.buildS byParts rfl rfl rfl rfl rfl byFill) ?_; rintro _ _ ⟨b103, rfl, rfl⟩; refine ⟨byPart, ?_⟩))
      refine KD.callcY rfl rfl rfl rfl rfl byEvL fun T hT => ?_
      refine (CallV.pure fun w hw => CallV.fn (SameWatched_K (Sli.own byTakeL ok3 rfl w hw) (Sli.blk (xs := mA) byTake rfl (by decide) (by decide) rfl w hw))).mono ?_
      rintro _ _ ⟨_, ⟨rfl, rfl⟩, rfl⟩
      refine hT _ _ byPart ?_; clear hT; clear T
      rw [e3]
      (first | refine KD.v0 rfl rfl (Val.pickT rfl rfl rfl) ?_ | refine KD.v0 rfl rfl (Val.pickF rfl rfl rfl) ?_ | refine KD.v0 rfl rfl (Val.pickB rfl rfl rfl) ?_)
      refine KD.v0 rfl rfl (Val.assign rfl) ?_
      refine KD.nil ?_
      refine byCode ?_
      exact KE.fin byMarks rfl byRes byPart ⟨rfl, rfl⟩
end Go.Proofs.Ytdkanfjpdnjhcaa
