/- Sequences of steps of the walker, each a theorem with a default proof. -/
import Derived.Test.YtalholahapcpkaaGreatDoorJ20
namespace Go.Proofs.YtalholahapcpkaaGreatDoor
structure Hid (P : Prop) : Prop where
 out : P
set_option linter.unusedVariables false
variable {G G' : Prop}
theorem zq (k : G') (h : Hid G' → G := by intro zk0; refine K.seq (K.region ?_); exact zk0.1) : G := h ⟨k⟩
theorem zA (k : G') (h : Hid G' → G := by intro zk0; refine KL.v rfl (Val.assign rfl) ?_; exact zk0.1) : G := h ⟨k⟩
theorem zbM (k : G') (h : Hid G' → G := by intro zk0; refine KL.nil (KE.next (K.seq (K.seq (K.region ?_)))); exact zk0.1) : G := h ⟨k⟩
theorem zf (k : G') (h : Hid G' → G := by intro zk0; refine KL.v rfl (Val.move rfl) ?_; exact zk0.1) : G := h ⟨k⟩
theorem zH (k : G') (h : Hid G' → G := by intro zk0; refine KL.v rfl (Val.isF (Val.eql rfl rfl) byLt) ?_; exact zk0.1) : G := h ⟨k⟩
theorem zd9 (k : G') (h : Hid G' → G := by intro zk0; refine KL.nil (KE.next (K.condF rfl (K.skip (KE.next ?_)))); exact zk0.1) : G := h ⟨k⟩
theorem zau (k : G') (h : Hid G' → G := by intro zk0; refine byCode ?_; exact zk0.1) : G := h ⟨k⟩
theorem zgL (k : G') (h : Hid G' → G := by intro zk0; refine KL.v rfl (Val.and rfl rfl) ?_; exact zk0.1) : G := h ⟨k⟩
theorem zcZ (k : G') (h : Hid G' → G := by intro zk0; refine KL.v rfl (Val.shr rfl rfl (by omega)) ?_; exact zk0.1) : G := h ⟨k⟩
theorem zc0 (k : G') (h : Hid G' → G := by intro zk0; refine KL.v rfl (Val.loadP rfl rfl bySee) ?_; exact zk0.1) : G := h ⟨k⟩
theorem zbX (k : G') (h : Hid G' → G := by intro zk0; refine KL.v rfl (Val.conv rfl rfl rfl (by simp only [qL, qH]; omega)) ?_; exact zk0.1) : G := h ⟨k⟩
theorem zb9 (k : G') (h : Hid G' → G := by intro zk0; refine KL.nil (KE.next ?_); exact zk0.1) : G := h ⟨k⟩
theorem zea (k : G') (h : Hid G' → G := by intro zk0; refine K.ret ?_; exact zk0.1) : G := h ⟨k⟩
theorem zaU (h : G := by exact KE.fin byMarks rfl byRes byPart ⟨rfl, rfl⟩) : G := h
theorem zbN (k : G') (h : Hid G' → G := by intro zk0; (first | (refine KL.v rfl (Val.loadP rfl rfl bySee) ?_) | (refine KL.v rfl (Val.loadP rfl rfl (Sees.more (by assumption) byPart)) ?_)); exact zk0.1) : G := h ⟨k⟩
theorem ziJ (k : G') (h : Hid G' → G := by intro zk0; (first | (refine KL.v rfl (Val.remN rfl rfl (by omega)) ?_) | (refine KL.v rfl (Val.rem rfl rfl (by omega)) ?_)); exact zk0.1) : G := h ⟨k⟩
theorem ziK (k : G') (h : Hid G' → G := by intro zk0; refine KL.v rfl (Val.shl rfl rfl (by omega)) ?_; exact zk0.1) : G := h ⟨k⟩
theorem zhQ (k : G') (h : Hid G' → G := by intro zk0; (first | (refine KL.v rfl (Val.sub rfl rfl (by simp only [qL, qH]; omega)) ?_) | (refine KL.v rfl (Val.subW rfl rfl) ?_)); exact zk0.1) : G := h ⟨k⟩
theorem zhf (k : G') (h : Hid G' → G := by intro zk0; refine KL.nil (KE.next (K.block ?_)); exact zk0.1) : G := h ⟨k⟩
theorem zc1 (k : G') (h : Hid G' → G := by intro zk0; refine K.seq (K.seq (K.region ?_)); exact zk0.1) : G := h ⟨k⟩
theorem zk (k : G') (h : Hid G' → G := by intro zk0; refine KL.v rfl (Val.loadP rfl rfl (Sees.cell byTake rfl)) ?_; exact zk0.1) : G := h ⟨k⟩
theorem zac (k : G') (h : Hid G' → G := by intro zk0; refine KL.v rfl (Val.nilCheck rfl) ?_; exact zk0.1) : G := h ⟨k⟩
theorem zaM (k : G') (h : Hid G' → G := by intro zk0; refine KL.v rfl (Val.fieldAddr0 (k := 0) rfl rfl) ?_; exact zk0.1) : G := h ⟨k⟩
theorem za6 (k : G') (h : Hid G' → G := by intro zk0; refine KL.v rfl (Val.lenSl rfl rfl (Sli.own byTakeL (by assumption) byLen)) ?_; exact zk0.1) : G := h ⟨k⟩
theorem zE (k : G') (h : Hid G' → G := by intro zk0; refine KL.v rfl (Val.isT (Val.lss rfl rfl) byLt) ?_; exact zk0.1) : G := h ⟨k⟩
theorem zo (k : G') (h : Hid G' → G := by intro zk0; refine KD.v0 rfl rfl (Val.move rfl) ?_; exact zk0.1) : G := h ⟨k⟩
theorem zx (k : G') (h : Hid G' → G := by intro zk0; refine KD.v0 rfl rfl (Val.loadP rfl rfl (Sees.cell byTake rfl)) ?_; exact zk0.1) : G := h ⟨k⟩
theorem zca (k : G') (h : Hid G' → G := by intro zk0; refine KD.v0 rfl rfl (Val.nilCheck rfl) ?_; exact zk0.1) : G := h ⟨k⟩
theorem zaV (k : G') (h : Hid G' → G := by intro zk0; refine KD.v0 rfl rfl (Val.fieldAddr0 (k := 0) rfl rfl) ?_; exact zk0.1) : G := h ⟨k⟩
theorem zdD (k : G') (h : Hid G' → G := by intro zk0; refine KD.v0 rfl rfl (Val.idxSl rfl rfl rfl (Sli.own byTakeL (by assumption) byLen) rfl byLt) ?_; exact zk0.1) : G := h ⟨k⟩
theorem zdE (k : G') (h : Hid G' → G := by intro zk0; refine KD.v0 rfl rfl (Val.loadP rfl rfl (Sees.sl0 (Sli.own byTakeL (by assumption) byLen) (by assumption) rfl)) ?_; exact zk0.1) : G := h ⟨k⟩
theorem zl (k : G') (h : Hid G' → G := by intro zk0; refine KD.callc rfl rfl rfl byEvL ?_; exact zk0.1) : G := h ⟨k⟩
theorem zi (k : G') (h : Hid G' → G := by intro zk0; refine hT _ _ byPart ?_; exact zk0.1) : G := h ⟨k⟩
theorem zV (k : G') (h : Hid G' → G := by intro zk0; refine KD.nil ?_; exact zk0.1) : G := h ⟨k⟩
theorem zap (k : G') (h : Hid G' → G := by intro zk0; refine KL.nil ?_; exact zk0.1) : G := h ⟨k⟩
theorem zbY (k : G') (h : Hid G' → G := by intro zk0; refine KE.blkN ?_; exact zk0.1) : G := h ⟨k⟩
theorem zhR (k : G') (h : Hid G' → G := by intro zk0; refine KE.next (K.region ?_); exact zk0.1) : G := h ⟨k⟩
theorem zQ (k : G') (h : Hid G' → G := by intro zk0; refine KL.v rfl (Val.add rfl rfl (by simp only [qL, qH]; omega)) ?_; exact zk0.1) : G := h ⟨k⟩
theorem zgM (k : G') (h : Hid G' → G := by intro zk0; refine KD.v0 rfl rfl (Val.notF rfl) ?_; exact zk0.1) : G := h ⟨k⟩
theorem zaH (k : G') (h : Hid G' → G := by intro zk0; refine KE.passR ?_; exact zk0.1) : G := h ⟨k⟩
theorem zfV (k : G') (h : Hid G' → G := by intro zk0; refine KE.blkR ?_; exact zk0.1) : G := h ⟨k⟩
theorem zR (k : G') (h : Hid G' → G := by intro zk0; refine KL.v rfl (Val.isF (Val.lss rfl rfl) byLt) ?_; exact zk0.1) : G := h ⟨k⟩
theorem zl3 (k : G') (h : Hid G' → G := by intro zk0; refine KL.nil (KE.next (K.condF rfl ?_)); exact zk0.1) : G := h ⟨k⟩
theorem zl4 (k : G') (h : Hid G' → G := by intro zk0; refine K.exit ?_; exact zk0.1) : G := h ⟨k⟩
theorem zk6 (k : G') (h : Hid G' → G := by intro zk0; refine KE.passX ?_; exact zk0.1) : G := h ⟨k⟩
theorem ziL (k : G') (h : Hid G' → G := by intro zk0; refine KE.blkX ?_; exact zk0.1) : G := h ⟨k⟩
theorem zeW (k : G') (h : Hid G' → G := by intro zk0; refine KL.e rfl (Eff.box rfl rfl) ?_; rintro _ _ ⟨v0, rfl, rfl⟩; revert v0; exact zk0.1) : G := h ⟨k⟩
theorem zy (k : G') (h : Hid G' → G := by intro zk0; refine KL.nil (KE.next (K.seq (K.region ?_))); exact zk0.1) : G := h ⟨k⟩
theorem ziM (k : G') (h : Hid G' → G := by intro zk0; refine KL.v rfl (Val.makeFunc byEvL byEvL) ?_; exact zk0.1) : G := h ⟨k⟩
theorem zaI (k : G') (h : Hid G' → G := by intro zk0; refine KL.e rfl (Eff.alloc rfl) ?_; rintro _ _ ⟨v0, rfl, rfl⟩; revert v0; exact zk0.1) : G := h ⟨k⟩
theorem zbz (k : G') (h : Hid G' → G := by intro zk0; refine KL.nil (KE.next (K.condT rfl (K.region ?_))); exact zk0.1) : G := h ⟨k⟩
theorem zgN (h : G := by exact KE.meet () bySub byPart trivial) : G := h
theorem za7 (k : G') (h : Hid G' → G := by intro zk0; refine KL.nil (KE.next (K.condF rfl (K.skip ?_))); exact zk0.1) : G := h ⟨k⟩
theorem zg (k : G') (h : Hid G' → G := by intro zk0; refine KL.callc rfl rfl byEvL ?_; exact zk0.1) : G := h ⟨k⟩
theorem zS (k : G') (h : Hid G' → G := by intro zk0; rintro _ _ ⟨rfl, rfl⟩; exact zk0.1) : G := h ⟨k⟩
theorem zd (k : G') (h : Hid G' → G := by intro zk0; refine hT _ _ ?_; exact zk0.1) : G := h ⟨k⟩
theorem zF (k : G') (h : Hid G' → G := by intro zk0; refine KL.v rfl (Val.notT rfl) ?_; exact zk0.1) : G := h ⟨k⟩
theorem zaW (k : G') (h : Hid G' → G := by intro zk0; refine KL.nil (KE.next (K.condF rfl (K.skip (KE.next (K.seq (K.seq (K.region ?_))))))); exact zk0.1) : G := h ⟨k⟩
theorem zY (k : G') (h : Hid G' → G := by intro zk0; refine KL.v rfl (Val.isT (Val.eql rfl rfl) byLt) ?_; exact zk0.1) : G := h ⟨k⟩
theorem zfW (k : G') (h : Hid G' → G := by intro zk0; refine KL.nil (KE.next (K.condT rfl ?_)); exact zk0.1) : G := h ⟨k⟩
theorem zk7 (k : G') (h : Hid G' → G := by intro zk0; refine KE.part ((l, .loop (rc .busy none)) :: ([(D, .deferred (some [])), (b7, cells [.bool false] 4), (b6, cells [.int .i64 0] 3), (b3, cells [.pointer (some ⟨r.b, 0, none⟩)] 71)] ++ (frM bi br bt k v r.b ++ (rowH r ++ F)))) (by simp only [List.cons_append, List.nil_append]; exact byPart) ?_; exact zk0.1) : G := h ⟨k⟩
theorem zM (k : G') (h : Hid G' → G := by intro zk0; refine KL.nil (KE.next (K.condF rfl (K.skip (KE.next (K.seq (K.region ?_)))))); exact zk0.1) : G := h ⟨k⟩
theorem zeX (k : G') (h : Hid G' → G := by intro zk0; refine KL.v rfl (Val.mul rfl rfl (by simp only [qL, qH]; omega)) ?_; exact zk0.1) : G := h ⟨k⟩
theorem zI (k : G') (h : Hid G' → G := by intro zk0; refine KL.nil (KE.next (K.condT rfl (K.seq (K.region ?_)))); exact zk0.1) : G := h ⟨k⟩
theorem zN (k : G') (h : Hid G' → G := by intro zk0; refine KL.eN (Eff.storeL rfl rfl byOne rfl byTake bySetAt) ?_; rintro _ _ rfl; exact zk0.1) : G := h ⟨k⟩
theorem zaN (k : G') (h : Hid G' → G := by intro zk0; refine KE.next (K.seq (K.region ?_)); exact zk0.1) : G := h ⟨k⟩
theorem zbA (k : G') (h : Hid G' → G := by intro zk0; refine KL.v rfl (Val.notF rfl) ?_; exact zk0.1) : G := h ⟨k⟩
theorem zk8 (h : G := by exact lt_next (m := 72057594037927936) (by omega) (lt_next (m := 281474976710656) (by omega) (lt_next (m := 1099511627776) (by omega) (lt_next (m := 4294967296) (by omega) (lt_next (m := 16777216) (by omega) (lt_next (m := 65536) (by omega) (lt_next (m := 256) (by omega) (by omega)))))))) : G := h
theorem zc2 (k : G') (h : Hid G' → G := by intro zk0; (first | (refine KL.v rfl (Val.add rfl rfl (by simp only [qL, qH]; omega)) ?_) | (refine KL.v rfl (Val.addW rfl rfl) ?_)); exact zk0.1) : G := h ⟨k⟩
theorem zgO (k : G') (h : Hid G' → G := by intro zk0; (first | (refine KL.v rfl (Val.conv rfl rfl rfl (by simp only [qL, qH]; omega)) ?_) | (refine KL.v rfl (Val.convW rfl rfl rfl) ?_)); exact zk0.1) : G := h ⟨k⟩
theorem zl5 (k : G') (h : Hid G' → G := by intro zk0; refine KL.nil (KE.next (K.seq (K.condT rfl (K.skip (KE.next (K.seq (K.block (K.seq (K.region ?_))))))))); exact zk0.1) : G := h ⟨k⟩
theorem zbZ (k : G') (h : Hid G' → G := by intro zk0; refine KL.v rfl (Val.idxSl rfl rfl rfl (Sli.own byTakeL (by assumption) byLen) rfl byLt) ?_; exact zk0.1) : G := h ⟨k⟩
theorem zhg (k : G') (h : Hid G' → G := by intro zk0; refine KL.v rfl (Val.loadP rfl rfl (Sees.sl0 (Sli.own byTakeL (by assumption) byLen) (by assumption) rfl)) ?_; exact zk0.1) : G := h ⟨k⟩
theorem zc3 (k : G') (h : Hid G' → G := by intro zk0; refine KL.nil (KE.next (K.region ?_)); exact zk0.1) : G := h ⟨k⟩
theorem zl6 (k : G') (h : Hid G' → G := by intro zk0; refine KL.nil (KE.next (K.seq (K.condF rfl ?_))); exact zk0.1) : G := h ⟨k⟩
theorem zad (k : G') (h : Hid G' → G := by intro zk0; refine KL.e rfl (Eff.buildS byParts rfl rfl rfl rfl rfl byFill) ?_; rintro _ _ ⟨v0, rfl, rfl⟩; revert v0; exact zk0.1) : G := h ⟨k⟩
theorem zdF (k : G') (h : Hid G' → G := by intro zk0; refine KL.nil (KE.next (K.condF rfl (K.skip (KE.next (K.seq ?_))))); exact zk0.1) : G := h ⟨k⟩
theorem zO (k : G') (h : Hid G' → G := by intro zk0; refine KD.v1 rfl rfl (Val.move rfl) ?_; exact zk0.1) : G := h ⟨k⟩
theorem zl7 (k : G') (h : Hid G' → G := by intro zk0; refine KD.v1 rfl rfl (Val.nilCheck rfl) ?_; exact zk0.1) : G := h ⟨k⟩
theorem ziN (k : G') (h : Hid G' → G := by intro zk0; refine KD.v1 rfl rfl (Val.fieldAddr0 (k := 1) rfl rfl) ?_; exact zk0.1) : G := h ⟨k⟩
theorem zb0 (k : G') (h : Hid G' → G := by intro zk0; refine KD.v1 rfl rfl (Val.loadP rfl rfl (Sees.cell byTake rfl)) ?_; exact zk0.1) : G := h ⟨k⟩
theorem zeY (k : G') (h : Hid G' → G := by intro zk0; refine KD.v0 rfl rfl (Val.build byParts rfl rfl byFill) ?_; exact zk0.1) : G := h ⟨k⟩
theorem zcD (k : G') (h : Hid G' → G := by intro zk0; refine ⟨byPart, ?_⟩; exact zk0.1) : G := h ⟨k⟩
theorem zaw (k : G') (h : Hid G' → G := by intro zk0; refine KD.v0 rfl rfl (Val.assign rfl) ?_; exact zk0.1) : G := h ⟨k⟩
theorem zcE (k : G') (h : Hid G' → G := by intro zk0; refine KE.next ?_; exact zk0.1) : G := h ⟨k⟩
theorem zbB (k : G') (h : Hid G' → G := by intro zk0; refine KL.v rfl (Val.eqlPN rfl rfl rfl) ?_; exact zk0.1) : G := h ⟨k⟩
theorem zm (k : G') (h : Hid G' → G := by intro zk0; refine KL.yes rfl rfl ?_; exact zk0.1) : G := h ⟨k⟩
theorem zcp (k : G') (h : Hid G' → G := by intro zk0; refine KL.v rfl (Val.fieldAddr0 (k := 1) rfl rfl) ?_; exact zk0.1) : G := h ⟨k⟩
theorem zn (k : G') (h : Hid G' → G := by intro zk0; refine KL.v rfl (Val.pickF rfl rfl rfl) ?_; exact zk0.1) : G := h ⟨k⟩
theorem zk9 (h : G := by exact KE.fin byMarks rfl byRes (by first | exact byPart | (simp only [rowH_app, memH_app]; exact byPart)) ⟨rfl, rfl⟩) : G := h
theorem zhS (k : G') (h : Hid G' → G := by intro zk0; refine KL.nil (KE.next (K.seq (K.block (K.seq (K.region ?_))))); exact zk0.1) : G := h ⟨k⟩
theorem zla (k : G') (h : Hid G' → G := by intro zk0; refine KL.nil (KE.next (K.condF rfl (K.seq (K.region ?_)))); exact zk0.1) : G := h ⟨k⟩
theorem zbi (k : G') (h : Hid G' → G := by intro zk0; refine KL.v rfl (Val.sub rfl rfl (by simp only [qL, qH]; omega)) ?_; exact zk0.1) : G := h ⟨k⟩
theorem zaJ (k : G') (h : Hid G' → G := by intro zk0; refine KL.v rfl (Val.isF (Val.geq rfl rfl) byLt) ?_; exact zk0.1) : G := h ⟨k⟩
theorem zbC (k : G') (h : Hid G' → G := by intro zk0; refine KE.next (K.seq ?_); exact zk0.1) : G := h ⟨k⟩
theorem zlb (k : G') (h : Hid G' → G := by intro zk0; refine K.drawn [] [(0, 0), (1, 0), (2, 0), (3, 0), (4, 0), (5, 0), (6, 0), (7, 0), (8, 0), (9, 0), (10, 0), (11, 0), (12, 0), (13, 0), (14, 0), (15, 0), (16, 0), (17, 0), (18, 0), (19, 0), (20, 0)] (by kernel_rfl) (by kernel_rfl) (by kernel_rfl) (by kernel_rfl) (by kernel_rfl) (by kernel_rfl) Part.nil ?_; exact zk0.1) : G := h ⟨k⟩
theorem zfX (k : G') (h : Hid G' → G := by intro zk0; refine KD.v0 rfl rfl (Val.fieldAddr0 (k := 1) rfl rfl) ?_; exact zk0.1) : G := h ⟨k⟩
theorem zb1 (k : G') (h : Hid G' → G := by intro zk0; refine KD.v0 rfl rfl (Val.add rfl rfl (by simp only [qL, qH]; omega)) ?_; exact zk0.1) : G := h ⟨k⟩
theorem zP (k : G') (h : Hid G' → G := by intro zk0; refine KL.v rfl (Val.lenSl rfl rfl bySli) ?_; exact zk0.1) : G := h ⟨k⟩
theorem zae (k : G') (h : Hid G' → G := by intro zk0; refine KL.v rfl (Val.isF (Val.gtr rfl rfl) byLt) ?_; exact zk0.1) : G := h ⟨k⟩
theorem zc4 (k : G') (h : Hid G' → G := by intro zk0; refine KL.v rfl (Val.idxSl rfl rfl rfl bySli rfl byLt) ?_; exact zk0.1) : G := h ⟨k⟩
theorem zak (k : G') (h : Hid G' → G := by intro zk0; refine byCodeD ?_; exact zk0.1) : G := h ⟨k⟩
theorem zax (k : G') (h : Hid G' → G := by intro zk0; (first | refine KD.v0 rfl rfl (Val.loadP rfl rfl bySee) ?_ | refine KD.v0 rfl rfl (Val.loadP rfl rfl (Sees.more (by assumption) byPart)) ?_); exact zk0.1) : G := h ⟨k⟩
theorem zaO (k : G') (h : Hid G' → G := by intro zk0; (first | refine KD.v1 rfl rfl (Val.loadP rfl rfl bySee) ?_ | refine KD.v1 rfl rfl (Val.loadP rfl rfl (Sees.more (by assumption) byPart)) ?_); exact zk0.1) : G := h ⟨k⟩
theorem zhh (k : G') (h : Hid G' → G := by intro zk0; (first | refine KD.v0 rfl rfl (Val.idxSl rfl rfl rfl bySli rfl byLt) ?_ | refine KD.v0 rfl rfl (Val.idxSlZ rfl rfl rfl bySli rfl (by omega)) ?_ | refine KD.v0 rfl rfl (Val.indexS1 rfl rfl rfl rfl (by omega)) ?_ | refine KD.v0 rfl rfl (Val.indexS rfl rfl rfl rfl (by omega)) ?_ | refine KD.v0 rfl rfl (Val.indexSO rfl rfl rfl rfl (by omega)) ?_ | refine KD.v0 rfl rfl (Val.indexSG rfl rfl rfl rfl (by omega)) ?_); exact zk0.1) : G := h ⟨k⟩
theorem z8 (k : G') (h : Hid G' → G := by intro zk0; refine KL.v rfl (Val.isT (Val.geq rfl rfl) byLt) ?_; exact zk0.1) : G := h ⟨k⟩
theorem zC (k : G') (h : Hid G' → G := by intro zk0; refine KL.v rfl (Val.pickT rfl rfl rfl) ?_; exact zk0.1) : G := h ⟨k⟩
theorem zah (k : G') (h : Hid G' → G := by intro zk0; refine KL.v rfl (Val.isT (Val.leq rfl rfl) byLt) ?_; exact zk0.1) : G := h ⟨k⟩
theorem zD (k : G') (h : Hid G' → G := by intro zk0; refine KL.v rfl (Val.isF (Val.neq rfl rfl) byLt) ?_; exact zk0.1) : G := h ⟨k⟩
theorem zjO (k : G') (h : Hid G' → G := by intro zk0; refine KL.v rfl (Val.extract rfl rfl) ?_; exact zk0.1) : G := h ⟨k⟩
theorem zhT (k : G') (h : Hid G' → G := by intro zk0; refine KD.v0 rfl rfl (Val.extract rfl rfl) ?_; exact zk0.1) : G := h ⟨k⟩
theorem zdG (k : G') (h : Hid G' → G := by intro zk0; refine KD.v1 rfl rfl (Val.extract rfl rfl) ?_; exact zk0.1) : G := h ⟨k⟩
theorem zhU (k : G') (h : Hid G' → G := by intro zk0; refine KD.eN rfl (Eff.storeL rfl rfl byOne rfl byTake bySetAt) ?_; rintro _ _ rfl; exact zk0.1) : G := h ⟨k⟩
theorem za8 (k : G') (h : Hid G' → G := by intro zk0; refine KL.v rfl (Val.fieldAddr0 (k := 2) rfl rfl) ?_; exact zk0.1) : G := h ⟨k⟩
theorem zcq (k : G') (h : Hid G' → G := by intro zk0; refine KL.v rfl (Val.isF (Val.leq rfl rfl) byLt) ?_; exact zk0.1) : G := h ⟨k⟩
theorem zfY (k : G') (h : Hid G' → G := by intro zk0; refine KL.skipG rfl rfl rfl ?_; exact zk0.1) : G := h ⟨k⟩
theorem ziO (k : G') (h : Hid G' → G := by intro zk0; refine KL.v rfl (Val.loadAP rfl rfl rfl bySeeA) ?_; exact zk0.1) : G := h ⟨k⟩
theorem z9 (k : G') (h : Hid G' → G := by intro zk0; refine KL.eN (Eff.storeAL rfl rfl rfl byTake byLay byOnes) ?_; rintro _ _ rfl; exact zk0.1) : G := h ⟨k⟩
theorem zB (k : G') (h : Hid G' → G := by intro zk0; refine KL.v rfl (Val.loadA rfl rfl rfl bySeeN) ?_; exact zk0.1) : G := h ⟨k⟩
theorem zcF (k : G') (h : Hid G' → G := by intro zk0; refine KL.nil (KE.next (K.seq ?_)); exact zk0.1) : G := h ⟨k⟩
theorem zjP (k : G') (h : Hid G' → G := by intro zk0; refine KD.v1 rfl rfl (Val.idxSlZ rfl rfl rfl (Sli.own byTakeL (by assumption) byLen) rfl (by omega)) ?_; exact zk0.1) : G := h ⟨k⟩
theorem zjQ (k : G') (h : Hid G' → G := by intro zk0; refine KD.v1 rfl rfl (Val.loadP rfl rfl (Sees.sl0 (Sli.own byTakeL (by assumption) byLen) (by assumption) rfl)) ?_; exact zk0.1) : G := h ⟨k⟩
theorem zjR (k : G') (h : Hid G' → G := by intro zk0; refine KD.v1 rfl rfl (Val.conv rfl rfl rfl (by simp only [qL, qH]; omega)) ?_; exact zk0.1) : G := h ⟨k⟩
theorem zl8 (k : G') (h : Hid G' → G := by intro zk0; refine KD.e rfl rfl (Eff.alloc rfl) ?_; rintro _ _ ⟨v0, rfl, rfl⟩; revert v0; exact zk0.1) : G := h ⟨k⟩
theorem zhV (k : G') (h : Hid G' → G := by intro zk0; refine KD.eN rfl (Eff.storeAL rfl rfl rfl byTake byLay byOnes) ?_; rintro _ _ rfl; exact zk0.1) : G := h ⟨k⟩
theorem zhW (k : G') (h : Hid G' → G := by intro zk0; refine KL.v rfl (Val.idxSlZ rfl rfl rfl (Sli.own byTakeL (by assumption) byLen) rfl (by omega)) ?_; exact zk0.1) : G := h ⟨k⟩
theorem zaP (k : G') (h : Hid G' → G := by intro zk0; refine KL.v rfl (Val.isT (Val.neq rfl rfl) byLt) ?_; exact zk0.1) : G := h ⟨k⟩
theorem zaf (k : G') (h : Hid G' → G := by intro zk0; refine KL.v rfl (Val.build byParts rfl rfl byFill) ?_; exact zk0.1) : G := h ⟨k⟩
theorem ziP (h : G := by exact KE.fin byMarks rfl byRes byPart ⟨by rw [hd]; rfl, rfl⟩) : G := h
theorem zc5 (k : G') (h : Hid G' → G := by intro zk0; (first | (refine KL.v rfl (Val.fieldSl (k := 0) rfl rfl) ?_) | (refine KL.v rfl (Val.fieldAddr0 (k := 0) rfl rfl) ?_) | (refine KL.v rfl (Val.fieldAddrZ rfl rfl) ?_) | (refine KL.v rfl (Val.fieldAddr (k := 0) rfl rfl) ?_)); exact zk0.1) : G := h ⟨k⟩
theorem zdH (k : G') (h : Hid G' → G := by intro zk0; (first | (refine KL.v rfl (Val.fieldSl (k := 1) rfl rfl) ?_) | (refine KL.v rfl (Val.fieldAddr0 (k := 1) rfl rfl) ?_) | (refine KL.v rfl (Val.fieldAddrZ rfl rfl) ?_) | (refine KL.v rfl (Val.fieldAddr (k := 1) rfl rfl) ?_)); exact zk0.1) : G := h ⟨k⟩
theorem zhX (k : G') (h : Hid G' → G := by intro zk0; (first | (refine KL.v rfl (Val.fieldSl (k := 2) rfl rfl) ?_) | (refine KL.v rfl (Val.fieldAddr0 (k := 2) rfl rfl) ?_) | (refine KL.v rfl (Val.fieldAddrZ rfl rfl) ?_) | (refine KL.v rfl (Val.fieldAddr (k := 2) rfl rfl) ?_)); exact zk0.1) : G := h ⟨k⟩
theorem zdI (h : G := by exact KE.fin byMarks rfl byRes byPart ⟨by rw [hc]; rfl, rfl⟩) : G := h
theorem zcb (k : G') (h : Hid G' → G := by intro zk0; refine KL.v rfl (Val.isT (Val.gtr rfl rfl) byLt) ?_; exact zk0.1) : G := h ⟨k⟩
theorem zjS (k : G') (h : Hid G' → G := by intro zk0; refine KL.v rfl (Val.idxSlZ rfl rfl rfl bySli rfl (by omega)) ?_; exact zk0.1) : G := h ⟨k⟩
theorem zfZ (k : G') (h : Hid G' → G := by intro zk0; refine KL.nil (KE.next (K.condT rfl (K.skip (KE.next (K.seq (K.block (K.seq ?_))))))); exact zk0.1) : G := h ⟨k⟩
theorem zjT (k : G') (h : Hid G' → G := by intro zk0; refine K.drawn [] [(0, 0), (1, 0), (2, 0), (3, 0), (4, 0), (5, 0), (6, 0), (7, 0), (8, 0), (9, 0), (10, 0), (11, 0), (12, 0), (13, 0), (14, 0), (15, 0), (16, 0), (17, 0), (18, 0), (19, 0), (20, 0), (21, 0), (22, 0)] (by kernel_rfl) (by kernel_rfl) (by kernel_rfl) (by kernel_rfl) (by kernel_rfl) (by kernel_rfl) Part.nil ?_; exact zk0.1) : G := h ⟨k⟩
theorem zjU (k : G') (h : Hid G' → G := by intro zk0; refine KD.v0 rfl rfl (Val.idxSlZ rfl rfl rfl bySli rfl (by omega)) ?_; exact zk0.1) : G := h ⟨k⟩
theorem zeb (k : G') (h : Hid G' → G := by intro zk0; refine KD.v0 rfl rfl (Val.loadP rfl rfl bySee) ?_; exact zk0.1) : G := h ⟨k⟩
theorem zgP (k : G') (h : Hid G' → G := by intro zk0; refine KD.v0 rfl rfl (Val.idxSl rfl rfl rfl bySli rfl byLt) ?_; exact zk0.1) : G := h ⟨k⟩
theorem zbD (k : G') (h : Hid G' → G := by intro zk0; refine KD.no rfl rfl rfl rfl rfl ?_; exact zk0.1) : G := h ⟨k⟩
theorem zbj (k : G') (h : Hid G' → G := by intro zk0; refine KD.v0 rfl rfl (Val.pickT rfl rfl rfl) ?_; exact zk0.1) : G := h ⟨k⟩
theorem zhi (k : G') (h : Hid G' → G := by intro zk0; refine KE.next (K.condT rfl (K.seq (K.region ?_))); exact zk0.1) : G := h ⟨k⟩
theorem zc6 (h : G := by exact KE.fin byMarks rfl byRes byPart ⟨by rw [hf]; rfl, rfl⟩) : G := h
theorem zf0 (k : G') (h : Hid G' → G := by intro zk0; refine KD.v0 rfl rfl (Val.isF (Val.lss rfl rfl) byLt) ?_; exact zk0.1) : G := h ⟨k⟩
theorem zaX (k : G') (h : Hid G' → G := by intro zk0; refine KD.y0 rfl rfl rfl rfl (Val.move rfl) ?_; exact zk0.1) : G := h ⟨k⟩
theorem zhj (k : G') (h : Hid G' → G := by intro zk0; refine KD.y0 rfl rfl rfl rfl (Val.add rfl rfl (by simp only [qL, qH]; omega)) ?_; exact zk0.1) : G := h ⟨k⟩
theorem zhk (k : G') (h : Hid G' → G := by intro zk0; refine KD.y0 rfl rfl rfl rfl (Val.idxSlZ rfl rfl rfl bySli rfl (by omega)) ?_; exact zk0.1) : G := h ⟨k⟩
theorem zc7 (k : G') (h : Hid G' → G := by intro zk0; refine KD.y0 rfl rfl rfl rfl (Val.loadP rfl rfl bySee) ?_; exact zk0.1) : G := h ⟨k⟩
theorem ziQ (k : G') (h : Hid G' → G := by intro zk0; refine KD.y0 rfl rfl rfl rfl (Val.isT (Val.gtr rfl rfl) byLt) ?_; exact zk0.1) : G := h ⟨k⟩
theorem za9 (k : G') (h : Hid G' → G := by intro zk0; refine KD.v0 rfl rfl (Val.pickF rfl rfl rfl) ?_; exact zk0.1) : G := h ⟨k⟩
theorem zhY (k : G') (h : Hid G' → G := by intro zk0; refine KD.y0 rfl rfl rfl rfl (Val.isF (Val.gtr rfl rfl) byLt) ?_; exact zk0.1) : G := h ⟨k⟩
theorem zgQ (k : G') (h : Hid G' → G := by intro zk0; refine KE.next (K.condF rfl (K.skip ?_)); exact zk0.1) : G := h ⟨k⟩
theorem zjV (k : G') (h : Hid G' → G := by intro zk0; refine KL.nil (KE.next (K.condT rfl (K.skip (KE.next (K.block (K.seq (K.region ?_))))))); exact zk0.1) : G := h ⟨k⟩
theorem zlc (k : G') (h : Hid G' → G := by intro zk0; refine KL.nil (KE.next (K.condF rfl (K.region ?_))); exact zk0.1) : G := h ⟨k⟩
theorem zhZ (k : G') (h : Hid G' → G := by intro zk0; refine KL.nil (KE.next (K.condT rfl (K.skip (KE.next (K.seq (K.block (K.region ?_))))))); exact zk0.1) : G := h ⟨k⟩
theorem zjW (k : G') (h : Hid G' → G := by intro zk0; refine KL.v rfl (Val.fieldAddr0 (k := 3) rfl rfl) ?_; exact zk0.1) : G := h ⟨k⟩
theorem zZ (k : G') (h : Hid G' → G := by intro zk0; refine KL.v rfl (Val.fieldAddr0 (k := 4) rfl rfl) ?_; exact zk0.1) : G := h ⟨k⟩
theorem zaY (k : G') (h : Hid G' → G := by intro zk0; refine KL.v rfl (Val.fieldAddr0 (k := 5) rfl rfl) ?_; exact zk0.1) : G := h ⟨k⟩
theorem zld (h : G := by exact KE.again ⟨k + 1⟩ bySub byPart ⟨by show k + 1 ≤ _; omega, hr⟩ (by show tn.length - (k + 1) < tn.length - k; omega)) : G := h
theorem zaK (k : G') (h : Hid G' → G := by intro zk0; refine (CallV.fn (hc0 _ byPart)).mono ?_; exact zk0.1) : G := h ⟨k⟩
theorem zec (h : G := by exact KE.fin byMarks rfl byRes byPart ⟨by rw [he]; rfl, rfl⟩) : G := h
theorem zgR (k : G') (h : Hid G' → G := by intro zk0; refine K.drawn [] [(0, 0), (1, 0), (2, 0), (3, 0), (4, 0), (5, 0), (6, 0), (7, 0), (8, 0), (9, 0), (10, 0), (11, 0), (12, 0), (13, 0)] (by kernel_rfl) (by kernel_rfl) (by kernel_rfl) (by kernel_rfl) (by kernel_rfl) (by kernel_rfl) Part.nil ?_; exact zk0.1) : G := h ⟨k⟩
theorem zcc (k : G') (h : Hid G' → G := by intro zk0; refine KD.v0 rfl rfl (Val.fieldAddr0 (k := 2) rfl rfl) ?_; exact zk0.1) : G := h ⟨k⟩
theorem zeZ (k : G') (h : Hid G' → G := by intro zk0; refine KD.v0 rfl rfl (Val.fieldSl (k := 0) rfl rfl) ?_; exact zk0.1) : G := h ⟨k⟩
theorem zgS (k : G') (h : Hid G' → G := by intro zk0; refine KD.v0 rfl rfl (Val.quoN rfl rfl (by simp only [qL, qH]; omega)) ?_; exact zk0.1) : G := h ⟨k⟩
theorem ziR (k : G') (h : Hid G' → G := by intro zk0; refine K.drawn [] [(0, 0), (1, 0), (2, 0), (3, 0), (4, 0), (5, 0), (6, 0), (7, 0), (8, 0)] (by kernel_rfl) (by kernel_rfl) (by kernel_rfl) (by kernel_rfl) (by kernel_rfl) (by kernel_rfl) Part.nil ?_; exact zk0.1) : G := h ⟨k⟩
theorem zle (k : G') (h : Hid G' → G := by intro zk0; refine K.loopT (σ := SmS) [(1, _), (8, _)] (fun s kp_ => (9, .int .i64 (s.k : Nat)) :: (5, .int .i64 (sumN f s.k)) :: kp_) (fun s => H) (fun s => s.k ≤ l.length) (fun s => l.length - s.k) (⟨0⟩) bySub byPart ((by simp)) ?_; exact zk0.1) : G := h ⟨k⟩
theorem zlf (h : G := by exact KE.again ⟨k + 1⟩ bySub byPart (by show k + 1 ≤ _; omega) (by show l.length - (k + 1) < l.length - k; omega)) : G := h
theorem zh0 (k : G') (h : Hid G' → G := by intro zk0; refine K.drawn [] [(0, 0), (1, 0), (2, 0), (3, 0), (4, 0), (5, 0), (6, 0), (7, 0), (8, 0), (9, 0), (10, 0), (11, 0), (12, 0), (13, 0), (14, 0), (15, 0), (16, 0), (17, 0), (18, 0), (19, 0), (20, 0), (21, 0), (22, 0), (23, 0), (24, 0), (25, 0), (26, 0), (27, 0)] (by kernel_rfl) (by kernel_rfl) (by kernel_rfl) (by kernel_rfl) (by kernel_rfl) (by kernel_rfl) Part.nil ?_; exact zk0.1) : G := h ⟨k⟩
theorem zlg (k : G') (h : Hid G' → G := by intro zk0; refine KD.noU rfl rfl rfl rfl rfl ?_; exact zk0.1) : G := h ⟨k⟩
theorem zhl (k : G') (h : Hid G' → G := by intro zk0; refine KD.y0 rfl rfl rfl rfl (Val.idxSl rfl rfl rfl bySli rfl byLt) ?_; exact zk0.1) : G := h ⟨k⟩
theorem zjX (k : G') (h : Hid G' → G := by intro zk0; refine KD.y0 rfl rfl rfl rfl (Val.isT (Val.leq rfl rfl) byLt) ?_; exact zk0.1) : G := h ⟨k⟩
theorem zh1 (k : G') (h : Hid G' → G := by intro zk0; refine KD.y0 rfl rfl rfl rfl (Val.pickT rfl rfl rfl) ?_; exact zk0.1) : G := h ⟨k⟩
theorem zjY (k : G') (h : Hid G' → G := by intro zk0; refine KD.y0 rfl rfl rfl rfl (Val.isF (Val.leq rfl rfl) byLt) ?_; exact zk0.1) : G := h ⟨k⟩
theorem zlh (h : G := by exact KE.again ⟨k + 1, x⟩ bySub byPart ⟨by show k + 1 ≤ _; omega, hr, fun h => absurd h (by simp), fun _ => hx, by show x ≤ 64; omega⟩ (by show l.length - (k + 1) < l.length - k; omega)) : G := h
theorem ziS (k : G') (h : Hid G' → G := by intro zk0; refine KD.y0 rfl rfl rfl rfl (Val.pickF rfl rfl rfl) ?_; exact zk0.1) : G := h ⟨k⟩
theorem zli (k : G') (h : Hid G' → G := by intro zk0; refine (CallV.fn rfrom_K).mono ?_; exact zk0.1) : G := h ⟨k⟩
theorem zed (k : G') (h : Hid G' → G := by intro zk0; refine KL.nil (KE.next (K.condT rfl (K.skip (KE.next (K.seq (K.block (K.seq (K.region ?_)))))))); exact zk0.1) : G := h ⟨k⟩
theorem zf1 (k : G') (h : Hid G' → G := by intro zk0; refine K.seq (K.seq ?_); exact zk0.1) : G := h ⟨k⟩
theorem zlj (k : G') (h : Hid G' → G := by intro zk0; refine K.drawn [] [(0, 0), (1, 0), (2, 0), (3, 0), (4, 0), (5, 0), (6, 0), (7, 0), (8, 0), (9, 0), (10, 0), (11, 0)] (by kernel_rfl) (by kernel_rfl) (by kernel_rfl) (by kernel_rfl) (by kernel_rfl) (by kernel_rfl) Part.nil ?_; exact zk0.1) : G := h ⟨k⟩
theorem zgT (k : G') (h : Hid G' → G := by intro zk0; refine KD.v0 rfl rfl (Val.mul rfl rfl (by simp only [qL, qH]; omega)) ?_; exact zk0.1) : G := h ⟨k⟩
theorem zjZ (k : G') (h : Hid G' → G := by intro zk0; refine ⟨(Nat.le_div_iff_mul_le (by omega)).2 (by omega), ?_⟩; exact zk0.1) : G := h ⟨k⟩
theorem zf2 (h : G := by exact KE.fin byMarks rfl byRes (by first | exact byPart | (simp only [rowH_app, memH_app, planH_app]; exact byPart)) ⟨rfl, rfl⟩) : G := h
theorem zh2 (k : G') (h : Hid G' → G := by intro zk0; refine K.drawn [] [(0, 0), (1, 0), (2, 0), (3, 0), (4, 0), (5, 0), (6, 0), (7, 0), (8, 0), (9, 0)] (by kernel_rfl) (by kernel_rfl) (by kernel_rfl) (by kernel_rfl) (by kernel_rfl) (by kernel_rfl) Part.nil ?_; exact zk0.1) : G := h ⟨k⟩
theorem ziT (k : G') (h : Hid G' → G := by intro zk0; refine KD.v0 rfl rfl (Val.fieldAddr0 (k := 3) rfl rfl) ?_; exact zk0.1) : G := h ⟨k⟩
theorem zf3 (k : G') (h : Hid G' → G := by intro zk0; refine K.drawn [] [(0, 0), (1, 0), (2, 0), (3, 0), (4, 0), (5, 0), (6, 0), (7, 0), (8, 0), (9, 0), (10, 0)] (by kernel_rfl) (by kernel_rfl) (by kernel_rfl) (by kernel_rfl) (by kernel_rfl) (by kernel_rfl) Part.nil ?_; exact zk0.1) : G := h ⟨k⟩
theorem zbk (k : G') (h : Hid G' → G := by intro zk0; refine KD.y0 rfl rfl rfl rfl (Val.loadP rfl rfl (Sees.cell byTake rfl)) ?_; exact zk0.1) : G := h ⟨k⟩
theorem ze0 (k : G') (h : Hid G' → G := by intro zk0; refine KD.y0 rfl rfl rfl rfl (Val.nilCheck rfl) ?_; exact zk0.1) : G := h ⟨k⟩
theorem zgU (k : G') (h : Hid G' → G := by intro zk0; refine KD.y0 rfl rfl rfl rfl (Val.fieldAddr0 (k := 1) rfl rfl) ?_; exact zk0.1) : G := h ⟨k⟩
theorem zj0 (k : G') (h : Hid G' → G := by intro zk0; refine KD.y0 rfl rfl rfl rfl (Val.isF (Val.geq rfl rfl) byLt) ?_; exact zk0.1) : G := h ⟨k⟩
theorem ziU (k : G') (h : Hid G' → G := by intro zk0; refine KD.v0 rfl rfl (Val.loadP rfl rfl (Sees.sl (Sli.own byTakeL (by assumption) byLen) (by assumption) rfl)) ?_; exact zk0.1) : G := h ⟨k⟩
theorem zh3 (k : G') (h : Hid G' → G := by intro zk0; refine KD.v0 rfl rfl (Val.sub rfl rfl (by simp only [qL, qH]; omega)) ?_; exact zk0.1) : G := h ⟨k⟩
theorem ziV (k : G') (h : Hid G' → G := by intro zk0; refine (CallV.fn (find_K ok hk hd hs)).mono ?_; exact zk0.1) : G := h ⟨k⟩
theorem zf4 (k : G') (h : Hid G' → G := by intro zk0; refine KL.v rfl (Val.fieldSl (k := 0) rfl rfl) ?_; exact zk0.1) : G := h ⟨k⟩
theorem zdJ (k : G') (h : Hid G' → G := by intro zk0; refine KD.v0 rfl rfl (Val.fieldAddr0 (k := 4) rfl rfl) ?_; exact zk0.1) : G := h ⟨k⟩
theorem zgV (k : G') (h : Hid G' → G := by intro zk0; (first | refine KD.v1 rfl rfl (Val.nilCheck rfl) ?_ | refine KD.v1 rfl rfl (Val.nilCheckF rfl) ?_ | refine KD.v1 rfl rfl (Val.nilCheckY rfl) ?_); exact zk0.1) : G := h ⟨k⟩
theorem zh4 (k : G') (h : Hid G' → G := by intro zk0; (first | refine KD.v1 rfl rfl (Val.fieldSl (k := 0) rfl rfl) ?_ | refine KD.v1 rfl rfl (Val.fieldAddr0 (k := 0) rfl rfl) ?_ | refine KD.v1 rfl rfl (Val.fieldAddrZ rfl rfl) ?_ | refine KD.v1 rfl rfl (Val.fieldAddr (k := 0) rfl rfl) ?_); exact zk0.1) : G := h ⟨k⟩
theorem zj1 (k : G') (h : Hid G' → G := by intro zk0; (first | refine KD.v0 rfl rfl (Val.nilCheck rfl) ?_ | refine KD.v0 rfl rfl (Val.nilCheckF rfl) ?_ | refine KD.v0 rfl rfl (Val.nilCheckY rfl) ?_); exact zk0.1) : G := h ⟨k⟩
theorem ziW (k : G') (h : Hid G' → G := by intro zk0; (first | refine KD.v0 rfl rfl (Val.fieldSl (k := 1) rfl rfl) ?_ | refine KD.v0 rfl rfl (Val.fieldAddr0 (k := 1) rfl rfl) ?_ | refine KD.v0 rfl rfl (Val.fieldAddrZ rfl rfl) ?_ | refine KD.v0 rfl rfl (Val.fieldAddr (k := 1) rfl rfl) ?_); exact zk0.1) : G := h ⟨k⟩
theorem zhm (k : G') (h : Hid G' → G := by intro zk0; (first | refine KD.v0 rfl rfl (Val.fieldSl (k := 2) rfl rfl) ?_ | refine KD.v0 rfl rfl (Val.fieldAddr0 (k := 2) rfl rfl) ?_ | refine KD.v0 rfl rfl (Val.fieldAddrZ rfl rfl) ?_ | refine KD.v0 rfl rfl (Val.fieldAddr (k := 2) rfl rfl) ?_); exact zk0.1) : G := h ⟨k⟩
theorem zgW (k : G') (h : Hid G' → G := by intro zk0; (first | refine KD.v0 rfl rfl (Val.fieldSl (k := 0) rfl rfl) ?_ | refine KD.v0 rfl rfl (Val.fieldAddr0 (k := 0) rfl rfl) ?_ | refine KD.v0 rfl rfl (Val.fieldAddrZ rfl rfl) ?_ | refine KD.v0 rfl rfl (Val.fieldAddr (k := 0) rfl rfl) ?_); exact zk0.1) : G := h ⟨k⟩
theorem zlk (k : G') (h : Hid G' → G := by intro zk0; (first | (refine KD.eNX rfl (Eff.storeL rfl rfl byOne rfl byTake bySetAt) ?_; rintro _ _ rfl) | (refine KD.eNX rfl (Eff.stSl rfl rfl rfl rfl byTakeL (by assumption) (by assumption) rfl rfl) ?_; rintro _ _ rfl) | (refine KD.eNX rfl (Eff.stSl0 rfl rfl rfl rfl byTakeL (by assumption) (by assumption) rfl rfl) ?_; rintro _ _ rfl)); exact zk0.1) : G := h ⟨k⟩
theorem ze1 (h : G := by exact KE.fin byMarks rfl byRes (by first | exact byPart | (simp only [rowH_app, planH_app, memH_app, bodyH_app]; exact byPart)) ⟨rfl, rfl⟩) : G := h
theorem ziX (k : G') (h : Hid G' → G := by intro zk0; refine Call.enter4 (n := 40) (by kernel_rfl) Tryz.func153 rfl rfl rfl ?_; exact zk0.1) : G := h ⟨k⟩
theorem zf5 (k : G') (h : Hid G' → G := by intro zk0; refine (CallV.fn (hneed _)).mono ?_; exact zk0.1) : G := h ⟨k⟩
theorem ziY (k : G') (h : Hid G' → G := by intro zk0; refine (CallV.part (CallV.fn (Class0_K okp hy)) (by simp only [rowH_app, planH_app, memH_app, bodyH_app]; exact byPart)).mono ?_; exact zk0.1) : G := h ⟨k⟩
theorem zhn (k : G') (h : Hid G' → G := by intro zk0; refine (CallV.part (CallV.fn (place_K ok hy)) byPart).mono ?_; exact zk0.1) : G := h ⟨k⟩
theorem ziZ (k : G') (h : Hid G' → G := by intro zk0; refine (CallV.part (CallV.fn (hlies _)) byPart).mono ?_; exact zk0.1) : G := h ⟨k⟩
theorem zh5 (k : G') (h : Hid G' → G := by intro zk0; refine K.drawn [] [(0, 0), (1, 0), (2, 0), (3, 0), (4, 0), (5, 0), (6, 0), (7, 0), (8, 0), (9, 0), (10, 2)] (by kernel_rfl) (by kernel_rfl) (by kernel_rfl) (by kernel_rfl) (by kernel_rfl) (by kernel_rfl) Part.nil ?_; exact zk0.1) : G := h ⟨k⟩
theorem zho (k : G') (h : Hid G' → G := by intro zk0; refine (CallV.fn (hF _)).mono ?_; exact zk0.1) : G := h ⟨k⟩
theorem zf6 (k : G') (h : Hid G' → G := by intro zk0; refine KL.v rfl (Val.neqB rfl rfl rfl) ?_; exact zk0.1) : G := h ⟨k⟩
theorem ze2 (h : G := by exact KE.fin byMarks rfl byRes (by first | exact byPart | (simp only [tintH_app]; exact byPart)) ⟨rfl, rfl⟩) : G := h
theorem zj2 (k : G') (h : Hid G' → G := by intro zk0; refine Call.enter2 (n := 20) (by kernel_rfl) Tryz.func184 rfl rfl rfl ?_; exact zk0.1) : G := h ⟨k⟩
theorem zj3 (k : G') (h : Hid G' → G := by intro zk0; refine Call.enter2 (n := 21) (by kernel_rfl) Tryz.func185 rfl rfl rfl ?_; exact zk0.1) : G := h ⟨k⟩
theorem zi0 (k : G') (h : Hid G' → G := by intro zk0; refine KL.nil (KE.next (K.block (K.seq (K.region ?_)))); exact zk0.1) : G := h ⟨k⟩
theorem zi1 (k : G') (h : Hid G' → G := by intro zk0; refine KD.eN rfl (Eff.stSl0 rfl rfl rfl rfl byTakeL (by assumption) (by assumption) rfl rfl) ?_; rintro _ _ rfl; exact zk0.1) : G := h ⟨k⟩
theorem zh6 (h : G := by exact KE.fin byMarks rfl byRes (by first | exact byPart | (simp only [greyH_app]; exact byPart)) ⟨rfl, rfl⟩) : G := h
theorem zj4 (k : G') (h : Hid G' → G := by intro zk0; refine Call.enter2 (n := 41) (by kernel_rfl) Tryz.func107 rfl rfl rfl ?_; exact zk0.1) : G := h ⟨k⟩
theorem ze3 (k : G') (h : Hid G' → G := by intro zk0; refine KL.v rfl (Val.fieldAddr0 (k := 6) rfl rfl) ?_; exact zk0.1) : G := h ⟨k⟩
theorem zaL (k : G') (h : Hid G' → G := by intro zk0; refine KL.v rfl (Val.fieldAddr0 (k := 7) rfl rfl) ?_; exact zk0.1) : G := h ⟨k⟩
theorem zh7 (h : G := by exact KE.fin byMarks rfl byRes (by first | exact byPart | (simp only [pinsH_app]; exact byPart)) ⟨rfl, rfl⟩) : G := h
theorem zhp (k : G') (h : Hid G' → G := by intro zk0; refine (CallV.fn (pinone_K (q := q))).mono ?_; exact zk0.1) : G := h ⟨k⟩
theorem zll (k : G') (h : Hid G' → G := by intro zk0; (first | refine KD.v0 rfl rfl (Val.add rfl rfl (by simp only [qL, qH]; omega)) ?_ | refine KD.v0 rfl rfl (Val.addW rfl rfl) ?_); exact zk0.1) : G := h ⟨k⟩
theorem zee (h : G := by exact KE.fin byMarks rfl byRes (by first | exact byPart | (simp only [tabH_app]; exact byPart)) ⟨rfl, rfl⟩) : G := h
theorem zj5 (k : G') (h : Hid G' → G := by intro zk0; refine Call.enter1 (n := 12) (by kernel_rfl) Tryz.func111 rfl rfl rfl ?_; exact zk0.1) : G := h ⟨k⟩
theorem zgX (h : G := by exact KE.fin byMarks rfl byRes (by first | exact byPart | (simp only [markH_app]; exact byPart)) ⟨rfl, rfl⟩) : G := h
theorem zi2 (k : G') (h : Hid G' → G := by intro zk0; refine Call.enter2 (n := 16) (by kernel_rfl) Tryz.func36 rfl rfl rfl ?_; exact zk0.1) : G := h ⟨k⟩
theorem zh8 (k : G') (h : Hid G' → G := by intro zk0; refine (CallV.fn (mknone_K (k := k) (p := p))).mono ?_; exact zk0.1) : G := h ⟨k⟩
theorem zj6 (k : G') (h : Hid G' → G := by intro zk0; refine Call.enter1 (n := 12) (by kernel_rfl) Tryz.func40 rfl rfl rfl ?_; exact zk0.1) : G := h ⟨k⟩
theorem zcr (k : G') (h : Hid G' → G := by intro zk0; refine KL.v rfl (Val.fieldAddr0 (k := 8) rfl rfl) ?_; exact zk0.1) : G := h ⟨k⟩
theorem zi3 (k : G') (h : Hid G' → G := by intro zk0; refine Call.enter2 (n := 19) (by kernel_rfl) Tryz.func117 rfl rfl rfl ?_; exact zk0.1) : G := h ⟨k⟩
theorem zj7 (k : G') (h : Hid G' → G := by intro zk0; refine KL.v rfl (Val.eqlB rfl rfl rfl) ?_; exact zk0.1) : G := h ⟨k⟩
theorem zj8 (k : G') (h : Hid G' → G := by intro zk0; refine Call.enter1 (n := 29) (by kernel_rfl) Tryz.func42 rfl rfl rfl ?_; exact zk0.1) : G := h ⟨k⟩
theorem zaQ (k : G') (h : Hid G' → G := by intro zk0; refine KL.v rfl (Val.fieldAddr0 (k := 9) rfl rfl) ?_; exact zk0.1) : G := h ⟨k⟩
theorem zl9 (k : G') (h : Hid G' → G := by intro zk0; refine Call.enter6 (n := 83) (by kernel_rfl) Tryz.func34 rfl rfl rfl ?_; exact zk0.1) : G := h ⟨k⟩
theorem zj9 (k : G') (h : Hid G' → G := by intro zk0; refine (CallV.part (CallV.fn (hhead _)) byPart).mono ?_; exact zk0.1) : G := h ⟨k⟩
theorem ze4 (k : G') (h : Hid G' → G := by intro zk0; refine (CallV.part (CallV.fn (Slots0_K okp)) byPart).mono ?_; exact zk0.1) : G := h ⟨k⟩
theorem zhq (k : G') (h : Hid G' → G := by intro zk0; refine (CallV.part (CallV.fn (tbLen_K okT)) byPart).mono ?_; exact zk0.1) : G := h ⟨k⟩
theorem zh9 (k : G') (h : Hid G' → G := by intro zk0; refine (CallV.part (CallV.fn (piCopy_K okN)) byPart).mono ?_; exact zk0.1) : G := h ⟨k⟩
theorem zhr (k : G') (h : Hid G' → G := by intro zk0; refine (CallV.fn (htot _ byPart)).mono ?_; exact zk0.1) : G := h ⟨k⟩
theorem zc8 (k : G') (h : Hid G' → G := by intro zk0; (first | (refine KL.v rfl (Val.nilCheck rfl) ?_) | (refine KL.v rfl (Val.nilCheckF rfl) ?_) | (refine KL.v rfl (Val.nilCheckY rfl) ?_)); exact zk0.1) : G := h ⟨k⟩
theorem ze5 (k : G') (h : Hid G' → G := by intro zk0; (first | (refine KL.eN (Eff.storeL rfl rfl byOne rfl byTake bySetAt) ?_; rintro _ _ rfl) | (refine KL.eN (Eff.stSl rfl rfl rfl rfl byTakeL (by assumption) (by assumption) rfl rfl) ?_; rintro _ _ rfl) | (refine KL.eN (Eff.stSl0 rfl rfl rfl rfl byTakeL (by assumption) (by assumption) rfl rfl) ?_; rintro _ _ rfl)); exact zk0.1) : G := h ⟨k⟩
theorem zia (k : G') (h : Hid G' → G := by intro zk0; (first | (refine KL.v rfl (Val.lenSl rfl rfl bySli) ?_) | (refine KL.v rfl (Val.lenS rfl rfl) ?_)); exact zk0.1) : G := h ⟨k⟩
theorem zka (k : G') (h : Hid G' → G := by intro zk0; refine KD.y0 rfl rfl rfl rfl (Val.fieldAddr0 (k := 0) rfl rfl) ?_; exact zk0.1) : G := h ⟨k⟩
theorem zlm (h : G := by exact KE.again ⟨j + 1, oL2, o6, o'⟩ bySub (by rw [plnHp_app]; simp only [hDn]; exact byPart) ⟨hj, by simp only [hDn]; exact kL2, ok6, ok'⟩ (by show g.pgs k - (j + 1) < g.pgs k - j; omega)) : G := h
theorem zkb (k : G') (h : Hid G' → G := by intro zk0; refine Call.enter2 (n := 14) (by kernel_rfl) Tryz.func67 rfl rfl rfl ?_; exact zk0.1) : G := h ⟨k⟩
theorem zma (k : G') (h : Hid G' → G := by intro zk0; refine KL.eN (Eff.stSl0 rfl rfl rfl rfl byTakeL (by assumption) (by assumption) rfl rfl) ?_; rintro _ _ rfl; exact zk0.1) : G := h ⟨k⟩
theorem ze6 (k : G') (h : Hid G' → G := by intro zk0; refine KD.v0 rfl rfl (Val.loadA rfl rfl rfl bySeeN) ?_; exact zk0.1) : G := h ⟨k⟩
theorem ze7 (k : G') (h : Hid G' → G := by intro zk0; (first | refine KD.v1 rfl rfl (Val.loadAP rfl rfl rfl bySeeA) ?_ | refine KD.v1 rfl rfl (Val.loadA rfl rfl rfl bySeeN) ?_); exact zk0.1) : G := h ⟨k⟩
theorem zi4 (k : G') (h : Hid G' → G := by intro zk0; (first | refine KD.v1 rfl rfl (Val.fieldSl (k := 1) rfl rfl) ?_ | refine KD.v1 rfl rfl (Val.fieldAddr0 (k := 1) rfl rfl) ?_ | refine KD.v1 rfl rfl (Val.fieldAddrZ rfl rfl) ?_ | refine KD.v1 rfl rfl (Val.fieldAddr (k := 1) rfl rfl) ?_); exact zk0.1) : G := h ⟨k⟩
theorem zef (k : G') (h : Hid G' → G := by intro zk0; (first | refine KD.v1 rfl rfl (Val.fieldSl (k := 2) rfl rfl) ?_ | refine KD.v1 rfl rfl (Val.fieldAddr0 (k := 2) rfl rfl) ?_ | refine KD.v1 rfl rfl (Val.fieldAddrZ rfl rfl) ?_ | refine KD.v1 rfl rfl (Val.fieldAddr (k := 2) rfl rfl) ?_); exact zk0.1) : G := h ⟨k⟩
theorem zln (k : G') (h : Hid G' → G := by intro zk0; (first | refine KD.v1 rfl rfl (Val.idxSl rfl rfl rfl bySli rfl byLt) ?_ | refine KD.v1 rfl rfl (Val.idxSlZ rfl rfl rfl bySli rfl (by omega)) ?_ | refine KD.v1 rfl rfl (Val.indexS1 rfl rfl rfl rfl (by omega)) ?_ | refine KD.v1 rfl rfl (Val.indexS rfl rfl rfl rfl (by omega)) ?_ | refine KD.v1 rfl rfl (Val.indexSO rfl rfl rfl rfl (by omega)) ?_ | refine KD.v1 rfl rfl (Val.indexSG rfl rfl rfl rfl (by omega)) ?_); exact zk0.1) : G := h ⟨k⟩
theorem zlo (k : G') (h : Hid G' → G := by intro zk0; (first | refine KD.v1 rfl rfl (Val.add rfl rfl (by simp only [qL, qH]; omega)) ?_ | refine KD.v1 rfl rfl (Val.addW rfl rfl) ?_); exact zk0.1) : G := h ⟨k⟩
theorem zcG (k : G') (h : Hid G' → G := by intro zk0; refine ActK.callc rfl rfl byEvL ?_; exact zk0.1) : G := h ⟨k⟩
theorem zkc (k : G') (h : Hid G' → G := by intro zk0; (first | (refine KD.eN rfl (Eff.storeAL rfl rfl rfl byTake byLay byOnes) ?_; rintro _ _ rfl; refine ⟨byPart, ?_⟩) | (refine KD.eN rfl (Eff.stSlA rfl rfl rfl rfl byTakeL (by assumption) (by assumption)) ?_; rintro _ _ rfl; refine ⟨byPart, ?_⟩)); exact zk0.1) : G := h ⟨k⟩
theorem zlp (h : G := by exact KE.fin (H' := N ++ (D ++ F)) byMarks rfl byRes byPart ⟨vr', R', N, ⟨hB.p.part byPart, hM'⟩, hX, rfl, rfl⟩) : G := h
theorem zi5 (k : G') (h : Hid G' → G := by intro zk0; refine Call.enter3 (n := 39) (by kernel_rfl) Tryz.func157 rfl rfl rfl ?_; exact zk0.1) : G := h ⟨k⟩
theorem zi6 (k : G') (h : Hid G' → G := by intro zk0; refine K.drawn [] [(0, 0), (1, 0), (2, 0), (3, 0), (4, 0), (5, 0), (6, 0), (7, 0), (8, 0), (9, 0), (10, 0), (11, 0), (12, 0), (13, 0), (14, 0), (15, 0), (16, 0), (17, 0), (18, 0), (19, 0), (20, 0), (21, 0), (22, 0), (23, 0), (24, 0), (25, 0)] (by kernel_rfl) (by kernel_rfl) (by kernel_rfl) (by kernel_rfl) (by kernel_rfl) (by kernel_rfl) Part.nil ?_; exact zk0.1) : G := h ⟨k⟩
theorem zf7 (k : G') (h : Hid G' → G := by intro zk0; refine KD.v0 rfl rfl (Val.isF (Val.eql rfl rfl) byLt) ?_; exact zk0.1) : G := h ⟨k⟩
theorem zdK (k : G') (h : Hid G' → G := by intro zk0; refine KD.v0 rfl rfl (Val.isT (Val.eql rfl rfl) byLt) ?_; exact zk0.1) : G := h ⟨k⟩
theorem zc9 (k : G') (h : Hid G' → G := by intro zk0; refine KD.y0 rfl rfl rfl rfl (Val.fieldAddr0 (k := 2) rfl rfl) ?_; exact zk0.1) : G := h ⟨k⟩
theorem zib (k : G') (h : Hid G' → G := by intro zk0; refine KD.y0 rfl rfl rfl rfl (Val.fieldAddrZ rfl rfl) ?_; exact zk0.1) : G := h ⟨k⟩
theorem zkd (k : G') (h : Hid G' → G := by intro zk0; refine KD.y0 rfl rfl rfl rfl (Val.fieldSl (k := 0) rfl rfl) ?_; exact zk0.1) : G := h ⟨k⟩
theorem zhs (k : G') (h : Hid G' → G := by intro zk0; refine KD.y0 rfl rfl rfl rfl (Val.isT (Val.eql rfl rfl) byLt) ?_; exact zk0.1) : G := h ⟨k⟩
theorem zi7 (k : G') (h : Hid G' → G := by intro zk0; refine KD.y0 rfl rfl rfl rfl (Val.fieldSl (k := 1) rfl rfl) ?_; exact zk0.1) : G := h ⟨k⟩
theorem zke (k : G') (h : Hid G' → G := by intro zk0; refine KD.y0 rfl rfl rfl rfl (Val.isF (Val.eql rfl rfl) byLt) ?_; exact zk0.1) : G := h ⟨k⟩
theorem zmb (k : G') (h : Hid G' → G := by intro zk0; refine (CallV.part (CallV.fn (hHas _)) byPart).mono ?_; exact zk0.1) : G := h ⟨k⟩
theorem zlq (k : G') (h : Hid G' → G := by intro zk0; refine (CallV.part (CallV.fn (rZero_K (a := y.addr) (n := y.size) hB.m hf.n hq (by omega) (by omega))) byPart).mono ?_; exact zk0.1) : G := h ⟨k⟩
theorem zic (k : G') (h : Hid G' → G := by intro zk0; refine Call.enter4 (n := 35) (by kernel_rfl) Tryz.func163 rfl rfl rfl ?_; exact zk0.1) : G := h ⟨k⟩
theorem zkf (k : G') (h : Hid G' → G := by intro zk0; refine Call.enter3 (n := 49) (by kernel_rfl) Tryz.func71 rfl rfl rfl ?_; exact zk0.1) : G := h ⟨k⟩
theorem zid (h : G := by exact KE.fin byMarks rfl byRes byPart ⟨vr, R, [], hB, hself, rfl, rfl⟩) : G := h
theorem zkg (k : G') (h : Hid G' → G := by intro zk0; refine Call.enter3 (n := 33) (by kernel_rfl) Tryz.func254 rfl rfl rfl ?_; exact zk0.1) : G := h ⟨k⟩
theorem zkh (k : G') (h : Hid G' → G := by intro zk0; refine Call.enter4 (n := 40) (by kernel_rfl) Tryz.func102 rfl rfl rfl ?_; exact zk0.1) : G := h ⟨k⟩
theorem ze8 (k : G') (h : Hid G' → G := by intro zk0; refine (CallV.part (CallV.fn (hst _)) byPart).mono ?_; exact zk0.1) : G := h ⟨k⟩
theorem zki (h : G := by exact KE.fin byMarks rfl byRes (by first | exact byPart | (simp only [planH_app]; exact byPart)) ⟨rfl, rfl⟩) : G := h
theorem ze9 (k : G') (h : Hid G' → G := by intro zk0; refine (CallV.part (CallV.fn (grnone_K ok)) byPart).mono ?_; exact zk0.1) : G := h ⟨k⟩
theorem zht (k : G') (h : Hid G' → G := by intro zk0; refine KD.v0 rfl rfl (Val.fieldAddr0 (k := 5) rfl rfl) ?_; exact zk0.1) : G := h ⟨k⟩
theorem zi8 (k : G') (h : Hid G' → G := by intro zk0; refine KD.v0 rfl rfl (Val.lenSl rfl rfl (Sli.own byTakeL (by assumption) byLen)) ?_; exact zk0.1) : G := h ⟨k⟩
theorem zi9 (k : G') (h : Hid G' → G := by intro zk0; refine KD.v0 rfl rfl (Val.fieldAddr0 (k := 7) rfl rfl) ?_; exact zk0.1) : G := h ⟨k⟩
theorem zkj (k : G') (h : Hid G' → G := by intro zk0; refine Call.enter1 (n := 28) (by kernel_rfl) Tryz.func116 rfl rfl rfl ?_; exact zk0.1) : G := h ⟨k⟩
theorem zkk (k : G') (h : Hid G' → G := by intro zk0; refine K.drawn [] [(0, 0), (1, 2), (2, 0), (3, 0), (4, 0), (5, 0), (6, 0), (7, 0), (8, 0), (9, 0), (10, 0), (11, 0), (12, 0), (13, 0), (14, 0), (15, 0), (16, 0), (17, 0), (18, 0), (19, 0), (20, 0), (21, 2), (22, 0), (23, 0), (24, 0), (25, 0)] (by kernel_rfl) (by kernel_rfl) (by kernel_rfl) (by kernel_rfl) (by kernel_rfl) (by kernel_rfl) Part.nil ?_; exact zk0.1) : G := h ⟨k⟩
theorem zja (k : G') (h : Hid G' → G := by intro zk0; refine KD.y0 rfl rfl rfl rfl (Val.fieldAddr0 (k := 5) rfl rfl) ?_; exact zk0.1) : G := h ⟨k⟩
theorem zb2 (k : G') (h : Hid G' → G := by intro zk0; refine KD.callcY rfl rfl rfl rfl rfl byEvL ?_; exact zk0.1) : G := h ⟨k⟩
theorem zeg (k : G') (h : Hid G' → G := by intro zk0; refine KD.noA rfl rfl rfl rfl ?_; exact zk0.1) : G := h ⟨k⟩
theorem zjb (h : G := by exact .inl (by show t ∈ G2.q; rw [eq2]; exact h)) : G := h
theorem zkl (k : G') (h : Hid G' → G := by intro zk0; refine Call.enter2 (n := 28) (by kernel_rfl) Tryz.func51 rfl rfl rfl ?_; exact zk0.1) : G := h ⟨k⟩
theorem zlr (k : G') (h : Hid G' → G := by intro zk0; refine K.drawn [] [(0, 0), (1, 0), (2, 0), (3, 0), (4, 0), (5, 0), (6, 0), (7, 0), (8, 0), (9, 0), (10, 0), (11, 0), (12, 0), (13, 2)] (by kernel_rfl) (by kernel_rfl) (by kernel_rfl) (by kernel_rfl) (by kernel_rfl) (by kernel_rfl) Part.nil ?_; exact zk0.1) : G := h ⟨k⟩
theorem zf8 (k : G') (h : Hid G' → G := by intro zk0; refine KD.v0 rfl rfl (Val.indexA rfl rfl rfl rfl (by omega)) ?_; exact zk0.1) : G := h ⟨k⟩
theorem zls (k : G') (h : Hid G' → G := by intro zk0; refine K.drawn [] [(0, 0), (1, 0), (2, 0), (3, 0), (4, 0), (5, 0), (6, 0), (7, 0), (8, 0), (9, 0), (10, 2), (11, 0), (12, 0)] (by kernel_rfl) (by kernel_rfl) (by kernel_rfl) (by kernel_rfl) (by kernel_rfl) (by kernel_rfl) Part.nil ?_; exact zk0.1) : G := h ⟨k⟩
theorem zjc (k : G') (h : Hid G' → G := by intro zk0; refine KD.y0 rfl rfl rfl rfl (Val.notF rfl) ?_; exact zk0.1) : G := h ⟨k⟩
theorem zkm (k : G') (h : Hid G' → G := by intro zk0; refine (CallV.part (CallV.fn (rtOf_K hC hc hl)) byPart).mono ?_; exact zk0.1) : G := h ⟨k⟩
theorem zjd (k : G') (h : Hid G' → G := by intro zk0; (first | refine KD.v1 rfl rfl (Val.lenSl rfl rfl bySli) ?_ | refine KD.v1 rfl rfl (Val.lenS rfl rfl) ?_); exact zk0.1) : G := h ⟨k⟩
theorem zje (k : G') (h : Hid G' → G := by intro zk0; refine (CallV.part (CallV.fn (hcop _)) byPart).mono ?_; exact zk0.1) : G := h ⟨k⟩
theorem zlt (k : G') (h : Hid G' → G := by intro zk0; (first | (refine KL.v rfl (Val.fieldSl (k := 6) rfl rfl) ?_) | (refine KL.v rfl (Val.fieldAddr0 (k := 6) rfl rfl) ?_) | (refine KL.v rfl (Val.fieldAddrZ rfl rfl) ?_) | (refine KL.v rfl (Val.fieldAddr (k := 6) rfl rfl) ?_)); exact zk0.1) : G := h ⟨k⟩
theorem zjf (k : G') (h : Hid G' → G := by intro zk0; refine Call.enter1 (n := 17) (by kernel_rfl) Tryz.func211 rfl rfl rfl ?_; exact zk0.1) : G := h ⟨k⟩
theorem zkn (k : G') (h : Hid G' → G := by intro zk0; (first | (refine KL.v rfl (Val.loadAP rfl rfl rfl bySeeA) ?_) | (refine KL.v rfl (Val.loadA rfl rfl rfl bySeeN) ?_)); exact zk0.1) : G := h ⟨k⟩
theorem zjg (k : G') (h : Hid G' → G := by intro zk0; (first | (refine KL.v rfl (Val.idxSl rfl rfl rfl bySli rfl byLt) ?_) | (refine KL.v rfl (Val.idxSlZ rfl rfl rfl bySli rfl (by omega)) ?_) | (refine KL.v rfl (Val.indexS1 rfl rfl rfl rfl (by omega)) ?_) | (refine KL.v rfl (Val.indexS rfl rfl rfl rfl (by omega)) ?_) | (refine KL.v rfl (Val.indexSO rfl rfl rfl rfl (by omega)) ?_) | (refine KL.v rfl (Val.indexSG rfl rfl rfl rfl (by omega)) ?_)); exact zk0.1) : G := h ⟨k⟩
theorem zie (k : G') (h : Hid G' → G := by intro zk0; (first | refine KD.v0 rfl rfl (Val.loadAP rfl rfl rfl bySeeA) ?_ | refine KD.v0 rfl rfl (Val.loadA rfl rfl rfl bySeeN) ?_); exact zk0.1) : G := h ⟨k⟩
theorem zif (k : G') (h : Hid G' → G := by intro zk0; refine KL.v rfl (Val.fieldSl (k := 2) rfl rfl) ?_; exact zk0.1) : G := h ⟨k⟩
theorem zhu (k : G') (h : Hid G' → G := by intro zk0; refine KL.v rfl (Val.fieldSl (k := 1) rfl rfl) ?_; exact zk0.1) : G := h ⟨k⟩
theorem zko (k : G') (h : Hid G' → G := by intro zk0; refine KL.nil (KE.next (K.condT rfl (K.skip (KE.next (K.seq (K.block ?_)))))); exact zk0.1) : G := h ⟨k⟩
theorem zjh (k : G') (h : Hid G' → G := by intro zk0; refine Call.enter3 (n := 32) (by kernel_rfl) Tryz.func197 rfl rfl rfl ?_; exact zk0.1) : G := h ⟨k⟩
theorem zig (k : G') (h : Hid G' → G := by intro zk0; refine (CallV.part (CallV.fn (hfld _)) byPart).mono ?_; exact zk0.1) : G := h ⟨k⟩
theorem zfa (k : G') (h : Hid G' → G := by intro zk0; refine KL.v rfl (Val.fieldAddrZ rfl rfl) ?_; exact zk0.1) : G := h ⟨k⟩
theorem zji (k : G') (h : Hid G' → G := by intro zk0; refine Call.enter4 (n := 45) (by kernel_rfl) Tryz.func198 rfl rfl rfl ?_; exact zk0.1) : G := h ⟨k⟩
theorem zgY (k : G') (h : Hid G' → G := by intro zk0; refine KE.next (K.seq (K.seq (K.region ?_))); exact zk0.1) : G := h ⟨k⟩
theorem zkp (k : G') (h : Hid G' → G := by intro zk0; refine Call.enter2 (n := 40) (by kernel_rfl) Tryz.func253 rfl rfl rfl ?_; exact zk0.1) : G := h ⟨k⟩
theorem zhv (k : G') (h : Hid G' → G := by intro zk0; refine (CallV.part (CallV.fn (tbnone_K ok)) byPart).mono ?_; exact zk0.1) : G := h ⟨k⟩
theorem zkq (k : G') (h : Hid G' → G := by intro zk0; refine KL.v rfl (Val.loadP rfl rfl (Sees.sl (Sli.own byTakeL (by assumption) byLen) (by assumption) rfl)) ?_; exact zk0.1) : G := h ⟨k⟩
theorem zhw (h : G := by exact KE.fin byMarks rfl byRes (by first | exact byPart | (simp only [markH_app, seenH_app]; exact byPart)) ⟨rfl, rfl⟩) : G := h
theorem zdL (k : G') (h : Hid G' → G := by intro zk0; refine KL.nil (KE.next (K.seq (K.seq ?_))); exact zk0.1) : G := h ⟨k⟩
theorem zlu (k : G') (h : Hid G' → G := by intro zk0; refine K.drawn _ [(0, 1), (1, 1), (2, 1), (3, 1), (4, 0), (5, 2), (6, 0)] (by kernel_rfl) (by kernel_rfl) (by kernel_rfl) (by kernel_rfl) (by kernel_rfl) (by kernel_rfl) Part.all ?_; exact zk0.1) : G := h ⟨k⟩
theorem zih (k : G') (h : Hid G' → G := by intro zk0; refine KD.v1 rfl rfl (Val.fieldAddr0 (k := 7) rfl rfl) ?_; exact zk0.1) : G := h ⟨k⟩
theorem zjj (k : G') (h : Hid G' → G := by intro zk0; refine (CallV.part (CallV.fn (hroots _)) (by first | exact byPart | (simp only [markH_app, seenH_app]; exact byPart))).mono ?_; exact zk0.1) : G := h ⟨k⟩
theorem zhx (k : G') (h : Hid G' → G := by intro zk0; refine (CallV.part (CallV.fn (hsh _)) byPart).mono ?_; exact zk0.1) : G := h ⟨k⟩
theorem zhy (h : G := by exact KE.fin (H' := markH k B.p ++ (planH B.p ++ (seenH B T N ++ F))) byMarks rfl byRes (by first | exact byPart | (simp only [markH_app, seenH_app]; exact byPart)) ⟨rfl, k, ok, MkTo.refl k, hR, by simp only [markH_app, seenH_app]⟩) : G := h
theorem zlv (h : G := by exact KE.meet ⟨b5⟩ bySub (by first | exact byPart | (simp only [markH_app, seenH_app]; exact byPart)) trivial) : G := h
theorem zlw (h : G := by exact KE.meet ⟨k⟩ bySub (by first | exact byPart | (simp only [markH_app, seenH_app]; exact byPart)) ⟨ok, MkTo.refl k, hR⟩) : G := h
theorem zf9 (k : G') (h : Hid G' → G := by intro zk0; refine KD.y0 rfl rfl rfl rfl (Val.loadP rfl rfl (Sees.sl (Sli.own byTakeL (by assumption) byLen) (by assumption) rfl)) ?_; exact zk0.1) : G := h ⟨k⟩
theorem zfb (k : G') (h : Hid G' → G := by intro zk0; refine KE.next (K.condF rfl (K.skip (KE.next (K.seq (K.region ?_))))); exact zk0.1) : G := h ⟨k⟩
theorem zlx (k : G') (h : Hid G' → G := by intro zk0; refine K.drawn [] [(0, 0), (1, 0), (2, 0), (3, 0), (4, 0), (5, 0), (6, 0), (7, 0), (8, 2)] (by kernel_rfl) (by kernel_rfl) (by kernel_rfl) (by kernel_rfl) (by kernel_rfl) (by kernel_rfl) Part.nil ?_; exact zk0.1) : G := h ⟨k⟩
theorem zly (h : G := by exact KE.fin byMarks rfl byRes (by first | exact byPart | (simp only [markH_app, seenH_app]; exact byPart)) (.inl ⟨hq, rfl, rfl⟩)) : G := h
theorem zfc (h : G := by exact KE.fin byMarks rfl byRes byPart ⟨q, [], hK, rfl, rfl⟩) : G := h
theorem zaZ (k : G') (h : Hid G' → G := by intro zk0; refine KL.v rfl (Val.fieldAddr0 (k := 14) rfl rfl) ?_; exact zk0.1) : G := h ⟨k⟩
theorem zjk (h : G := by exact KE.fin byMarks rfl byRes byPart ⟨q', N, hK', rfl, rfl⟩) : G := h
theorem zeh (k : G') (h : Hid G' → G := by intro zk0; refine KL.v rfl (Val.fieldAddr0 (k := 12) rfl rfl) ?_; exact zk0.1) : G := h ⟨k⟩
theorem zdM (k : G') (h : Hid G' → G := by intro zk0; refine KL.v rfl (Val.fieldAddr0 (k := 10) rfl rfl) ?_; exact zk0.1) : G := h ⟨k⟩
theorem zii (k : G') (h : Hid G' → G := by intro zk0; refine KD.v0 rfl rfl (Val.fieldAddr0 (k := 9) rfl rfl) ?_; exact zk0.1) : G := h ⟨k⟩
theorem zij (k : G') (h : Hid G' → G := by intro zk0; refine KD.v0 rfl rfl (Val.fieldAddr0 (k := 10) rfl rfl) ?_; exact zk0.1) : G := h ⟨k⟩
theorem zkr (k : G') (h : Hid G' → G := by intro zk0; refine KE.next (K.condF rfl (K.skip (KE.next (K.seq (K.seq (K.region ?_)))))); exact zk0.1) : G := h ⟨k⟩
theorem zlz (h : G := by exact KE.fin (H' := (N2 ++ N1) ++ (D ++ F)) byMarks rfl byRes (by simp only [List.append_assoc]; exact byPart) ⟨q', N2 ++ N1, by simp only [List.append_assoc]; exact hK2, rfl, by simp only [List.append_assoc]⟩) : G := h
theorem zik (k : G') (h : Hid G' → G := by intro zk0; refine Call.enter2 (n := 63) (by kernel_rfl) Tryz.func206 rfl rfl rfl ?_; exact zk0.1) : G := h ⟨k⟩
theorem zil (k : G') (h : Hid G' → G := by intro zk0; refine K.drawn _ [(0, 1), (1, 1), (2, 0), (3, 2), (4, 0)] (by kernel_rfl) (by kernel_rfl) (by kernel_rfl) (by kernel_rfl) (by kernel_rfl) (by kernel_rfl) Part.all ?_; exact zk0.1) : G := h ⟨k⟩
theorem zim (k : G') (h : Hid G' → G := by intro zk0; refine KD.v1 rfl rfl (Val.fieldAddr0 (k := 13) rfl rfl) ?_; exact zk0.1) : G := h ⟨k⟩
theorem zgZ (k : G') (h : Hid G' → G := by intro zk0; refine (CallV.part (CallV.fn (hroots _)) byPart).mono ?_; exact zk0.1) : G := h ⟨k⟩
theorem zjl (k : G') (h : Hid G' → G := by intro zk0; refine KD.v0 rfl rfl (Val.isF (Val.geq rfl rfl) byLt) ?_; exact zk0.1) : G := h ⟨k⟩
theorem zda (k : G') (h : Hid G' → G := by intro zk0; refine KL.v rfl (Val.fieldAddr0 (k := 13) rfl rfl) ?_; exact zk0.1) : G := h ⟨k⟩
theorem zlA (k : G') (h : Hid G' → G := by intro zk0; (first | (refine KL.v rfl (Val.fieldSl (k := 9) rfl rfl) ?_) | (refine KL.v rfl (Val.fieldAddr0 (k := 9) rfl rfl) ?_) | (refine KL.v rfl (Val.fieldAddrZ rfl rfl) ?_) | (refine KL.v rfl (Val.fieldAddr (k := 9) rfl rfl) ?_)); exact zk0.1) : G := h ⟨k⟩
theorem zlB (k : G') (h : Hid G' → G := by intro zk0; (first | (refine KL.v rfl (Val.fieldSl (k := 7) rfl rfl) ?_) | (refine KL.v rfl (Val.fieldAddr0 (k := 7) rfl rfl) ?_) | (refine KL.v rfl (Val.fieldAddrZ rfl rfl) ?_) | (refine KL.v rfl (Val.fieldAddr (k := 7) rfl rfl) ?_)); exact zk0.1) : G := h ⟨k⟩
theorem zlC (k : G') (h : Hid G' → G := by intro zk0; (first | (refine KL.v rfl (Val.isT (Val.gtr rfl rfl) byLt) ?_) | (refine KL.v rfl (Val.isF (Val.gtr rfl rfl) byLt) ?_) | (refine KL.v rfl (Val.gtr rfl rfl) ?_)); exact zk0.1) : G := h ⟨k⟩
theorem zjm (h : G := by exact KE.meet ⟨q, []⟩ bySub (by rw [hso]; unfold kmL; exact byPart) (by rw [hso]; exact hK)) : G := h
theorem zlD (h : G := by exact KE.fin (H' := (N3 ++ (N2 ++ N1)) ++ (D ++ F)) byMarks rfl byRes (by simp only [List.append_assoc]; exact byPart) ⟨q2, N3 ++ (N2 ++ N1), by simp only [List.append_assoc]; exact hK2, rfl, by simp only [List.append_assoc]⟩) : G := h
theorem zmc (k : G') (h : Hid G' → G := by intro zk0; refine Call.enter3 (n := 69) (by kernel_rfl) Tryz.func37 rfl rfl rfl ?_; exact zk0.1) : G := h ⟨k⟩
theorem zlE (k : G') (h : Hid G' → G := by intro zk0; refine (CallV.part (CallV.fn (hac _)) byPart).mono ?_; exact zk0.1) : G := h ⟨k⟩
theorem zjn (k : G') (h : Hid G' → G := by intro zk0; refine K.drawn (_) [(0, 1), (1, 1), (2, 1), (3, 1), (4, 1), (5, 1), (7, 1), (6, 3), (8, 1), (9, 2), (10, 0), (11, 2)] (by kernel_rfl) (by kernel_rfl) (by kernel_rfl) (by kernel_rfl) (by kernel_rfl) (by kernel_rfl) byPart ?_; exact zk0.1) : G := h ⟨k⟩
theorem zjo (k : G') (h : Hid G' → G := by intro zk0; (first | refine KD.v1 rfl rfl (Val.fieldSl (k := 6) rfl rfl) ?_ | refine KD.v1 rfl rfl (Val.fieldAddr0 (k := 6) rfl rfl) ?_ | refine KD.v1 rfl rfl (Val.fieldAddrZ rfl rfl) ?_ | refine KD.v1 rfl rfl (Val.fieldAddr (k := 6) rfl rfl) ?_); exact zk0.1) : G := h ⟨k⟩
theorem zmd (k : G') (h : Hid G' → G := by intro zk0; refine (CallV.fn micros_K).mono ?_; exact zk0.1) : G := h ⟨k⟩
theorem zjp (k : G') (h : Hid G' → G := by intro zk0; (first | refine KD.v1 rfl rfl (Val.indexV (off := 3) rfl rfl rfl rfl rfl (by omega) rfl bySeg) ?_ | refine KD.v1 rfl rfl (Val.indexV (off := 6) rfl rfl rfl rfl rfl (by omega) rfl bySeg) ?_ | refine KD.v1 rfl rfl (Val.indexV (off := 9) rfl rfl rfl rfl rfl (by omega) rfl bySeg) ?_ | refine KD.v1 rfl rfl (Val.indexV (off := 12) rfl rfl rfl rfl rfl (by omega) rfl bySeg) ?_); exact zk0.1) : G := h ⟨k⟩
theorem zme (h : G := by exact KE.meet ⟨b8⟩ bySub (by first | exact byPart | (simp only [markH_app, seenH_app]; exact byPart)) trivial) : G := h
theorem zjq (k : G') (h : Hid G' → G := by intro zk0; (first | refine KD.v0 rfl rfl (Val.indexV (off := 3) rfl rfl rfl rfl rfl (by omega) rfl bySeg) ?_ | refine KD.v0 rfl rfl (Val.indexV (off := 6) rfl rfl rfl rfl rfl (by omega) rfl bySeg) ?_ | refine KD.v0 rfl rfl (Val.indexV (off := 9) rfl rfl rfl rfl rfl (by omega) rfl bySeg) ?_ | refine KD.v0 rfl rfl (Val.indexV (off := 12) rfl rfl rfl rfl rfl (by omega) rfl bySeg) ?_); exact zk0.1) : G := h ⟨k⟩
theorem zmf (k : G') (h : Hid G' → G := by intro zk0; refine K.drawn [] [(0, 0), (1, 0), (2, 0), (3, 0), (4, 0), (5, 0), (6, 0), (7, 0), (8, 0), (9, 0), (10, 0), (11, 0), (12, 0), (13, 0), (14, 0), (15, 0), (16, 0), (17, 2), (18, 0), (19, 0)] (by kernel_rfl) (by kernel_rfl) (by kernel_rfl) (by kernel_rfl) (by kernel_rfl) (by kernel_rfl) Part.nil ?_; exact zk0.1) : G := h ⟨k⟩
theorem zlF (k : G') (h : Hid G' → G := by intro zk0; refine (CallV.part (CallV.fn (hsk _)) (by first | exact byPart | (simp only [markH_app, seenH_app]; exact byPart))).mono ?_; exact zk0.1) : G := h ⟨k⟩
theorem zmg (k : G') (h : Hid G' → G := by intro zk0; refine KD.y0 rfl rfl rfl rfl (Val.notT rfl) ?_; exact zk0.1) : G := h ⟨k⟩
theorem zhz (k : G') (h : Hid G' → G := by intro zk0; refine KD.y0 rfl rfl rfl rfl (Val.fieldSl (k := 2) rfl rfl) ?_; exact zk0.1) : G := h ⟨k⟩
theorem zhA (k : G') (h : Hid G' → G := by intro zk0; refine KD.y0 rfl rfl rfl rfl (Val.neqB rfl rfl rfl) ?_; exact zk0.1) : G := h ⟨k⟩
theorem zin (h : G := by exact KE.fin (H' := markH k B.p ++ (planH B.p ++ (seenH B T N ++ F))) byMarks rfl byRes (by first | exact byPart | (simp only [markH_app, seenH_app]; exact byPart)) ⟨rfl, k, ok, MkTo.refl k, hR, by simp only [markH_app, seenH_app, ha]⟩) : G := h
theorem zks (k : G') (h : Hid G' → G := by intro zk0; refine Call.enter1 (n := 23) (by kernel_rfl) Tryz.func39 rfl rfl rfl ?_; exact zk0.1) : G := h ⟨k⟩
theorem zlG (k : G') (h : Hid G' → G := by intro zk0; refine K.drawn _ [(0, 1), (1, 1), (2, 1), (3, 1), (4, 0), (5, 2), (6, 0), (7, 0), (8, 0), (9, 0), (10, 0), (11, 0), (12, 2), (13, 0), (14, 2)] (by kernel_rfl) (by kernel_rfl) (by kernel_rfl) (by kernel_rfl) (by kernel_rfl) (by kernel_rfl) (Part.take Take.head (Part.drop Part.all)) ?_; exact zk0.1) : G := h ⟨k⟩
theorem zlH (h : G := by exact KE.fin (H' := markH k B.p ++ (planH B.p ++ (seenH B T N ++ F))) byMarks rfl byRes (by first | exact byPart | (simp only [markH_app, seenH_app]; exact byPart)) ⟨rfl, by simp only [markH_app, seenH_app]⟩) : G := h
theorem zmh (k : G') (h : Hid G' → G := by intro zk0; refine Call.enter4 (n := 69) (by kernel_rfl) Tryz.func131 rfl rfl rfl ?_; exact zk0.1) : G := h ⟨k⟩
theorem zcH (k : G') (h : Hid G' → G := by intro zk0; refine (CallV.part (CallV.fn (hcl _)) byPart).mono ?_; exact zk0.1) : G := h ⟨k⟩
theorem zjr (h : G := by exact KE.fin byMarks rfl byRes byPart ⟨q, [], hK, by first | rfl | (rw [hact]; rfl), rfl⟩) : G := h
theorem zga (k : G') (h : Hid G' → G := by intro zk0; refine KL.v rfl (Val.fieldAddr0 (k := 15) rfl rfl) ?_; exact zk0.1) : G := h ⟨k⟩
theorem zjs (h : G := by exact KE.fin byMarks rfl byRes byPart ⟨q', N, hK'.up, rfl, rfl⟩) : G := h
theorem zjt (h : G := by exact KE.fin byMarks rfl byRes byPart ⟨q, [], hK, by first | rfl | (rw [ha]; rfl), rfl⟩) : G := h
theorem zmi (k : G') (h : Hid G' → G := by intro zk0; refine K.drawn _ [(0, 0), (1, 0), (2, 0), (3, 1), (4, 1), (5, 0), (6, 2), (7, 0), (8, 0), (9, 0), (10, 0), (11, 0), (12, 2), (13, 0), (14, 0)] (by kernel_rfl) (by kernel_rfl) (by kernel_rfl) (by kernel_rfl) (by kernel_rfl) (by kernel_rfl) Part.all ?_; exact zk0.1) : G := h ⟨k⟩
theorem zhB (k : G') (h : Hid G' → G := by intro zk0; refine KD.y1 rfl rfl rfl rfl (Val.loadP rfl rfl (Sees.cell byTake rfl)) ?_; exact zk0.1) : G := h ⟨k⟩
theorem zkt (k : G') (h : Hid G' → G := by intro zk0; refine KD.y0 rfl rfl rfl rfl (Val.loadA rfl rfl rfl bySeeN) ?_; exact zk0.1) : G := h ⟨k⟩
theorem zhC (k : G') (h : Hid G' → G := by intro zk0; refine (CallV.part (CallV.fn (hnew _)) byPart).mono ?_; exact zk0.1) : G := h ⟨k⟩
theorem zku (k : G') (h : Hid G' → G := by intro zk0; refine Call.enter1 (n := 33) (by kernel_rfl) Tryz.func38 rfl rfl rfl ?_; exact zk0.1) : G := h ⟨k⟩
theorem zlI (k : G') (h : Hid G' → G := by intro zk0; refine (CallV.part (CallV.fn (hs2 _)) (by first | exact byPart | (simp only [markH_app, seenH_app]; exact byPart))).mono ?_; exact zk0.1) : G := h ⟨k⟩
theorem zlJ (k : G') (h : Hid G' → G := by intro zk0; refine (CallV.part (CallV.fn (hs1 _)) (by first | exact byPart | (simp only [markH_app, seenH_app]; exact byPart))).mono ?_; exact zk0.1) : G := h ⟨k⟩
theorem zio (k : G') (h : Hid G' → G := by intro zk0; refine Call.enter3 (n := 27) (by kernel_rfl) Tryz.func109 rfl rfl rfl ?_; exact zk0.1) : G := h ⟨k⟩
theorem zkv (k : G') (h : Hid G' → G := by intro zk0; refine Call.enter2 (n := 10) (by kernel_rfl) Tryz.func35 rfl rfl rfl ?_; exact zk0.1) : G := h ⟨k⟩
theorem zju (k : G') (h : Hid G' → G := by intro zk0; refine (CallV.fn (mknone_K (k := k) (p := B.p))).mono ?_; exact zk0.1) : G := h ⟨k⟩
theorem zkw (k : G') (h : Hid G' → G := by intro zk0; refine Call.enter1 (n := 5) (by kernel_rfl) Tryz.func43 rfl rfl rfl ?_; exact zk0.1) : G := h ⟨k⟩
theorem zjv (k : G') (h : Hid G' → G := by intro zk0; refine Call.enter2 (n := 36) (by kernel_rfl) Tryz.func41 rfl rfl rfl ?_; exact zk0.1) : G := h ⟨k⟩
theorem zmj (k : G') (h : Hid G' → G := by intro zk0; refine KL.v rfl (Val.fieldAddr (k := 2) rfl rfl) ?_; exact zk0.1) : G := h ⟨k⟩
theorem zip (k : G') (h : Hid G' → G := by intro zk0; refine (CallV.part (CallV.fn (hhas _)) byPart).mono ?_; exact zk0.1) : G := h ⟨k⟩
theorem zei (h : G := by exact KE.fin (H' := wmH ⟨B, T, N, k, v, z, q, D⟩ ++ F) byMarks rfl byRes (by simp only [wmH_app, seenH_app]; exact byPart) ⟨⟨B, T, N, k, v, z, q, D⟩, hX, rfl, rfl⟩) : G := h
theorem zdN (k : G') (h : Hid G' → G := by intro zk0; refine KL.v rfl (Val.fieldAddr (k := 7) rfl rfl) ?_; exact zk0.1) : G := h ⟨k⟩
theorem ziq (k : G') (h : Hid G' → G := by intro zk0; refine Call.enter1 (n := 147) (by kernel_rfl) Tryz.func32 rfl rfl rfl ?_; exact zk0.1) : G := h ⟨k⟩
theorem zir (k : G') (h : Hid G' → G := by intro zk0; refine (CallV.fn (hsm _ byPart)).mono ?_; exact zk0.1) : G := h ⟨k⟩
theorem zkx (k : G') (h : Hid G' → G := by intro zk0; (first | refine KD.v0 rfl rfl (Val.fieldSl (k := 4) rfl rfl) ?_ | refine KD.v0 rfl rfl (Val.fieldAddr0 (k := 4) rfl rfl) ?_ | refine KD.v0 rfl rfl (Val.fieldAddrZ rfl rfl) ?_ | refine KD.v0 rfl rfl (Val.fieldAddr (k := 4) rfl rfl) ?_); exact zk0.1) : G := h ⟨k⟩
theorem zky (k : G') (h : Hid G' → G := by intro zk0; refine Call.post (Call.part hc (by rw [wmH_app, seenH_app]; exact byPart)) ?_; exact zk0.1) : G := h ⟨k⟩
theorem zg0 (k : G') (h : Hid G' → G := by intro zk0; (first | refine KD.v0 rfl rfl (Val.fieldSl (k := 3) rfl rfl) ?_ | refine KD.v0 rfl rfl (Val.fieldAddr0 (k := 3) rfl rfl) ?_ | refine KD.v0 rfl rfl (Val.fieldAddrZ rfl rfl) ?_ | refine KD.v0 rfl rfl (Val.fieldAddr (k := 3) rfl rfl) ?_); exact zk0.1) : G := h ⟨k⟩
theorem zis (k : G') (h : Hid G' → G := by intro zk0; (first | refine KD.v1 rfl rfl (Val.fieldSl (k := 3) rfl rfl) ?_ | refine KD.v1 rfl rfl (Val.fieldAddr0 (k := 3) rfl rfl) ?_ | refine KD.v1 rfl rfl (Val.fieldAddrZ rfl rfl) ?_ | refine KD.v1 rfl rfl (Val.fieldAddr (k := 3) rfl rfl) ?_); exact zk0.1) : G := h ⟨k⟩
theorem zlK (k : G') (h : Hid G' → G := by intro zk0; (first | refine K.seq (K.drawn ((b2, cells [.pointer (some ⟨pb, 0, none⟩), .pointer (some ⟨pt, 0, none⟩), .pointer (some ⟨X.N.b, 0, none⟩), .pointer (some ⟨pk, 0, none⟩), X.z.vr, .int .i64 ((0 : Nat) : Int), X.v.L, X.v.F, X.v.M, .int .i64 ((gOf awC 0).words : Nat), X.v.C, X.z.vt, .int .i64 X.z.gens, X.z.vn, X.q.c, X.v.L, X.v.F, X.v.M, .int .i64 ((gOf awC 0).words : Nat), X.v.C, .int .i64 (awC.grey.toNat : Nat), X.q.u.Q, X.q.u.ow, X.q.u.di, .int .i64 (pgI (newM (gOf awC 0) awC.workers.toNat false).G), .int .i64 ((newM (gOf awC 0) awC.workers.toNat false).G.at_ : Nat), X.q.h, .int .i64 ((newM (gOf awC 0) awC.workers.toNat false).root : Nat), .bool (newM (gOf awC 0) awC.workers.toNat false).act, .int .i64 ((newM (gOf awC 0) awC.workers.toNat false).steps : Nat)] 99) :: []) [(0, 0), (1, 0), (3, 1), (4, 1), (2, 2), (5, 2), (6, 0), (7, 0)] (by kernel_rfl) (by kernel_rfl) (by kernel_rfl) (by kernel_rfl) (by kernel_rfl) (by kernel_rfl) byPart ?_) | refine K.seq (K.seq (K.drawn ((b2, cells [.pointer (some ⟨pb, 0, none⟩), .pointer (some ⟨pt, 0, none⟩), .pointer (some ⟨X.N.b, 0, none⟩), .pointer (some ⟨pk, 0, none⟩), X.z.vr, .int .i64 ((0 : Nat) : Int), X.v.L, X.v.F, X.v.M, .int .i64 ((gOf awC 0).words : Nat), X.v.C, X.z.vt, .int .i64 X.z.gens, X.z.vn, X.q.c, X.v.L, X.v.F, X.v.M, .int .i64 ((gOf awC 0).words : Nat), X.v.C, .int .i64 (awC.grey.toNat : Nat), X.q.u.Q, X.q.u.ow, X.q.u.di, .int .i64 (pgI (newM (gOf awC 0) awC.workers.toNat false).G), .int .i64 ((newM (gOf awC 0) awC.workers.toNat false).G.at_ : Nat), X.q.h, .int .i64 ((newM (gOf awC 0) awC.workers.toNat false).root : Nat), .bool (newM (gOf awC 0) awC.workers.toNat false).act, .int .i64 ((newM (gOf awC 0) awC.workers.toNat false).steps : Nat)] 99) :: []) [(0, 0), (1, 0), (3, 1), (4, 1), (2, 2), (5, 2), (6, 0), (7, 0)] (by kernel_rfl) (by kernel_rfl) (by kernel_rfl) (by kernel_rfl) (by kernel_rfl) (by kernel_rfl) byPart ?_)) | refine K.drawn ((b2, cells [.pointer (some ⟨pb, 0, none⟩), .pointer (some ⟨pt, 0, none⟩), .pointer (some ⟨X.N.b, 0, none⟩), .pointer (some ⟨pk, 0, none⟩), X.z.vr, .int .i64 ((0 : Nat) : Int), X.v.L, X.v.F, X.v.M, .int .i64 ((gOf awC 0).words : Nat), X.v.C, X.z.vt, .int .i64 X.z.gens, X.z.vn, X.q.c, X.v.L, X.v.F, X.v.M, .int .i64 ((gOf awC 0).words : Nat), X.v.C, .int .i64 (awC.grey.toNat : Nat), X.q.u.Q, X.q.u.ow, X.q.u.di, .int .i64 (pgI (newM (gOf awC 0) awC.workers.toNat false).G), .int .i64 ((newM (gOf awC 0) awC.workers.toNat false).G.at_ : Nat), X.q.h, .int .i64 ((newM (gOf awC 0) awC.workers.toNat false).root : Nat), .bool (newM (gOf awC 0) awC.workers.toNat false).act, .int .i64 ((newM (gOf awC 0) awC.workers.toNat false).steps : Nat)] 99) :: []) [(0, 0), (1, 0), (3, 1), (4, 1), (2, 2), (5, 2), (6, 0), (7, 0)] (by kernel_rfl) (by kernel_rfl) (by kernel_rfl) (by kernel_rfl) (by kernel_rfl) (by kernel_rfl) byPart ?_); exact zk0.1) : G := h ⟨k⟩
theorem zg1 (k : G') (h : Hid G' → G := by intro zk0; refine KL.v rfl (Val.fieldAddr (k := 12) rfl rfl) ?_; exact zk0.1) : G := h ⟨k⟩
theorem zjw (k : G') (h : Hid G' → G := by intro zk0; refine KL.nil (KE.next (K.condT rfl (K.skip (KE.next (K.seq (K.block (K.seq (K.seq (K.region ?_))))))))); exact zk0.1) : G := h ⟨k⟩
theorem zkz (k : G') (h : Hid G' → G := by intro zk0; refine Call.enter2 (n := 52) (by kernel_rfl) Tryz.func123 rfl rfl rfl ?_; exact zk0.1) : G := h ⟨k⟩
theorem zjx (k : G') (h : Hid G' → G := by intro zk0; refine Call.enter2 (n := 65) (by kernel_rfl) Tryz.func126 rfl rfl rfl ?_; exact zk0.1) : G := h ⟨k⟩
theorem zmk (k : G') (h : Hid G' → G := by intro zk0; refine Call.enter2 (n := 156) (by kernel_rfl) Tryz.func46 rfl rfl rfl ?_; exact zk0.1) : G := h ⟨k⟩
theorem zkA (k : G') (h : Hid G' → G := by intro zk0; refine KL.v rfl (Val.remN rfl rfl (by omega)) ?_; exact zk0.1) : G := h ⟨k⟩
theorem zml (k : G') (h : Hid G' → G := by intro zk0; refine KL.nil (KE.next (K.block (K.seq (K.seq (K.region ?_))))); exact zk0.1) : G := h ⟨k⟩
theorem zit (h : G := by exact KE.fin byMarks rfl byRes byPart ⟨X2, hX2, rfl, rfl⟩) : G := h
theorem zmm (k : G') (h : Hid G' → G := by intro zk0; refine KL.nil (KE.next (K.condF rfl (K.seq (K.seq (K.region ?_))))); exact zk0.1) : G := h ⟨k⟩
theorem zhD (k : G') (h : Hid G' → G := by intro zk0; refine (CallV.part (CallV.fn (hhas _)) (by simp only [wmH_app, seenH_app]; exact byPart)).mono ?_; exact zk0.1) : G := h ⟨k⟩
theorem zlL (k : G') (h : Hid G' → G := by intro zk0; refine (CallV.part (CallV.fn (hsh _)) (by simp only [wmH_app, seenH_app, List.append_assoc]; exact byPart)).mono ?_; exact zk0.1) : G := h ⟨k⟩
theorem zjy (k : G') (h : Hid G' → G := by intro zk0; refine KL.v rfl (Val.fieldAddr (k := 9) rfl rfl) ?_; exact zk0.1) : G := h ⟨k⟩
theorem zlM (h : G := by exact KE.fin (H' := wmH ⟨B, T, N, k', v, z, q', N1 ++ D⟩ ++ F) byMarks rfl byRes (by simp only [wmH_app, seenH_app, List.append_assoc]; exact byPart) ⟨⟨B, T, N, k', v, z, q', N1 ++ D⟩, hX', by dsimp only; rw [kto.b]; rfl, rfl⟩) : G := h
theorem zjz (k : G') (h : Hid G' → G := by intro zk0; refine (CallV.part (CallV.fn (knoneZ_K)) byPart).mono ?_; exact zk0.1) : G := h ⟨k⟩
theorem zmn (k : G') (h : Hid G' → G := by intro zk0; refine (CallV.part (CallV.fn (Slots0_K okp2)) byPart).mono ?_; exact zk0.1) : G := h ⟨k⟩
theorem zkB (h : G := by exact KE.fin (H' := pinsH N' ++ (wmH X ++ (planH p ++ F))) byMarks rfl byRes (by rw [wmH_app, seenH_app]; exact byPart) ⟨.pointer none, 2, pinsH N', .inr ⟨by omega, rfl, rfl⟩, rfl, by rw [wmH_app, seenH_app]⟩) : G := h
theorem zg2 (k : G') (h : Hid G' → G := by intro zk0; refine (CallV.fn (hno _ byPart)).mono ?_; exact zk0.1) : G := h ⟨k⟩
theorem zdb (k : G') (h : Hid G' → G := by intro zk0; refine (CallV.fn (hawake _)).mono ?_; exact zk0.1) : G := h ⟨k⟩
theorem zg3 (k : G') (h : Hid G' → G := by intro zk0; refine (CallV.fn (hmade _ byPart)).mono ?_; exact zk0.1) : G := h ⟨k⟩
theorem zkC (k : G') (h : Hid G' → G := by intro zk0; refine K.loopT (σ := LmA) [(1, _), (2, _), (7, _)] (fun s kp_ => (9, .int .i64 (s.i : Nat)) :: kp_) (fun s => wmH s.X ++ ((b7, cells (wmL g long s.X s.S.k) 99) :: F)) (fun s => s.i ≤ l.length ∧ WmR w0 g long 1 s.X s.S ∧ s.S.m = newM g nw false ∧ s.S.k = s.S.m) (fun s => l.length - s.i) (⟨0, X, S0⟩) bySub byPart (⟨Nat.zero_le _, hX, hS0, hk0⟩) ?_; exact zk0.1) : G := h ⟨k⟩
theorem zhE (k : G') (h : Hid G' → G := by intro zk0; (first | refine K.seq (K.drawn ([]) [(0, 0), (1, 0), (2, 0), (3, 0), (4, 0), (5, 2), (6, 0), (7, 0), (8, 1), (9, 2)] (by kernel_rfl) (by kernel_rfl) (by kernel_rfl) (by kernel_rfl) (by kernel_rfl) (by kernel_rfl) byPart ?_) | refine K.seq (K.seq (K.drawn ([]) [(0, 0), (1, 0), (2, 0), (3, 0), (4, 0), (5, 2), (6, 0), (7, 0), (8, 1), (9, 2)] (by kernel_rfl) (by kernel_rfl) (by kernel_rfl) (by kernel_rfl) (by kernel_rfl) (by kernel_rfl) byPart ?_)) | refine K.drawn ([]) [(0, 0), (1, 0), (2, 0), (3, 0), (4, 0), (5, 2), (6, 0), (7, 0), (8, 1), (9, 2)] (by kernel_rfl) (by kernel_rfl) (by kernel_rfl) (by kernel_rfl) (by kernel_rfl) (by kernel_rfl) byPart ?_); exact zk0.1) : G := h ⟨k⟩
theorem zg4 (k : G') (h : Hid G' → G := by intro zk0; refine (CallV.part (CallV.fn (hdoes _)) byPart).mono ?_; exact zk0.1) : G := h ⟨k⟩
theorem zmo (k : G') (h : Hid G' → G := by intro zk0; refine KL.v rfl (Val.add rfl rfl (by simp only [Go.Proofs.YtalholahapcpkaaGreatDoor.lo, Go.Proofs.YtalholahapcpkaaGreatDoor.hi]; omega)) ?_; exact zk0.1) : G := h ⟨k⟩
theorem zjA (h : G := by exact KE.again ⟨i + 1, X2, S2⟩ bySub byPart ⟨h1, hX2, hm2, hk2⟩ (by show l.length - (i + 1) < l.length - i; omega)) : G := h
theorem zgb (h : G := by exact KE.meet ⟨0, X1, S1⟩ bySub byPart ⟨hX1, hm1, hk1⟩) : G := h
theorem ziu (k : G') (h : Hid G' → G := by intro zk0; refine (CallV.part (CallV.fn (mStart_K hX6 rfl rfl (by decide))) byPart).mono ?_; exact zk0.1) : G := h ⟨k⟩
theorem zjB (k : G') (h : Hid G' → G := by intro zk0; (first | refine K.seq (K.drawn ([]) [(0, 0), (1, 0), (2, 0), (3, 0), (4, 0), (5, 0), (6, 0), (7, 0), (8, 0), (9, 0), (10, 0), (11, 0), (12, 2)] (by kernel_rfl) (by kernel_rfl) (by kernel_rfl) (by kernel_rfl) (by kernel_rfl) (by kernel_rfl) byPart ?_) | refine K.seq (K.seq (K.drawn ([]) [(0, 0), (1, 0), (2, 0), (3, 0), (4, 0), (5, 0), (6, 0), (7, 0), (8, 0), (9, 0), (10, 0), (11, 0), (12, 2)] (by kernel_rfl) (by kernel_rfl) (by kernel_rfl) (by kernel_rfl) (by kernel_rfl) (by kernel_rfl) byPart ?_)) | refine K.drawn ([]) [(0, 0), (1, 0), (2, 0), (3, 0), (4, 0), (5, 0), (6, 0), (7, 0), (8, 0), (9, 0), (10, 0), (11, 0), (12, 2)] (by kernel_rfl) (by kernel_rfl) (by kernel_rfl) (by kernel_rfl) (by kernel_rfl) (by kernel_rfl) byPart ?_); exact zk0.1) : G := h ⟨k⟩
theorem zjC (k : G') (h : Hid G' → G := by intro zk0; (first | refine KD.v0 rfl rfl (Val.fieldSl (k := 5) rfl rfl) ?_ | refine KD.v0 rfl rfl (Val.fieldAddr0 (k := 5) rfl rfl) ?_ | refine KD.v0 rfl rfl (Val.fieldAddrZ rfl rfl) ?_ | refine KD.v0 rfl rfl (Val.fieldAddr (k := 5) rfl rfl) ?_); exact zk0.1) : G := h ⟨k⟩
theorem zkD (h : G := by exact KE.again ⟨i + 1, k3, _⟩ bySub byPart ⟨h1, hb3, hX3, hg2.tryM⟩ (by show st.length - (i + 1) < st.length - i; omega)) : G := h
theorem zgc (h : G := by exact KE.meet ⟨0, k2, m2⟩ bySub byPart ⟨hb2, hX2, hg2⟩) : G := h
theorem zlN (k : G') (h : Hid G' → G := by intro zk0; (first | refine KD.no rfl rfl rfl rfl rfl ?_ | refine KD.noU rfl rfl rfl rfl rfl ?_ | refine KD.y1 rfl rfl rfl rfl (Val.fieldSl (k := 4) rfl rfl) ?_ | refine KD.y1 rfl rfl rfl rfl (Val.fieldAddr0 (k := 4) rfl rfl) ?_ | refine KD.y1 rfl rfl rfl rfl (Val.fieldAddrZ rfl rfl) ?_ | refine KD.y1 rfl rfl rfl rfl (Val.fieldAddr (k := 4) rfl rfl) ?_); exact zk0.1) : G := h ⟨k⟩
theorem zlO (k : G') (h : Hid G' → G := by intro zk0; (first | refine KD.no rfl rfl rfl rfl rfl ?_ | refine KD.noU rfl rfl rfl rfl rfl ?_ | refine KD.y1 rfl rfl rfl rfl (Val.fieldSl (k := 0) rfl rfl) ?_ | refine KD.y1 rfl rfl rfl rfl (Val.fieldAddr0 (k := 0) rfl rfl) ?_ | refine KD.y1 rfl rfl rfl rfl (Val.fieldAddrZ rfl rfl) ?_ | refine KD.y1 rfl rfl rfl rfl (Val.fieldAddr (k := 0) rfl rfl) ?_); exact zk0.1) : G := h ⟨k⟩
theorem zlP (k : G') (h : Hid G' → G := by intro zk0; (first | refine KD.no rfl rfl rfl rfl rfl ?_ | refine KD.noU rfl rfl rfl rfl rfl ?_ | refine KD.y1 rfl rfl rfl rfl (Val.loadP rfl rfl bySee) ?_ | refine KD.y1 rfl rfl rfl rfl (Val.loadP rfl rfl (Sees.more (by assumption) byPart)) ?_); exact zk0.1) : G := h ⟨k⟩
theorem zjD (h : G := by exact KE.again ⟨j + 1⟩ bySub byPart hjl (by show out.length - (j + 1) < out.length - j; omega)) : G := h
theorem zlQ (k : G') (h : Hid G' → G := by intro zk0; (first | refine K.seq (K.drawn ([]) [(0, 0), (1, 0), (2, 0), (3, 0), (4, 0), (5, 2), (6, 0), (7, 0), (8, 1), (9, 2), (10, 0)] (by kernel_rfl) (by kernel_rfl) (by kernel_rfl) (by kernel_rfl) (by kernel_rfl) (by kernel_rfl) byPart ?_) | refine K.seq (K.seq (K.drawn ([]) [(0, 0), (1, 0), (2, 0), (3, 0), (4, 0), (5, 2), (6, 0), (7, 0), (8, 1), (9, 2), (10, 0)] (by kernel_rfl) (by kernel_rfl) (by kernel_rfl) (by kernel_rfl) (by kernel_rfl) (by kernel_rfl) byPart ?_)) | refine K.drawn ([]) [(0, 0), (1, 0), (2, 0), (3, 0), (4, 0), (5, 2), (6, 0), (7, 0), (8, 1), (9, 2), (10, 0)] (by kernel_rfl) (by kernel_rfl) (by kernel_rfl) (by kernel_rfl) (by kernel_rfl) (by kernel_rfl) byPart ?_); exact zk0.1) : G := h ⟨k⟩
theorem zkE (k : G') (h : Hid G' → G := by intro zk0; refine (CallV.part (CallV.fn (mOf_K hX8 hb7 hc)) byPart).mono ?_; exact zk0.1) : G := h ⟨k⟩
theorem zkF (k : G') (h : Hid G' → G := by intro zk0; refine KL.v rfl (Val.sub rfl rfl (by simp only [Go.Proofs.YtalholahapcpkaaGreatDoor.lo, Go.Proofs.YtalholahapcpkaaGreatDoor.hi]; omega)) ?_; exact zk0.1) : G := h ⟨k⟩
theorem zkG (k : G') (h : Hid G' → G := by intro zk0; refine KD.y0 rfl rfl rfl rfl (Val.isF (Val.neq rfl rfl) byLt) ?_; exact zk0.1) : G := h ⟨k⟩
theorem zu (k : G') (h : Hid G' → G := by intro zk0; refine zf ?_; refine zm ?_; exact zk0.1) : G := h ⟨k⟩
theorem za0 (k : G') (h : Hid G' → G := by intro zk0; refine zA ?_; refine zb9 ?_; exact zk0.1) : G := h ⟨k⟩
theorem zt (k : G') (h : Hid G' → G := by intro zk0; refine za0 ?_; refine zea ?_; exact zk0.1) : G := h ⟨k⟩
theorem zaa (k : G') (h : Hid G' → G := by intro zk0; refine zu ?_; refine zu ?_; exact zk0.1) : G := h ⟨k⟩
theorem zg5 (k : G') (h : Hid G' → G := by intro zk0; refine zfY ?_; refine zfY ?_; exact zk0.1) : G := h ⟨k⟩
theorem zr (k : G') (h : Hid G' → G := by intro zk0; refine zA ?_; refine zy ?_; exact zk0.1) : G := h ⟨k⟩
theorem zal (k : G') (h : Hid G' → G := by intro zk0; refine zA ?_; refine zbM ?_; exact zk0.1) : G := h ⟨k⟩
theorem zh (k : G') (h : Hid G' → G := by intro zk0; refine zf ?_; refine zg ?_; exact zk0.1) : G := h ⟨k⟩
theorem zfd (k : G') (h : Hid G' → G := by intro zk0; refine zjO ?_; refine zjO ?_; exact zk0.1) : G := h ⟨k⟩
theorem ze (k : G') (h : Hid G' → G := by intro zk0; refine zS ?_; refine zd ?_; exact zk0.1) : G := h ⟨k⟩
theorem zai (k : G') (h : Hid G' → G := by intro zk0; refine zf ?_; refine zfd ?_; exact zk0.1) : G := h ⟨k⟩
theorem zj (k : G') (h : Hid G' → G := by intro zk0; refine zf ?_; refine zf ?_; exact zk0.1) : G := h ⟨k⟩
theorem ziv (k : G') (h : Hid G' → G := by intro zk0; refine zk ?_; refine zm ?_; exact zk0.1) : G := h ⟨k⟩
theorem zbl (k : G') (h : Hid G' → G := by intro zk0; refine zq ?_; refine zeW ?_; intro v0; revert v0; exact zk0.1) : G := h ⟨k⟩
theorem zaR (k : G') (h : Hid G' → G := by intro zk0; refine zm ?_; refine ziv ?_; exact zk0.1) : G := h ⟨k⟩
theorem zcs (k : G') (h : Hid G' → G := by intro zk0; refine zf ?_; refine zg5 ?_; exact zk0.1) : G := h ⟨k⟩
theorem zT (k : G') (h : Hid G' → G := by intro zk0; refine zal ?_; refine zf ?_; exact zk0.1) : G := h ⟨k⟩
theorem zam (k : G') (h : Hid G' → G := by intro zk0; refine zt ?_; refine zaH ?_; exact zk0.1) : G := h ⟨k⟩
theorem zag (k : G') (h : Hid G' → G := by intro zk0; refine zai ?_; refine zA ?_; exact zk0.1) : G := h ⟨k⟩
theorem zJ (k : G') (h : Hid G' → G := by intro zk0; refine zaM ?_; refine zk ?_; exact zk0.1) : G := h ⟨k⟩
theorem zbE (k : G') (h : Hid G' → G := by intro zk0; refine zA ?_; refine zap ?_; exact zk0.1) : G := h ⟨k⟩
theorem zba (k : G') (h : Hid G' → G := by intro zk0; refine zn ?_; refine zaa ?_; exact zk0.1) : G := h ⟨k⟩
theorem zw (h : G := by refine zt ?_; exact zaU) : G := h
theorem zb3 (k : G') (h : Hid G' → G := by intro zk0; refine zbl ?_; intro v0; refine zeW ?_; intro v1; revert v0 v1; exact zk0.1) : G := h ⟨k⟩
theorem zav (k : G') (h : Hid G' → G := by intro zk0; refine zr ?_; refine zf ?_; exact zk0.1) : G := h ⟨k⟩
theorem zjE (k : G') (h : Hid G' → G := by intro zk0; refine zl4 ?_; refine zk6 ?_; exact zk0.1) : G := h ⟨k⟩
theorem zbF (k : G') (h : Hid G' → G := by intro zk0; refine zcs ?_; refine zg5 ?_; exact zk0.1) : G := h ⟨k⟩
theorem ziw (k : G') (h : Hid G' → G := by intro zk0; refine zjE ?_; refine zk6 ?_; refine ziL ?_; exact zk0.1) : G := h ⟨k⟩
theorem zU (k : G') (h : Hid G' → G := by intro zk0; refine zcp ?_; refine zk ?_; exact zk0.1) : G := h ⟨k⟩
theorem zix (k : G') (h : Hid G' → G := by intro zk0; refine zH ?_; refine zA ?_; exact zk0.1) : G := h ⟨k⟩
theorem zlR (k : G') (h : Hid G' → G := by intro zk0; refine zbY ?_; refine zhR ?_; exact zk0.1) : G := h ⟨k⟩
theorem zcI (k : G') (h : Hid G' → G := by intro zk0; refine zc1 ?_; refine zj ?_; exact zk0.1) : G := h ⟨k⟩
theorem zay (k : G') (h : Hid G' → G := by intro zk0; refine zaI ?_; intro v0; refine z9 ?_; revert v0; exact zk0.1) : G := h ⟨k⟩
theorem zp (k : G') (h : Hid G' → G := by intro zk0; refine zB ?_; refine zg ?_; exact zk0.1) : G := h ⟨k⟩
theorem zaj (k : G') (h : Hid G' → G := by intro zk0; refine zq ?_; refine zA ?_; exact zk0.1) : G := h ⟨k⟩
theorem zbO (k : G') (h : Hid G' → G := by intro zk0; refine zl3 ?_; refine ziw ?_; exact zk0.1) : G := h ⟨k⟩
theorem zaq (k : G') (h : Hid G' → G := by intro zk0; refine zbl ?_; intro v0; refine zaI ?_; intro v1; revert v0 v1; exact zk0.1) : G := h ⟨k⟩
theorem zv (k : G') (h : Hid G' → G := by intro zk0; refine zc1 ?_; refine zf ?_; exact zk0.1) : G := h ⟨k⟩
theorem zjF (k : G') (h : Hid G' → G := by intro zk0; refine zlR ?_; refine zf ?_; exact zk0.1) : G := h ⟨k⟩
theorem zb4 (k : G') (h : Hid G' → G := by intro zk0; refine zb3 ?_; intro v0 v1; refine zaI ?_; intro v2; revert v0 v1 v2; exact zk0.1) : G := h ⟨k⟩
theorem zdO (k : G') (h : Hid G' → G := by intro zk0; refine zfV ?_; refine zaH ?_; exact zk0.1) : G := h ⟨k⟩
theorem zcJ (k : G') (h : Hid G' → G := by intro zk0; refine zB ?_; refine z9 ?_; exact zk0.1) : G := h ⟨k⟩
theorem zfe (k : G') (h : Hid G' → G := by intro zk0; refine zP ?_; refine zE ?_; exact zk0.1) : G := h ⟨k⟩
theorem zbm (k : G') (h : Hid G' → G := by intro zk0; refine zaw ?_; refine zV ?_; exact zk0.1) : G := h ⟨k⟩
theorem zgd (k : G') (h : Hid G' → G := by intro zk0; refine zbD ?_; refine zbD ?_; exact zk0.1) : G := h ⟨k⟩
theorem zz (k : G') (h : Hid G' → G := by intro zk0; refine zB ?_; refine zh ?_; exact zk0.1) : G := h ⟨k⟩
theorem z6 (k : G') (h : Hid G' → G := by intro zk0; refine zcp ?_; refine zaR ?_; exact zk0.1) : G := h ⟨k⟩
theorem zar (h : G := by refine zam ?_; exact zaU) : G := h
theorem zcK (k : G') (h : Hid G' → G := by intro zk0; refine zQ ?_; refine zbE ?_; exact zk0.1) : G := h ⟨k⟩
theorem zK (k : G') (h : Hid G' → G := by intro zk0; refine zo ?_; refine zca ?_; exact zk0.1) : G := h ⟨k⟩
theorem zaS (k : G') (h : Hid G' → G := by intro zk0; refine zP ?_; refine zm ?_; exact zk0.1) : G := h ⟨k⟩
theorem zbn (k : G') (h : Hid G' → G := by intro zk0; refine zC ?_; refine zu ?_; exact zk0.1) : G := h ⟨k⟩
theorem zW (k : G') (h : Hid G' → G := by intro zk0; refine zbl ?_; intro v0; refine zr ?_; revert v0; exact zk0.1) : G := h ⟨k⟩
theorem zX (k : G') (h : Hid G' → G := by intro zk0; refine zf ?_; refine zac ?_; exact zk0.1) : G := h ⟨k⟩
theorem zL (k : G') (h : Hid G' → G := by intro zk0; refine zA ?_; refine zt ?_; exact zk0.1) : G := h ⟨k⟩
theorem zbo (k : G') (h : Hid G' → G := by intro zk0; refine zk ?_; refine zf ?_; exact zk0.1) : G := h ⟨k⟩
theorem zdc (k : G') (h : Hid G' → G := by intro zk0; refine zjW ?_; refine zk ?_; exact zk0.1) : G := h ⟨k⟩
theorem z7 (k : G') (h : Hid G' → G := by intro zk0; refine zC ?_; refine zI ?_; exact zk0.1) : G := h ⟨k⟩
theorem zbP (k : G') (h : Hid G' → G := by intro zk0; refine zix ?_; refine zla ?_; exact zk0.1) : G := h ⟨k⟩
theorem zas (k : G') (h : Hid G' → G := by intro zk0; refine za8 ?_; refine zk ?_; exact zk0.1) : G := h ⟨k⟩
theorem zan (k : G') (h : Hid G' → G := by intro zk0; refine zn ?_; refine zM ?_; exact zk0.1) : G := h ⟨k⟩
theorem zbp (k : G') (h : Hid G' → G := by intro zk0; refine zai ?_; refine zay ?_; intro v0; revert v0; exact zk0.1) : G := h ⟨k⟩
theorem zdP (k : G') (h : Hid G' → G := by intro zk0; refine zal ?_; refine zh ?_; exact zk0.1) : G := h ⟨k⟩
theorem zge (k : G') (h : Hid G' → G := by intro zk0; refine zcs ?_; refine zfY ?_; exact zk0.1) : G := h ⟨k⟩
theorem zcL (k : G') (h : Hid G' → G := by intro zk0; refine zA ?_; refine zA ?_; exact zk0.1) : G := h ⟨k⟩
theorem zct (k : G') (h : Hid G' → G := by intro zk0; refine zbF ?_; refine zg5 ?_; exact zk0.1) : G := h ⟨k⟩
theorem zbb (k : G') (h : Hid G' → G := by intro zk0; refine zf ?_; refine zh ?_; exact zk0.1) : G := h ⟨k⟩
theorem zbq (k : G') (h : Hid G' → G := by intro zk0; refine zjF ?_; refine zcK ?_; exact zk0.1) : G := h ⟨k⟩
theorem zkH (k : G') (h : Hid G' → G := by intro zk0; refine zaa ?_; refine zR ?_; exact zk0.1) : G := h ⟨k⟩
theorem zaD (k : G') (h : Hid G' → G := by intro zk0; refine zaM ?_; refine zaR ?_; exact zk0.1) : G := h ⟨k⟩
theorem zcd (k : G') (h : Hid G' → G := by intro zk0; refine zo ?_; refine zo ?_; exact zk0.1) : G := h ⟨k⟩
theorem zG (k : G') (h : Hid G' → G := by intro zk0; refine zag ?_; refine zT ?_; exact zk0.1) : G := h ⟨k⟩
theorem zbG (k : G') (h : Hid G' → G := by intro zk0; refine zR ?_; refine zaa ?_; exact zk0.1) : G := h ⟨k⟩
theorem zhF (k : G') (h : Hid G' → G := by intro zk0; refine zac ?_; refine zm ?_; exact zk0.1) : G := h ⟨k⟩
theorem zaE (k : G') (h : Hid G' → G := by intro zk0; refine zA ?_; refine zhf ?_; exact zk0.1) : G := h ⟨k⟩
theorem zaT (k : G') (h : Hid G' → G := by intro zk0; refine za8 ?_; refine zaR ?_; exact zk0.1) : G := h ⟨k⟩
theorem zhG (k : G') (h : Hid G' → G := by intro zk0; refine zb9 ?_; refine zea ?_; exact zk0.1) : G := h ⟨k⟩
theorem zat (k : G') (h : Hid G' → G := by intro zk0; refine zbA ?_; refine zI ?_; exact zk0.1) : G := h ⟨k⟩
theorem ziy (k : G') (h : Hid G' → G := by intro zk0; refine zA ?_; refine zal ?_; exact zk0.1) : G := h ⟨k⟩
theorem zjG (k : G') (h : Hid G' → G := by intro zk0; refine zcE ?_; refine zea ?_; exact zk0.1) : G := h ⟨k⟩
theorem zab (k : G') (h : Hid G' → G := by intro zk0; refine zS ?_; refine zi ?_; exact zk0.1) : G := h ⟨k⟩
theorem zdd (k : G') (h : Hid G' → G := by intro zk0; refine zP ?_; refine zR ?_; exact zk0.1) : G := h ⟨k⟩
theorem zlS (k : G') (h : Hid G' → G := by intro zk0; simp only [rowH_app, planH_app, memH_app, bodyH_app]; refine zag ?_; exact zk0.1) : G := h ⟨k⟩
theorem za1 (k : G') (h : Hid G' → G := by intro zk0; refine zD ?_; refine zaa ?_; exact zk0.1) : G := h ⟨k⟩
theorem zff (k : G') (h : Hid G' → G := by intro zk0; refine zbY ?_; refine zaN ?_; exact zk0.1) : G := h ⟨k⟩
theorem zgf (k : G') (h : Hid G' → G := by intro zk0; refine zcI ?_; refine zfe ?_; exact zk0.1) : G := h ⟨k⟩
theorem za2 (k : G') (h : Hid G' → G := by intro zk0; refine zbm ?_; refine zjG ?_; exact zk0.1) : G := h ⟨k⟩
theorem zej (k : G') (h : Hid G' → G := by intro zk0; refine zkH ?_; refine zba ?_; exact zk0.1) : G := h ⟨k⟩
theorem zde (k : G') (h : Hid G' → G := by intro zk0; refine zkc ?_; refine zV ?_; exact zk0.1) : G := h ⟨k⟩
theorem zb5 (k : G') (h : Hid G' → G := by intro zk0; refine zx ?_; refine zo ?_; exact zk0.1) : G := h ⟨k⟩
theorem zao (k : G') (h : Hid G' → G := by intro zk0; refine zbp ?_; intro v0; refine zT ?_; revert v0; exact zk0.1) : G := h ⟨k⟩
theorem zek (k : G') (h : Hid G' → G := by intro zk0; refine zge ?_; refine zn ?_; exact zk0.1) : G := h ⟨k⟩
theorem zaz (k : G') (h : Hid G' → G := by intro zk0; refine zn ?_; refine zI ?_; exact zk0.1) : G := h ⟨k⟩
theorem zaF (k : G') (h : Hid G' → G := by intro zk0; refine zm ?_; refine zu ?_; exact zk0.1) : G := h ⟨k⟩
theorem zbc (k : G') (h : Hid G' → G := by intro zk0; refine zq ?_; refine zdP ?_; exact zk0.1) : G := h ⟨k⟩
theorem zjH (k : G') (h : Hid G' → G := by intro zk0; refine zai ?_; refine zjO ?_; exact zk0.1) : G := h ⟨k⟩
theorem zfg (k : G') (h : Hid G' → G := by intro zk0; refine zbO ?_; refine zaN ?_; exact zk0.1) : G := h ⟨k⟩
theorem zce (k : G') (h : Hid G' → G := by intro zk0; refine zn ?_; refine za7 ?_; exact zk0.1) : G := h ⟨k⟩
theorem zg6 (k : G') (h : Hid G' → G := by intro zk0; refine zA ?_; refine zI ?_; exact zk0.1) : G := h ⟨k⟩
theorem zbH (k : G') (h : Hid G' → G := by intro zk0; refine zq ?_; refine zr ?_; exact zk0.1) : G := h ⟨k⟩
theorem zaA (k : G') (h : Hid G' → G := by intro zk0; refine zN ?_; refine zy ?_; exact zk0.1) : G := h ⟨k⟩
theorem zaB (k : G') (h : Hid G' → G := by intro zk0; refine zD ?_; refine zM ?_; exact zk0.1) : G := h ⟨k⟩
theorem zcf (k : G') (h : Hid G' → G := by intro zk0; refine zU ?_; refine zg ?_; exact zk0.1) : G := h ⟨k⟩
theorem zbd (k : G') (h : Hid G' → G := by intro zk0; refine zo ?_; refine zaX ?_; exact zk0.1) : G := h ⟨k⟩
theorem zaG (k : G') (h : Hid G' → G := by intro zk0; refine zF ?_; refine zM ?_; exact zk0.1) : G := h ⟨k⟩
theorem zlT (k : G') (h : Hid G' → G := by intro zk0; refine zmo ?_; refine zbE ?_; exact zk0.1) : G := h ⟨k⟩
theorem zaC (k : G') (h : Hid G' → G := by intro zk0; refine zB ?_; refine zbb ?_; exact zk0.1) : G := h ⟨k⟩
theorem zcM (k : G') (h : Hid G' → G := by intro zk0; refine zq ?_; refine zav ?_; exact zk0.1) : G := h ⟨k⟩
theorem zbe (k : G') (h : Hid G' → G := by intro zk0; refine zm ?_; refine zbA ?_; exact zk0.1) : G := h ⟨k⟩
theorem zgg (k : G') (h : Hid G' → G := by intro zk0; refine zt ?_; refine zdO ?_; exact zk0.1) : G := h ⟨k⟩
theorem zcu (k : G') (h : Hid G' → G := by intro zk0; refine zbk ?_; refine zaX ?_; exact zk0.1) : G := h ⟨k⟩
theorem zdf (k : G') (h : Hid G' → G := by intro zk0; refine zf ?_; refine zbG ?_; exact zk0.1) : G := h ⟨k⟩
theorem zcN (k : G') (h : Hid G' → G := by intro zk0; refine zjH ?_; refine zcL ?_; exact zk0.1) : G := h ⟨k⟩
theorem zdQ (k : G') (h : Hid G' → G := by intro zk0; refine zbZ ?_; refine zhg ?_; exact zk0.1) : G := h ⟨k⟩
theorem zcv (k : G') (h : Hid G' → G := by intro zk0; refine zgd ?_; refine zgd ?_; exact zk0.1) : G := h ⟨k⟩
theorem zcO (k : G') (h : Hid G' → G := by intro zk0; refine zbo ?_; refine zc4 ?_; exact zk0.1) : G := h ⟨k⟩
theorem zgh (k : G') (h : Hid G' → G := by intro zk0; refine zZ ?_; refine zfa ?_; exact zk0.1) : G := h ⟨k⟩
theorem zbr (k : G') (h : Hid G' → G := by intro zk0; refine zjF ?_; refine zlT ?_; exact zk0.1) : G := h ⟨k⟩
theorem zdg (k : G') (h : Hid G' → G := by intro zk0; refine zA ?_; refine zla ?_; exact zk0.1) : G := h ⟨k⟩
theorem ziz (k : G') (h : Hid G' → G := by intro zk0; refine zjW ?_; refine zaR ?_; exact zk0.1) : G := h ⟨k⟩
theorem zbs (k : G') (h : Hid G' → G := by intro zk0; refine zD ?_; refine zba ?_; exact zk0.1) : G := h ⟨k⟩
theorem zcg (k : G') (h : Hid G' → G := by intro zk0; refine za6 ?_; refine zm ?_; exact zk0.1) : G := h ⟨k⟩
theorem zbf (k : G') (h : Hid G' → G := by intro zk0; refine zn ?_; refine zu ?_; exact zk0.1) : G := h ⟨k⟩
theorem za3 (k : G') (h : Hid G' → G := by intro zk0; refine zfe ?_; refine zed ?_; exact zk0.1) : G := h ⟨k⟩
theorem zcP (k : G') (h : Hid G' → G := by intro zk0; refine zfa ?_; refine zk ?_; exact zk0.1) : G := h ⟨k⟩
theorem zdR (k : G') (h : Hid G' → G := by intro zk0; refine zaR ?_; refine zaS ?_; exact zk0.1) : G := h ⟨k⟩
theorem ziA (k : G') (h : Hid G' → G := by intro zk0; refine zcI ?_; refine za6 ?_; exact zk0.1) : G := h ⟨k⟩
theorem zcw (k : G') (h : Hid G' → G := by intro zk0; refine zu ?_; refine zhF ?_; exact zk0.1) : G := h ⟨k⟩
theorem zbt (k : G') (h : Hid G' → G := by intro zk0; refine zq ?_; refine zf ?_; exact zk0.1) : G := h ⟨k⟩
theorem zbu (k : G') (h : Hid G' → G := by intro zk0; refine zq ?_; refine zT ?_; exact zk0.1) : G := h ⟨k⟩
theorem zcQ (k : G') (h : Hid G' → G := by intro zk0; refine zk ?_; refine zQ ?_; exact zk0.1) : G := h ⟨k⟩
theorem zel (k : G') (h : Hid G' → G := by intro zk0; refine zbn ?_; refine z6 ?_; exact zk0.1) : G := h ⟨k⟩
theorem ziB (k : G') (h : Hid G' → G := by intro zk0; refine zo ?_; refine zhT ?_; exact zk0.1) : G := h ⟨k⟩
theorem ziC (k : G') (h : Hid G' → G := by intro zk0; refine zaH ?_; refine zdO ?_; exact zk0.1) : G := h ⟨k⟩
theorem za4 (h : G := by refine zA ?_; exact zw) : G := h
theorem zbv (k : G') (h : Hid G' → G := by intro zk0; refine zag ?_; refine zav ?_; exact zk0.1) : G := h ⟨k⟩
theorem zbQ (k : G') (h : Hid G' → G := by intro zk0; refine zm ?_; refine zF ?_; exact zk0.1) : G := h ⟨k⟩
theorem zdh (h : G := by refine zA ?_; exact zar) : G := h
theorem zgi (k : G') (h : Hid G' → G := by intro zk0; refine zE ?_; refine zC ?_; exact zk0.1) : G := h ⟨k⟩
theorem zdi (k : G') (h : Hid G' → G := by intro zk0; refine zC ?_; refine zaa ?_; exact zk0.1) : G := h ⟨k⟩
theorem zhH (k : G') (h : Hid G' → G := by intro zk0; refine zA ?_; refine zhS ?_; exact zk0.1) : G := h ⟨k⟩
theorem zbg (k : G') (h : Hid G' → G := by intro zk0; refine zcJ ?_; refine zam ?_; exact zk0.1) : G := h ⟨k⟩
theorem zlU (k : G') (h : Hid G' → G := by intro zk0; refine zix ?_; refine zlc ?_; exact zk0.1) : G := h ⟨k⟩
theorem zfh (k : G') (h : Hid G' → G := by intro zk0; refine zB ?_; refine zj ?_; exact zk0.1) : G := h ⟨k⟩
theorem ziD (k : G') (h : Hid G' → G := by intro zk0; refine zF ?_; refine zej ?_; exact zk0.1) : G := h ⟨k⟩
theorem zdj (k : G') (h : Hid G' → G := by intro zk0; refine zfX ?_; refine zx ?_; exact zk0.1) : G := h ⟨k⟩
theorem zg7 (k : G') (h : Hid G' → G := by intro zk0; refine zW ?_; intro v0; refine zJ ?_; revert v0; exact zk0.1) : G := h ⟨k⟩
theorem za5 (k : G') (h : Hid G' → G := by intro zk0; refine zbl ?_; intro v0; refine ziy ?_; revert v0; exact zk0.1) : G := h ⟨k⟩
theorem zgj (k : G') (h : Hid G' → G := by intro zk0; refine z9 ?_; refine zt ?_; exact zk0.1) : G := h ⟨k⟩
theorem zbw (k : G') (h : Hid G' → G := by intro zk0; refine zag ?_; refine zr ?_; exact zk0.1) : G := h ⟨k⟩
theorem zbh (k : G') (h : Hid G' → G := by intro zk0; refine zdc ?_; refine zg ?_; exact zk0.1) : G := h ⟨k⟩
theorem zdS (k : G') (h : Hid G' → G := by intro zk0; refine zgP ?_; refine zeb ?_; exact zk0.1) : G := h ⟨k⟩
theorem zlV (k : G') (h : Hid G' → G := by intro zk0; refine zcd ?_; refine zhh ?_; exact zk0.1) : G := h ⟨k⟩
theorem zbx (k : G') (h : Hid G' → G := by intro zk0; refine zcJ ?_; refine zhG ?_; exact zk0.1) : G := h ⟨k⟩
theorem zbR (k : G') (h : Hid G' → G := by intro zk0; refine za9 ?_; refine zV ?_; exact zk0.1) : G := h ⟨k⟩
theorem ziE (k : G') (h : Hid G' → G := by intro zk0; refine zu ?_; refine zaD ?_; exact zk0.1) : G := h ⟨k⟩
theorem zch (k : G') (h : Hid G' → G := by intro zk0; refine zm ?_; refine zaa ?_; exact zk0.1) : G := h ⟨k⟩
theorem zci (k : G') (h : Hid G' → G := by intro zk0; refine zm ?_; refine zC ?_; exact zk0.1) : G := h ⟨k⟩
theorem zem (k : G') (h : Hid G' → G := by intro zk0; refine ze3 ?_; refine zk ?_; exact zk0.1) : G := h ⟨k⟩
theorem zgk (k : G') (h : Hid G' → G := by intro zk0; refine zaJ ?_; refine zan ?_; exact zk0.1) : G := h ⟨k⟩
theorem zhI (k : G') (h : Hid G' → G := by intro zk0; refine zm ?_; refine zhg ?_; exact zk0.1) : G := h ⟨k⟩
theorem zbI (k : G') (h : Hid G' → G := by intro zk0; refine zj ?_; refine zf ?_; exact zk0.1) : G := h ⟨k⟩
theorem zg8 (k : G') (h : Hid G' → G := by intro zk0; refine zdc ?_; refine zh ?_; exact zk0.1) : G := h ⟨k⟩
theorem zbJ (k : G') (h : Hid G' → G := by intro zk0; refine zJ ?_; refine zf ?_; exact zk0.1) : G := h ⟨k⟩
theorem zbK (k : G') (h : Hid G' → G := by intro zk0; refine zc4 ?_; refine zc0 ?_; exact zk0.1) : G := h ⟨k⟩
theorem zjI (k : G') (h : Hid G' → G := by intro zk0; refine zm ?_; refine zg ?_; exact zk0.1) : G := h ⟨k⟩
theorem zbS (k : G') (h : Hid G' → G := by intro zk0; refine ziz ?_; refine zg ?_; exact zk0.1) : G := h ⟨k⟩
theorem zgl (k : G') (h : Hid G' → G := by intro zk0; refine zcD ?_; refine zV ?_; exact zk0.1) : G := h ⟨k⟩
theorem zhJ (k : G') (h : Hid G' → G := by intro zk0; refine zaP ?_; refine zI ?_; exact zk0.1) : G := h ⟨k⟩
theorem zgm (k : G') (h : Hid G' → G := by intro zk0; refine zQ ?_; refine zf ?_; exact zk0.1) : G := h ⟨k⟩
theorem zcx (k : G') (h : Hid G' → G := by intro zk0; refine ziA ?_; refine zE ?_; exact zk0.1) : G := h ⟨k⟩
theorem zgn (k : G') (h : Hid G' → G := by intro zk0; refine zbZ ?_; refine zma ?_; exact zk0.1) : G := h ⟨k⟩
theorem zb6 (h : G := by refine zC ?_; exact zw) : G := h
theorem zb7 (k : G') (h : Hid G' → G := by intro zk0; refine ziB ?_; refine zdG ?_; exact zk0.1) : G := h ⟨k⟩
theorem zkI (k : G') (h : Hid G' → G := by intro zk0; rw [no (by omega)]; refine zg7 ?_; intro v0; revert v0; exact zk0.1) : G := h ⟨k⟩
theorem zbT (k : G') (h : Hid G' → G := by intro zk0; refine zj9 ?_; refine ze ?_; exact zk0.1) : G := h ⟨k⟩
theorem zbU (k : G') (h : Hid G' → G := by intro zk0; refine zx ?_; refine zK ?_; exact zk0.1) : G := h ⟨k⟩
theorem zhK (k : G') (h : Hid G' → G := by intro zk0; refine zaf ?_; refine z9 ?_; exact zk0.1) : G := h ⟨k⟩
theorem zgo (k : G') (h : Hid G' → G := by intro zk0; refine zgg ?_; refine ziC ?_; exact zk0.1) : G := h ⟨k⟩
theorem zg9 (k : G') (h : Hid G' → G := by intro zk0; refine zbM ?_; refine zf ?_; exact zk0.1) : G := h ⟨k⟩
theorem zbV (k : G') (h : Hid G' → G := by intro zk0; refine zf ?_; refine zt ?_; exact zk0.1) : G := h ⟨k⟩
theorem zby (k : G') (h : Hid G' → G := by intro zk0; refine ziM ?_; refine zg ?_; exact zk0.1) : G := h ⟨k⟩
theorem zkJ (k : G') (h : Hid G' → G := by intro zk0; refine zA ?_; refine zr ?_; exact zk0.1) : G := h ⟨k⟩
theorem zgp (k : G') (h : Hid G' → G := by intro zk0; refine zd9 ?_; refine zau ?_; exact zk0.1) : G := h ⟨k⟩
theorem zkK (k : G') (h : Hid G' → G := by intro zk0; refine zm ?_; refine zc0 ?_; exact zk0.1) : G := h ⟨k⟩
theorem zfi (k : G') (h : Hid G' → G := by intro zk0; refine za0 ?_; refine zau ?_; exact zk0.1) : G := h ⟨k⟩
theorem zbL (k : G') (h : Hid G' → G := by intro zk0; refine zk ?_; refine zg ?_; exact zk0.1) : G := h ⟨k⟩
theorem zb8 (k : G') (h : Hid G' → G := by intro zk0; refine zgh ?_; refine zmj ?_; exact zk0.1) : G := h ⟨k⟩
theorem zbW (k : G') (h : Hid G' → G := by intro zk0; refine zbP ?_; refine zbP ?_; exact zk0.1) : G := h ⟨k⟩
theorem zgq (k : G') (h : Hid G' → G := by intro zk0; refine zhH ?_; refine zf ?_; exact zk0.1) : G := h ⟨k⟩
theorem ziF (k : G') (h : Hid G' → G := by intro zk0; refine za7 ?_; refine zff ?_; exact zk0.1) : G := h ⟨k⟩
theorem zcj (k : G') (h : Hid G' → G := by intro zk0; refine z9 ?_; refine zy ?_; exact zk0.1) : G := h ⟨k⟩
theorem zck (k : G') (h : Hid G' → G := by intro zk0; refine zcJ ?_; refine zt ?_; exact zk0.1) : G := h ⟨k⟩
theorem zlW (k : G') (h : Hid G' → G := by intro zk0; refine zn ?_; refine zbO ?_; exact zk0.1) : G := h ⟨k⟩
theorem zcl (k : G') (h : Hid G' → G := by intro zk0; refine zbF ?_; refine zfY ?_; exact zk0.1) : G := h ⟨k⟩
theorem zjJ (k : G') (h : Hid G' → G := by intro zk0; refine zba ?_; refine zg ?_; exact zk0.1) : G := h ⟨k⟩
theorem ziG (h : G := by simp only [List.cons_append, List.nil_append]; exact byPart) : G := h
theorem zha (k : G') (h : Hid G' → G := by intro zk0; simp only [markH_app, seenH_app]; refine zf1 ?_; exact zk0.1) : G := h ⟨k⟩
theorem zkL (k : G') (h : Hid G' → G := by intro zk0; refine zm ?_; refine zH ?_; exact zk0.1) : G := h ⟨k⟩
theorem ziH (h : G := by refine zn ?_; exact zw) : G := h
theorem zcm (k : G') (h : Hid G' → G := by intro zk0; refine zB ?_; refine zjI ?_; exact zk0.1) : G := h ⟨k⟩
theorem zdk (k : G') (h : Hid G' → G := by intro zk0; refine zm ?_; refine zf6 ?_; refine zba ?_; exact zk0.1) : G := h ⟨k⟩
theorem zhb (k : G') (h : Hid G' → G := by intro zk0; simp only [markH_app, seenH_app]; refine ziD ?_; exact zk0.1) : G := h ⟨k⟩
theorem ziI (k : G') (h : Hid G' → G := by intro zk0; refine zb4 ?_; intro v0 v1 v2; refine zr ?_; revert v0 v1 v2; exact zk0.1) : G := h ⟨k⟩
theorem zkM (k : G') (h : Hid G' → G := by intro zk0; refine z8 ?_; refine ziE ?_; exact zk0.1) : G := h ⟨k⟩
theorem zcn (k : G') (h : Hid G' → G := by intro zk0; refine zal ?_; refine zaE ?_; exact zk0.1) : G := h ⟨k⟩
theorem zhc (k : G') (h : Hid G' → G := by intro zk0; refine zA ?_; refine zcF ?_; exact zk0.1) : G := h ⟨k⟩
theorem zkN (k : G') (h : Hid G' → G := by intro zk0; refine zcs ?_; refine zlW ?_; exact zk0.1) : G := h ⟨k⟩
theorem zdT (k : G') (h : Hid G' → G := by intro zk0; refine zbn ?_; refine zaT ?_; exact zk0.1) : G := h ⟨k⟩
theorem zcy (k : G') (h : Hid G' → G := by intro zk0; refine zkK ?_; refine zm ?_; exact zk0.1) : G := h ⟨k⟩
theorem zkO (k : G') (h : Hid G' → G := by intro zk0; refine zcI ?_; refine zdd ?_; exact zk0.1) : G := h ⟨k⟩
theorem zcR (k : G') (h : Hid G' → G := by intro zk0; refine zN ?_; refine zhG ?_; exact zk0.1) : G := h ⟨k⟩
theorem zkP (k : G') (h : Hid G' → G := by intro zk0; refine zaZ ?_; refine zk ?_; exact zk0.1) : G := h ⟨k⟩
theorem zcz (k : G') (h : Hid G' → G := by intro zk0; refine zct ?_; refine zfY ?_; exact zk0.1) : G := h ⟨k⟩
theorem zcS (k : G') (h : Hid G' → G := by intro zk0; refine zbj ?_; refine zo ?_; exact zk0.1) : G := h ⟨k⟩
theorem zco (k : G') (h : Hid G' → G := by intro zk0; refine zbl ?_; intro v0; refine zkJ ?_; revert v0; exact zk0.1) : G := h ⟨k⟩
theorem zcA (k : G') (h : Hid G' → G := by intro zk0; refine zlE ?_; refine ze ?_; exact zk0.1) : G := h ⟨k⟩
theorem zhL (k : G') (h : Hid G' → G := by intro zk0; refine zaj ?_; refine zr ?_; exact zk0.1) : G := h ⟨k⟩
theorem zkQ (k : G') (h : Hid G' → G := by intro zk0; refine zL ?_; refine zdO ?_; exact zk0.1) : G := h ⟨k⟩
theorem zjK (k : G') (h : Hid G' → G := by intro zk0; refine zb4 ?_; intro v0 v1 v2; refine zal ?_; revert v0 v1 v2; exact zk0.1) : G := h ⟨k⟩
theorem zlX (k : G') (h : Hid G' → G := by intro zk0; refine zC ?_; refine zbO ?_; exact zk0.1) : G := h ⟨k⟩
theorem zcB (k : G') (h : Hid G' → G := by intro zk0; refine zr ?_; refine zp ?_; exact zk0.1) : G := h ⟨k⟩
theorem zkR (k : G') (h : Hid G' → G := by intro zk0; refine zE ?_; refine zl5 ?_; exact zk0.1) : G := h ⟨k⟩
theorem zen (k : G') (h : Hid G' → G := by intro zk0; refine zbZ ?_; refine zhI ?_; exact zk0.1) : G := h ⟨k⟩
theorem zhM (k : G') (h : Hid G' → G := by intro zk0; refine zaa ?_; refine zhF ?_; exact zk0.1) : G := h ⟨k⟩
theorem zgr (k : G') (h : Hid G' → G := by intro zk0; refine K.seq ?_; refine K.region ?_; exact zk0.1) : G := h ⟨k⟩
theorem zdl (k : G') (h : Hid G' → G := by intro zk0; refine zkc ?_; refine zbm ?_; exact zk0.1) : G := h ⟨k⟩
theorem zhN (k : G') (h : Hid G' → G := by intro zk0; refine zcM ?_; refine zbB ?_; exact zk0.1) : G := h ⟨k⟩
theorem zkS (k : G') (h : Hid G' → G := by intro zk0; refine zgf ?_; refine zaa ?_; refine zgi ?_; exact zk0.1) : G := h ⟨k⟩
theorem zcT (k : G') (h : Hid G' → G := by intro zk0; refine zaV ?_; refine zb5 ?_; exact zk0.1) : G := h ⟨k⟩
theorem zcU (k : G') (h : Hid G' → G := by intro zk0; refine zhJ ?_; refine zf ?_; exact zk0.1) : G := h ⟨k⟩
theorem zdm (k : G') (h : Hid G' → G := by intro zk0; refine z7 ?_; refine zam ?_; exact zk0.1) : G := h ⟨k⟩
theorem zdn (k : G') (h : Hid G' → G := by intro zk0; refine zm ?_; refine zD ?_; exact zk0.1) : G := h ⟨k⟩
theorem zdo (k : G') (h : Hid G' → G := by intro zk0; refine zA ?_; refine zc3 ?_; exact zk0.1) : G := h ⟨k⟩
theorem zeo (k : G') (h : Hid G' → G := by intro zk0; refine zli ?_; refine zS ?_; exact zk0.1) : G := h ⟨k⟩
theorem zkT (k : G') (h : Hid G' → G := by intro zk0; refine zY ?_; refine zA ?_; exact zk0.1) : G := h ⟨k⟩
theorem zdp (h : G := by refine zhK ?_; exact zar) : G := h
theorem zcC (k : G') (h : Hid G' → G := by intro zk0; refine zav ?_; refine zh ?_; exact zk0.1) : G := h ⟨k⟩
theorem zdq (k : G') (h : Hid G' → G := by intro zk0; refine zu ?_; refine zc4 ?_; exact zk0.1) : G := h ⟨k⟩
theorem zdr (k : G') (h : Hid G' → G := by intro zk0; refine zv ?_; refine zJ ?_; exact zk0.1) : G := h ⟨k⟩
theorem zcV (k : G') (h : Hid G' → G := by intro zk0; refine zkL ?_; refine zjJ ?_; exact zk0.1) : G := h ⟨k⟩
theorem zep (k : G') (h : Hid G' → G := by intro zk0; refine zj ?_; refine zdQ ?_; exact zk0.1) : G := h ⟨k⟩
theorem zeq (k : G') (h : Hid G' → G := by intro zk0; refine zgf ?_; refine zkH ?_; refine zlX ?_; exact zk0.1) : G := h ⟨k⟩
theorem zer (k : G') (h : Hid G' → G := by intro zk0; refine zkO ?_; refine zkN ?_; exact zk0.1) : G := h ⟨k⟩
theorem zds (k : G') (h : Hid G' → G := by intro zk0; refine zdg ?_; refine zdf ?_; exact zk0.1) : G := h ⟨k⟩
theorem zdt (k : G') (h : Hid G' → G := by intro zk0; refine zu ?_; refine zaS ?_; exact zk0.1) : G := h ⟨k⟩
theorem zdU (h : G := by refine za2 ?_; exact zaU) : G := h
theorem zdu (k : G') (h : Hid G' → G := by intro zk0; refine zA ?_; refine ziF ?_; exact zk0.1) : G := h ⟨k⟩
theorem zdv (k : G') (h : Hid G' → G := by intro zk0; refine zge ?_; refine zC ?_; exact zk0.1) : G := h ⟨k⟩
theorem zlY (k : G') (h : Hid G' → G := by intro zk0; refine ziy ?_; refine zJ ?_; refine zkA ?_; refine zml ?_; exact zk0.1) : G := h ⟨k⟩
theorem zcW (k : G') (h : Hid G' → G := by intro zk0; refine zfh ?_; refine zj7 ?_; refine zgj ?_; exact zk0.1) : G := h ⟨k⟩
theorem zcX (k : G') (h : Hid G' → G := by intro zk0; refine zaq ?_; intro v0 v1; refine zal ?_; revert v0 v1; exact zk0.1) : G := h ⟨k⟩
theorem zdV (k : G') (h : Hid G' → G := by intro zk0; refine zF ?_; refine zaW ?_; exact zk0.1) : G := h ⟨k⟩
theorem zdW (k : G') (h : Hid G' → G := by intro zk0; refine zbi ?_; refine zm ?_; exact zk0.1) : G := h ⟨k⟩
theorem zes (k : G') (h : Hid G' → G := by intro zk0; refine z8 ?_; refine zaa ?_; exact zk0.1) : G := h ⟨k⟩
theorem zkU (k : G') (h : Hid G' → G := by intro zk0; refine zg6 ?_; refine zkQ ?_; exact zk0.1) : G := h ⟨k⟩
theorem zdw (k : G') (h : Hid G' → G := by intro zk0; refine zaJ ?_; refine zn ?_; exact zk0.1) : G := h ⟨k⟩
theorem zet (k : G') (h : Hid G' → G := by intro zk0; refine zY ?_; refine zu ?_; exact zk0.1) : G := h ⟨k⟩
theorem zlZ (k : G') (h : Hid G' → G := by intro zk0; refine zko ?_; refine zak ?_; exact zk0.1) : G := h ⟨k⟩
theorem zdX (k : G') (h : Hid G' → G := by intro zk0; refine zm ?_; refine zfa ?_; exact zk0.1) : G := h ⟨k⟩
theorem zeu (k : G') (h : Hid G' → G := by intro zk0; refine za1 ?_; refine zu ?_; exact zk0.1) : G := h ⟨k⟩
theorem zdY (k : G') (h : Hid G' → G := by intro zk0; refine zV ?_; refine zhi ?_; exact zk0.1) : G := h ⟨k⟩
theorem zdZ (k : G') (h : Hid G' → G := by intro zk0; refine zm ?_; refine zY ?_; exact zk0.1) : G := h ⟨k⟩
theorem zdx (k : G') (h : Hid G' → G := by intro zk0; refine zk ?_; refine zh ?_; exact zk0.1) : G := h ⟨k⟩
theorem zd0 (k : G') (h : Hid G' → G := by intro zk0; refine zaN ?_; refine zf ?_; exact zk0.1) : G := h ⟨k⟩
theorem zdy (k : G') (h : Hid G' → G := by intro zk0; refine zn ?_; refine zt ?_; exact zk0.1) : G := h ⟨k⟩
theorem zdz (k : G') (h : Hid G' → G := by intro zk0; refine zM ?_; refine zX ?_; exact zk0.1) : G := h ⟨k⟩
theorem zev (k : G') (h : Hid G' → G := by intro zk0; refine zed ?_; refine zg8 ?_; exact zk0.1) : G := h ⟨k⟩
theorem zdA (k : G') (h : Hid G' → G := by intro zk0; refine zaj ?_; refine zT ?_; exact zk0.1) : G := h ⟨k⟩
theorem zew (h : G := by refine zct ?_; exact ziH) : G := h
theorem zd1 (k : G') (h : Hid G' → G := by intro zk0; refine zq ?_; refine zkR ?_; exact zk0.1) : G := h ⟨k⟩
theorem zd2 (k : G') (h : Hid G' → G := by intro zk0; refine zU ?_; refine zas ?_; exact zk0.1) : G := h ⟨k⟩
theorem zd3 (k : G') (h : Hid G' → G := by intro zk0; refine zmb ?_; refine ze ?_; exact zk0.1) : G := h ⟨k⟩
theorem zkV (k : G') (h : Hid G' → G := by intro zk0; refine zdR ?_; refine zgk ?_; exact zk0.1) : G := h ⟨k⟩
theorem zex (k : G') (h : Hid G' → G := by intro zk0; refine zkI ?_; intro v0; refine zkM ?_; revert v0; exact zk0.1) : G := h ⟨k⟩
theorem zd4 (k : G') (h : Hid G' → G := by intro zk0; refine zh4 ?_; refine zaO ?_; exact zk0.1) : G := h ⟨k⟩
theorem zl0 (k : G') (h : Hid G' → G := by intro zk0; refine zlY ?_; refine zlU ?_; exact zk0.1) : G := h ⟨k⟩
theorem zfj (k : G') (h : Hid G' → G := by intro zk0; refine zC ?_; refine zbF ?_; exact zk0.1) : G := h ⟨k⟩
theorem zkW (k : G') (h : Hid G' → G := by intro zk0; refine zgY ?_; refine zf ?_; exact zk0.1) : G := h ⟨k⟩
theorem zfk (k : G') (h : Hid G' → G := by intro zk0; refine zm ?_; refine zcs ?_; refine zm ?_; refine zn ?_; exact zk0.1) : G := h ⟨k⟩
theorem zd5 (k : G') (h : Hid G' → G := by intro zk0; refine zhU ?_; refine zgl ?_; exact zk0.1) : G := h ⟨k⟩
theorem zey (k : G') (h : Hid G' → G := by intro zk0; refine zcL ?_; refine zam ?_; exact zk0.1) : G := h ⟨k⟩
theorem zd6 (k : G') (h : Hid G' → G := by intro zk0; refine zcs ?_; refine zC ?_; exact zk0.1) : G := h ⟨k⟩
theorem zez (k : G') (h : Hid G' → G := by intro zk0; refine zaX ?_; refine zaX ?_; exact zk0.1) : G := h ⟨k⟩
theorem zdB (k : G') (h : Hid G' → G := by intro zk0; refine zmh ?_; refine zjK ?_; intro v0 v1 v2; refine zkP ?_; revert v0 v1 v2; exact zk0.1) : G := h ⟨k⟩
theorem zjL (k : G') (h : Hid G' → G := by intro zk0; simp only [errB, Bool.false_eq_true, if_false]; refine zd ?_; exact zk0.1) : G := h ⟨k⟩
theorem zd7 (k : G') (h : Hid G' → G := by intro zk0; refine zkT ?_; refine zbz ?_; exact zk0.1) : G := h ⟨k⟩
theorem zcY (k : G') (h : Hid G' → G := by intro zk0; refine zmk ?_; refine ziI ?_; intro v0 v1 v2; revert v0 v1 v2; exact zk0.1) : G := h ⟨k⟩
theorem zd8 (k : G') (h : Hid G' → G := by intro zk0; refine zcN ?_; refine zT ?_; exact zk0.1) : G := h ⟨k⟩
theorem zeA (k : G') (h : Hid G' → G := by intro zk0; refine zlg ?_; refine zlg ?_; exact zk0.1) : G := h ⟨k⟩
theorem zfl (k : G') (h : Hid G' → G := by intro zk0; refine zkS ?_; refine zlZ ?_; exact zk0.1) : G := h ⟨k⟩
theorem zeB (k : G') (h : Hid G' → G := by intro zk0; refine zlR ?_; refine zgm ?_; refine zap ?_; exact zk0.1) : G := h ⟨k⟩
theorem zdC (k : G') (h : Hid G' → G := by intro zk0; refine zB ?_; refine zcf ?_; exact zk0.1) : G := h ⟨k⟩
theorem zfm (k : G') (h : Hid G' → G := by intro zk0; refine zN ?_; refine zg9 ?_; exact zk0.1) : G := h ⟨k⟩
theorem zgs (k : G') (h : Hid G' → G := by intro zk0; refine zel ?_; refine z8 ?_; exact zk0.1) : G := h ⟨k⟩
theorem zeC (k : G') (h : Hid G' → G := by intro zk0; refine zeh ?_; refine zcO ?_; exact zk0.1) : G := h ⟨k⟩
theorem zl1 (k : G') (h : Hid G' → G := by intro zk0; refine zl0 ?_; refine zix ?_; refine zmm ?_; exact zk0.1) : G := h ⟨k⟩
theorem zeD (k : G') (h : Hid G' → G := by intro zk0; refine zR ?_; refine zl6 ?_; refine ziw ?_; exact zk0.1) : G := h ⟨k⟩
theorem zeE (h : G := by refine zat ?_; exact zdh) : G := h
theorem zeF (k : G') (h : Hid G' → G := by intro zk0; refine zA ?_; refine zam ?_; exact zk0.1) : G := h ⟨k⟩
theorem zl2 (k : G') (h : Hid G' → G := by intro zk0; refine ziD ?_; refine zeh ?_; exact zk0.1) : G := h ⟨k⟩
theorem zeG (k : G') (h : Hid G' → G := by intro zk0; refine zO ?_; refine zl7 ?_; exact zk0.1) : G := h ⟨k⟩
theorem zeH (h : G := by refine zkU ?_; exact zaU) : G := h
theorem zfn (k : G') (h : Hid G' → G := by intro zk0; refine zaL ?_; refine zbo ?_; exact zk0.1) : G := h ⟨k⟩
theorem zjM (k : G') (h : Hid G' → G := by intro zk0; refine zbu ?_; refine KL.v rfl (Val.eqlSN rfl rfl rfl) ?_; exact zk0.1) : G := h ⟨k⟩
theorem zfo (k : G') (h : Hid G' → G := by intro zk0; refine zbN ?_; refine zf ?_; exact zk0.1) : G := h ⟨k⟩
theorem zgt (k : G') (h : Hid G' → G := by intro zk0; refine zax ?_; refine zlV ?_; exact zk0.1) : G := h ⟨k⟩
theorem zfp (k : G') (h : Hid G' → G := by intro zk0; refine zR ?_; refine zfg ?_; exact zk0.1) : G := h ⟨k⟩
theorem zeI (k : G') (h : Hid G' → G := by intro zk0; refine zl8 ?_; intro v0; refine zcD ?_; revert v0; exact zk0.1) : G := h ⟨k⟩
theorem zfq (k : G') (h : Hid G' → G := by intro zk0; refine zem ?_; refine zP ?_; exact zk0.1) : G := h ⟨k⟩
theorem zeJ (k : G') (h : Hid G' → G := by intro zk0; refine z9 ?_; refine zbE ?_; exact zk0.1) : G := h ⟨k⟩
theorem zfr (k : G') (h : Hid G' → G := by intro zk0; refine zo ?_; refine zcv ?_; exact zk0.1) : G := h ⟨k⟩
theorem zeK (k : G') (h : Hid G' → G := by intro zk0; refine zj ?_; refine zac ?_; exact zk0.1) : G := h ⟨k⟩
theorem zhd (h : G := by refine zgo ?_; exact zc6) : G := h
theorem zfs (k : G') (h : Hid G' → G := by intro zk0; refine zo ?_; refine zka ?_; exact zk0.1) : G := h ⟨k⟩
theorem zft (k : G') (h : Hid G' → G := by intro zk0; refine zaL ?_; refine zcP ?_; exact zk0.1) : G := h ⟨k⟩
theorem zfu (k : G') (h : Hid G' → G := by intro zk0; refine zgn ?_; refine zy ?_; exact zk0.1) : G := h ⟨k⟩
theorem zeL (k : G') (h : Hid G' → G := by intro zk0; refine zae ?_; refine zn ?_; exact zk0.1) : G := h ⟨k⟩
theorem zfv (k : G') (h : Hid G' → G := by intro zk0; refine zlS ?_; refine zav ?_; exact zk0.1) : G := h ⟨k⟩
theorem zfw (k : G') (h : Hid G' → G := by intro zk0; refine zmn ?_; refine ze ?_; exact zk0.1) : G := h ⟨k⟩
theorem zkX (k : G') (h : Hid G' → G := by intro zk0; refine KD.v0 rfl rfl (Val.isF (Val.neq rfl rfl) byLt) ?_; refine zbd ?_; exact zk0.1) : G := h ⟨k⟩
theorem zeM (k : G') (h : Hid G' → G := by intro zk0; refine zf ?_; refine zhf ?_; exact zk0.1) : G := h ⟨k⟩
theorem zfx (k : G') (h : Hid G' → G := by intro zk0; refine zdd ?_; refine zfg ?_; exact zk0.1) : G := h ⟨k⟩
theorem zfy (k : G') (h : Hid G' → G := by intro zk0; refine zcu ?_; refine ze0 ?_; exact zk0.1) : G := h ⟨k⟩
theorem zkY (k : G') (h : Hid G' → G := by intro zk0; refine (CallV.part (CallV.fn (piLen_K okN)) byPart).mono ?_; refine ze ?_; exact zk0.1) : G := h ⟨k⟩
theorem zeN (k : G') (h : Hid G' → G := by intro zk0; refine zap ?_; refine zff ?_; exact zk0.1) : G := h ⟨k⟩
theorem zkZ (k : G') (h : Hid G' → G := by intro zk0; refine zmi ?_; refine KD.v0 rfl rfl (Val.fieldAddr0 (k := 14) rfl rfl) ?_; exact zk0.1) : G := h ⟨k⟩
theorem zfz (k : G') (h : Hid G' → G := by intro zk0; refine zie ?_; refine zl ?_; exact zk0.1) : G := h ⟨k⟩
theorem zfA (k : G') (h : Hid G' → G := by intro zk0; refine zek ?_; refine zek ?_; exact zk0.1) : G := h ⟨k⟩
theorem zeO (k : G') (h : Hid G' → G := by intro zk0; refine za8 ?_; refine zz ?_; exact zk0.1) : G := h ⟨k⟩
theorem zfB (k : G') (h : Hid G' → G := by intro zk0; refine zif ?_; refine zc0 ?_; exact zk0.1) : G := h ⟨k⟩
theorem zeP (k : G') (h : Hid G' → G := by intro zk0; refine zl1 ?_; refine zlU ?_; exact zk0.1) : G := h ⟨k⟩
theorem zfC (k : G') (h : Hid G' → G := by intro zk0; refine zgp ?_; refine za0 ?_; exact zk0.1) : G := h ⟨k⟩
theorem zfD (k : G') (h : Hid G' → G := by intro zk0; refine zX ?_; refine zU ?_; exact zk0.1) : G := h ⟨k⟩
theorem zgu (k : G') (h : Hid G' → G := by intro zk0; refine zie ?_; refine zlV ?_; exact zk0.1) : G := h ⟨k⟩
theorem zfE (k : G') (h : Hid G' → G := by intro zk0; refine zO ?_; refine zln ?_; exact zk0.1) : G := h ⟨k⟩
theorem zk0 (k : G') (h : Hid G' → G := by intro zk0; refine (CallV.part (CallV.fn (hrf _)) byPart).mono ?_; refine ze ?_; exact zk0.1) : G := h ⟨k⟩
theorem zeQ (k : G') (h : Hid G' → G := by intro zk0; refine zJ ?_; refine zg ?_; exact zk0.1) : G := h ⟨k⟩
theorem zgv (k : G') (h : Hid G' → G := by intro zk0; refine zhl ?_; refine zc7 ?_; exact zk0.1) : G := h ⟨k⟩
theorem zfF (k : G') (h : Hid G' → G := by intro zk0; refine ziT ?_; refine zx ?_; exact zk0.1) : G := h ⟨k⟩
theorem zgw (k : G') (h : Hid G' → G := by intro zk0; refine zB ?_; refine zf ?_; exact zk0.1) : G := h ⟨k⟩
theorem zhO (k : G') (h : Hid G' → G := by intro zk0; refine zf4 ?_; refine zc0 ?_; exact zk0.1) : G := h ⟨k⟩
theorem zeR (k : G') (h : Hid G' → G := by intro zk0; refine zaq ?_; intro v0 v1; refine zbM ?_; revert v0 v1; exact zk0.1) : G := h ⟨k⟩
theorem zfG (k : G') (h : Hid G' → G := by intro zk0; refine zcw ?_; refine ze3 ?_; refine zaR ?_; refine zcg ?_; exact zk0.1) : G := h ⟨k⟩
theorem zfH (k : G') (h : Hid G' → G := by intro zk0; refine zl2 ?_; refine zkV ?_; refine zB ?_; exact zk0.1) : G := h ⟨k⟩
theorem zfI (k : G') (h : Hid G' → G := by intro zk0; refine zT ?_; refine zi0 ?_; exact zk0.1) : G := h ⟨k⟩
theorem zfJ (k : G') (h : Hid G' → G := by intro zk0; refine zbY ?_; refine zkW ?_; exact zk0.1) : G := h ⟨k⟩
theorem zgx (k : G') (h : Hid G' → G := by intro zk0; refine zY ?_; refine zaa ?_; exact zk0.1) : G := h ⟨k⟩
theorem zfK (k : G') (h : Hid G' → G := by intro zk0; refine zgq ?_; refine zH ?_; refine zaa ?_; exact zk0.1) : G := h ⟨k⟩
theorem zfL (k : G') (h : Hid G' → G := by intro zk0; refine zl9 ?_; refine zhL ?_; exact zk0.1) : G := h ⟨k⟩
theorem zgy (k : G') (h : Hid G' → G := by intro zk0; refine za7 ?_; refine zbq ?_; exact zk0.1) : G := h ⟨k⟩
theorem zeS (k : G') (h : Hid G' → G := by intro zk0; refine zmc ?_; refine zbc ?_; exact zk0.1) : G := h ⟨k⟩
theorem zfM (k : G') (h : Hid G' → G := by intro zk0; refine zaJ ?_; refine zba ?_; exact zk0.1) : G := h ⟨k⟩
theorem zeT (k : G') (h : Hid G' → G := by intro zk0; refine zaf ?_; refine zeW ?_; intro v0; revert v0; exact zk0.1) : G := h ⟨k⟩
theorem zfN (k : G') (h : Hid G' → G := by intro zk0; refine zaj ?_; refine zA ?_; exact zk0.1) : G := h ⟨k⟩
theorem zeU (k : G') (h : Hid G' → G := by intro zk0; refine zaj ?_; refine zdP ?_; exact zk0.1) : G := h ⟨k⟩
theorem zk1 (k : G') (h : Hid G' → G := by intro zk0; refine (CallV.part (CallV.fn (hh0 _)) byPart).mono ?_; refine ze ?_; exact zk0.1) : G := h ⟨k⟩
theorem zfO (k : G') (h : Hid G' → G := by intro zk0; refine zfi ?_; refine zj ?_; exact zk0.1) : G := h ⟨k⟩
theorem zgz (k : G') (h : Hid G' → G := by intro zk0; refine zap ?_; refine zbq ?_; exact zk0.1) : G := h ⟨k⟩
theorem zk2 (k : G') (h : Hid G' → G := by intro zk0; refine (CallV.part (CallV.fn (how _)) byPart).mono ?_; refine ze ?_; exact zk0.1) : G := h ⟨k⟩
theorem zk3 (k : G') (h : Hid G' → G := by intro zk0; refine zhO ?_; refine KL.v rfl (Val.isF (Val.eqlBs rfl rfl) byLt) ?_; exact zk0.1) : G := h ⟨k⟩
theorem zk4 (k : G') (h : Hid G' → G := by intro zk0; refine (CallV.part (CallV.fn (href _)) byPart).mono ?_; refine ze ?_; exact zk0.1) : G := h ⟨k⟩
theorem zgA (k : G') (h : Hid G' → G := by intro zk0; refine zct ?_; refine zg5 ?_; exact zk0.1) : G := h ⟨k⟩
theorem zgB (k : G') (h : Hid G' → G := by intro zk0; refine zcQ ?_; refine zac ?_; exact zk0.1) : G := h ⟨k⟩
theorem zgC (h : G := by refine zaw ?_; refine zde ?_; exact zme) : G := h
theorem zfP (k : G') (h : Hid G' → G := by intro zk0; refine zdi ?_; refine zg ?_; exact zk0.1) : G := h ⟨k⟩
theorem zfQ (k : G') (h : Hid G' → G := by intro zk0; refine ziO ?_; refine zay ?_; intro v0; revert v0; exact zk0.1) : G := h ⟨k⟩
theorem zgD (k : G') (h : Hid G' → G := by intro zk0; refine zag ?_; refine zhc ?_; exact zk0.1) : G := h ⟨k⟩
theorem zgE (k : G') (h : Hid G' → G := by intro zk0; refine zcd ?_; refine zdS ?_; exact zk0.1) : G := h ⟨k⟩
theorem zgF (k : G') (h : Hid G' → G := by intro zk0; refine zgd ?_; refine zbD ?_; exact zk0.1) : G := h ⟨k⟩
theorem zfR (k : G') (h : Hid G' → G := by intro zk0; refine zY ?_; refine zg6 ?_; exact zk0.1) : G := h ⟨k⟩
theorem zfS (k : G') (h : Hid G' → G := by intro zk0; refine zaj ?_; refine zhS ?_; exact zk0.1) : G := h ⟨k⟩
theorem zhP (k : G') (h : Hid G' → G := by intro zk0; refine K.seq ?_; refine zq ?_; exact zk0.1) : G := h ⟨k⟩
theorem zgG (k : G') (h : Hid G' → G := by intro zk0; refine zmd ?_; refine zS ?_; exact zk0.1) : G := h ⟨k⟩
theorem zgH (k : G') (h : Hid G' → G := by intro zk0; refine zmf ?_; refine zdj ?_; exact zk0.1) : G := h ⟨k⟩
theorem zfT (k : G') (h : Hid G' → G := by intro zk0; refine zas ?_; refine zh ?_; exact zk0.1) : G := h ⟨k⟩
theorem zk5 (k : G') (h : Hid G' → G := by intro zk0; refine (CallV.part (CallV.fn (hl _)) byPart).mono ?_; refine ze ?_; exact zk0.1) : G := h ⟨k⟩
theorem zgI (k : G') (h : Hid G' → G := by intro zk0; refine zcc ?_; refine zx ?_; exact zk0.1) : G := h ⟨k⟩
theorem zfU (k : G') (h : Hid G' → G := by intro zk0; refine zhN ?_; refine zhM ?_; exact zk0.1) : G := h ⟨k⟩
theorem zgJ (k : G') (h : Hid G' → G := by intro zk0; refine zC ?_; refine zt ?_; exact zk0.1) : G := h ⟨k⟩
theorem zhe (k : G') (h : Hid G' → G := by intro zk0; refine zce ?_; refine zbq ?_; exact zk0.1) : G := h ⟨k⟩
theorem zeV (k : G') (h : Hid G' → G := by intro zk0; refine zbH ?_; refine zh ?_; exact zk0.1) : G := h ⟨k⟩
theorem zgK (k : G') (h : Hid G' → G := by intro zk0; refine zeY ?_; refine zde ?_; refine zau ?_; exact zk0.1) : G := h ⟨k⟩
theorem zjN (k : G') (h : Hid G' → G := by intro zk0; simp only [markH_app, seenH_app]; refine zmg ?_; exact zk0.1) : G := h ⟨k⟩
end Go.Proofs.YtalholahapcpkaaGreatDoor
