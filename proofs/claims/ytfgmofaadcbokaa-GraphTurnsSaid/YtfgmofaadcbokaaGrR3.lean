/- Graph: the document's Reach, Turned, next, Way, Closed. -/
import Derived.Test.YtfgmofaadcbokaaGrR2
namespace Go.Proofs.Ytfgmofaadcbokaa
open Go.RowKit
set_option linter.unusedVariables false
set_option linter.unusedSimpArgs false

structure RcS where
  k : Nat
  o : Own
set_option maxRecDepth 10000 in
set_option maxHeartbeats 1000000 in
theorem RReach_K {w0 : World} {vg vl : Value} {gs : List SV} {rows : List (List Int)} {l : List Int} (hG : SlW w0 svE vg gs) (hR : RowsI w0 gs rows) (hL : SlW w0 iE vl l) (hl : l.length ≤ 100000) (hn : gs.length ≤ 100) (hb : ∀ r ∈ rows, r.length ≤ 1000) :
    Call Try.prog w0 15 [vg, vl] [] (fun r H' => ∃ o, oOk boE (reachP rows l) o ∧ r = oV o (reachP rows l).length ∧ H' = oH boE 4 (reachP rows l) o) := by
  refine Call.enter2 (n := 26) (by kernel_rfl) Try.func15 rfl rfl rfl ?_
  have hgl := hR.len
  refine K.seq ?_
  refine K.region ?_
  (refine KL.v rfl (Val.assign rfl) ?_)
  refine KL.nil ?_
  refine KE.next ?_
  refine K.seq ?_
  refine K.region ?_
  (refine KL.v rfl (Val.move rfl) ?_)
  (refine KL.v rfl (Val.move rfl) ?_)
  (refine KL.callc rfl rfl byEvL fun T hT => ?_)
  refine (CallV.fn (RDepths_K hG hR hL hl hn hb)).mono ?_
  rintro _ _ ⟨oD, okD, rfl, rfl⟩
  have hDl := depths_len rows l
  have hRl := reach_len rows l
  refine hT _ _ ?_; clear hT; clear T
  (refine KL.v rfl (Val.assign rfl) ?_)
  refine KL.nil ?_
  refine KE.next ?_
  refine K.seq ?_
  refine K.region ?_
  (refine KL.v rfl (Val.assign rfl) ?_)
  refine KL.nil ?_
  refine KE.next ?_
  refine K.seq ?_
  refine K.seq ?_
  refine K.region ?_
  (refine KL.v rfl (Val.assign rfl) ?_)
  refine KL.nil ?_
  refine KE.next ?_
  refine K.block ?_
  refine K.loopT (σ := RcS) [(0, _), (5, _)] (fun s kp_ => (7, .int .i64 (s.k : Nat)) :: (6, oV s.o ((reachP rows l).take s.k).length) :: kp_) (fun s => oH boE 4 ((reachP rows l).take s.k) s.o ++ oH iE 3 (depthsP rows l) oD) (fun s => s.k ≤ rows.length ∧ oOk boE ((reachP rows l).take s.k) s.o) (fun s => rows.length - s.k) (⟨0, none⟩) bySub byPart (⟨by simp, rfl⟩) ?_
  rintro ⟨k, o⟩ ⟨hk, oko⟩
  dsimp only at hk oko ⊢
  by_cases hlt : k < rows.length
  · obtain ⟨d, hd, _, hrd⟩ := depths_get (frm := l) hlt
    have hkd : k < (depthsP rows l).length := by omega
    have hsn := take_snoc hrd
    have hbd : ((reachP rows l).take k ++ [decide (0 ≤ d)]).length ≤ 4294967296 := by simp; omega
    by_cases hd0 : 0 ≤ d
    · rw [decide_eq_true hd0] at hsn hbd
      have hd0' : d ≥ 0 := hd0
      refine K.seq ?_
      refine K.seq ?_
      refine K.region ?_
      (refine KL.v rfl (Val.move rfl) ?_)
      (refine KL.v rfl (Val.move rfl) ?_)
      (refine KL.v rfl (Val.lenSl rfl rfl bySli) ?_)
      (refine KL.v rfl (Val.isT (Val.lss rfl rfl) byLt) ?_)
      refine KL.nil ?_
      refine KE.next ?_
      refine K.condT rfl ?_
      refine K.skip ?_
      refine KE.next ?_
      refine K.seq ?_
      refine K.block ?_
      refine K.region ?_
      (refine KL.v rfl (Val.move rfl) ?_)
      (refine KL.v rfl (Val.move rfl) ?_)
      (refine KL.v rfl (Val.move rfl) ?_)
      (refine KL.v rfl (Val.idxSl rfl rfl rfl bySli rfl byLt) ?_)
      (refine KL.v rfl (Val.loadP rfl rfl bySee) ?_)
      (refine KL.v rfl (Val.isT (Val.geq rfl rfl) byLt) ?_)
      (refine KL.e rfl (Eff.buildS byParts rfl rfl rfl rfl rfl byFill) ?_; rintro _ _ ⟨b23, rfl, rfl⟩)
      (refine KL.e rfl (Eff.appZ (ys := [_]) rfl rfl rfl rfl rfl rfl byTakeL (by assumption) (by first | exact Sli.blk byTake rfl (by first | decide | simp) (by first | decide | (unfold maxLen; omega)) rfl | exact Sli.old (by assumption) | exact Sli.own byTakeL (by assumption) byLen | assumption | exact Sli.part (by assumption) byPart) rfl (by first | assumption | omega | (simp <;> fail) | (simp; omega)) rfl) ?_; rintro _ _ ⟨o24, ok24, rfl, rfl⟩)
      (refine KL.v rfl (Val.assign rfl) ?_)
      refine KL.nil ?_
      refine KE.blkN ?_
      refine KE.next ?_
      refine K.region ?_
      (refine KL.v rfl (Val.move rfl) ?_)
      (refine KL.v rfl (Val.add rfl rfl (by simp only [Go.Proofs.Ytfgmofaadcbokaa.lo, Go.Proofs.Ytfgmofaadcbokaa.hi]; omega)) ?_)
      (refine KL.v rfl (Val.assign rfl) ?_)
      refine KL.nil ?_
      rw [← hsn] at ok24 ⊢
      exact KE.again ⟨k + 1, o24⟩ bySub byPart ⟨by show k + 1 ≤ _; omega, ok24⟩ (by show rows.length - (k + 1) < rows.length - k; omega)
    · rw [decide_eq_false hd0] at hsn hbd
      refine K.seq ?_
      refine K.seq ?_
      refine K.region ?_
      (refine KL.v rfl (Val.move rfl) ?_)
      (refine KL.v rfl (Val.move rfl) ?_)
      (refine KL.v rfl (Val.lenSl rfl rfl bySli) ?_)
      (refine KL.v rfl (Val.isT (Val.lss rfl rfl) byLt) ?_)
      refine KL.nil ?_
      refine KE.next ?_
      refine K.condT rfl ?_
      refine K.skip ?_
      refine KE.next ?_
      refine K.seq ?_
      refine K.block ?_
      refine K.region ?_
      (refine KL.v rfl (Val.move rfl) ?_)
      (refine KL.v rfl (Val.move rfl) ?_)
      (refine KL.v rfl (Val.move rfl) ?_)
      (refine KL.v rfl (Val.idxSl rfl rfl rfl bySli rfl byLt) ?_)
      (refine KL.v rfl (Val.loadP rfl rfl bySee) ?_)
      (refine KL.v rfl (Val.isF (Val.geq rfl rfl) byLt) ?_)
      (refine KL.e rfl (Eff.buildS byParts rfl rfl rfl rfl rfl byFill) ?_; rintro _ _ ⟨b23, rfl, rfl⟩)
      (refine KL.e rfl (Eff.appZ (ys := [_]) rfl rfl rfl rfl rfl rfl byTakeL (by assumption) (by first | exact Sli.blk byTake rfl (by first | decide | simp) (by first | decide | (unfold maxLen; omega)) rfl | exact Sli.old (by assumption) | exact Sli.own byTakeL (by assumption) byLen | assumption | exact Sli.part (by assumption) byPart) rfl (by first | assumption | omega | (simp <;> fail) | (simp; omega)) rfl) ?_; rintro _ _ ⟨o24, ok24, rfl, rfl⟩)
      (refine KL.v rfl (Val.assign rfl) ?_)
      refine KL.nil ?_
      refine KE.blkN ?_
      refine KE.next ?_
      refine K.region ?_
      (refine KL.v rfl (Val.move rfl) ?_)
      (refine KL.v rfl (Val.add rfl rfl (by simp only [Go.Proofs.Ytfgmofaadcbokaa.lo, Go.Proofs.Ytfgmofaadcbokaa.hi]; omega)) ?_)
      (refine KL.v rfl (Val.assign rfl) ?_)
      refine KL.nil ?_
      rw [← hsn] at ok24 ⊢
      exact KE.again ⟨k + 1, o24⟩ bySub byPart ⟨by show k + 1 ≤ _; omega, ok24⟩ (by show rows.length - (k + 1) < rows.length - k; omega)
  · have hke : (reachP rows l).take k = reachP rows l := List.take_of_length_le (by omega)
    rw [hke] at oko ⊢
    refine K.seq ?_
    refine K.seq ?_
    refine K.region ?_
    (refine KL.v rfl (Val.move rfl) ?_)
    (refine KL.v rfl (Val.move rfl) ?_)
    (refine KL.v rfl (Val.lenSl rfl rfl bySli) ?_)
    (refine KL.v rfl (Val.isF (Val.lss rfl rfl) byLt) ?_)
    refine KL.nil ?_
    refine KE.next ?_
    refine K.condF rfl ?_
    refine K.exit ?_
    refine KE.passX ?_
    refine KE.passX ?_
    refine KE.blkX ?_
    refine KE.next ?_
    refine K.seq ?_
    refine K.region ?_
    (refine KL.v rfl (Val.move rfl) ?_)
    (refine KL.v rfl (Val.assign rfl) ?_)
    refine KL.nil ?_
    refine KE.next ?_
    refine K.ret ?_
    exact KE.fin byMarks rfl byRes byPart ⟨o, oko, rfl, rfl⟩

structure RtS where
  k : Nat
  ws : List WR
  ow : Own
structure RtL where
  k : Nat
  o : Own
set_option maxRecDepth 10000 in
set_option maxHeartbeats 2000000 in
theorem RTurned_K {w0 : World} {vg : Value} {gs : List SV} {rows : List (List Int)} (hG : SlW w0 svE vg gs) (hR : RowsI w0 gs rows) (hn : gs.length ≤ 100) (hb : ∀ r ∈ rows, r.length ≤ 1000) :
    Call Try.prog w0 11 [vg] [] (fun r H' => ∃ ws ow, oOk wE ws ow ∧ ws.map (·.2) = turnP rows ∧ (∀ p ∈ ws, oOk iE p.2 p.1) ∧ r = oV ow ws.length ∧ H' = oH wE 23 ws ow ++ wsH ws) := by
  refine Call.enter1 (n := 47) (by kernel_rfl) Try.func11 rfl rfl rfl ?_
  have hgl := hR.len
  refine K.seq ?_
  refine K.region ?_
  (refine KL.v rfl (Val.assign rfl) ?_)
  refine KL.nil ?_
  refine KE.next ?_
  refine K.seq ?_
  refine K.region ?_
  (refine KL.v rfl (Val.assign rfl) ?_)
  refine KL.nil ?_
  refine KE.next ?_
  refine K.seq ?_
  refine K.seq ?_
  refine K.region ?_
  (refine KL.v rfl (Val.assign rfl) ?_)
  refine KL.nil ?_
  refine KE.next ?_
  refine K.block ?_
  refine K.loopT (σ := RtS) [(0, _)] (fun s kp_ => (4, .int .i64 (s.k : Nat)) :: (3, oV s.ow s.ws.length) :: kp_) (fun s => oH wE 23 s.ws s.ow ++ wsH s.ws) (fun s => s.k ≤ rows.length ∧ oOk wE s.ws s.ow ∧ s.ws.map (·.2) = (turnP rows).take s.k ∧ (∀ p ∈ s.ws, oOk iE p.2 p.1)) (fun s => rows.length - s.k) (⟨0, [], none⟩) bySub byPart (⟨by simp, rfl, by simp, by simp⟩) ?_
  rintro ⟨x, ws, ow⟩ ⟨hx, okw, hmp, oks⟩
  dsimp only at hx okw hmp oks ⊢
  have hwl : ws.length = x := by have := congrArg List.length hmp; simp [turn_len] at this; omega
  by_cases hxl : x < rows.length
  · skip
    refine K.seq ?_
    refine K.seq ?_
    refine K.region ?_
    (refine KL.v rfl (Val.move rfl) ?_)
    (refine KL.v rfl (Val.move rfl) ?_)
    (refine KL.v rfl (Val.lenSl rfl rfl bySli) ?_)
    (refine KL.v rfl (Val.isT (Val.lss rfl rfl) byLt) ?_)
    refine KL.nil ?_
    refine KE.next ?_
    refine K.condT rfl ?_
    refine K.skip ?_
    refine KE.next ?_
    refine K.seq ?_
    refine K.block ?_
    refine K.seq ?_
    refine K.region ?_
    (refine KL.v rfl (Val.assign rfl) ?_)
    refine KL.nil ?_
    refine KE.next ?_
    refine K.seq ?_
    refine K.seq ?_
    refine K.region ?_
    (refine KL.v rfl (Val.assign rfl) ?_)
    refine KL.nil ?_
    refine KE.next ?_
    refine K.block ?_
    refine K.loopT (σ := RtL) [(0, _), (3, _), (4, _)] (fun s kp_ => (6, .int .i64 (s.k : Nat)) :: (5, oV s.o (srcP rows (x : Int) s.k).length) :: kp_) (fun s => oH iE 3 (srcP rows (x : Int) s.k) s.o ++ (oH wE 23 ws ow ++ wsH ws)) (fun s => s.k ≤ rows.length ∧ oOk iE (srcP rows (x : Int) s.k) s.o) (fun s => rows.length - s.k) (⟨0, none⟩) bySub byPart (⟨by simp, rfl⟩) ?_
    rintro ⟨m, o⟩ ⟨hm, oko⟩
    dsimp only at hm oko ⊢
    by_cases hml : m < rows.length
    · obtain ⟨r, hr⟩ := get_of_lt hml
      obtain ⟨p, hp⟩ := get_of_lt (l := gs) (k := m) (by omega)
      have hrow := hR.row m p r hp hr
      have hrl := hb r (List.mem_of_getElem? hr)
      have hmg : m < gs.length := by omega
      have hsl := srcP_len hb (x : Int) m
      have hsl2 : m * 1000 ≤ 100 * 1000 := Nat.mul_le_mul_right _ (by omega)
      refine K.seq ?_
      refine K.seq ?_
      refine K.region ?_
      (refine KL.v rfl (Val.move rfl) ?_)
      (refine KL.v rfl (Val.move rfl) ?_)
      (refine KL.v rfl (Val.lenSl rfl rfl bySli) ?_)
      (refine KL.v rfl (Val.isT (Val.lss rfl rfl) byLt) ?_)
      refine KL.nil ?_
      refine KE.next ?_
      refine K.condT rfl ?_
      refine K.skip ?_
      refine KE.next ?_
      refine K.seq ?_
      refine K.block ?_
      refine K.seq ?_
      refine K.region ?_
      (refine KL.v rfl (Val.assign rfl) ?_)
      refine KL.nil ?_
      refine KE.next ?_
      refine K.block ?_
      refine K.loopT (σ := RtL) [(0, _), (3, _), (4, _), (6, _)] (fun s kp_ => (7, .int .i64 (s.k : Nat)) :: (5, oV s.o (srcP rows (x : Int) m ++ List.replicate ((r.take s.k).count (x : Int)) (m : Int)).length) :: kp_) (fun s => oH iE 3 (srcP rows (x : Int) m ++ List.replicate ((r.take s.k).count (x : Int)) (m : Int)) s.o ++ (oH wE 23 ws ow ++ wsH ws)) (fun s => s.k ≤ r.length ∧ oOk iE (srcP rows (x : Int) m ++ List.replicate ((r.take s.k).count (x : Int)) (m : Int)) s.o) (fun s => r.length - s.k) (⟨0, o⟩) bySub (by simp only [List.take_zero, List.count_nil, List.replicate_zero, List.append_nil]; exact Part.all) (⟨by simp, by simpa using oko⟩) ?_
      rintro ⟨i, o⟩ ⟨hi, oko⟩
      dsimp only at hi oko ⊢
      by_cases hil : i < r.length
      · obtain ⟨t, ht⟩ := get_of_lt hil
        by_cases htx : t = (x : Int)
        · subst htx
          have hcn : List.replicate ((r.take (i + 1)).count (x : Int)) (m : Int) = List.replicate ((r.take i).count (x : Int)) (m : Int) ++ [(m : Int)] := by
            rw [take_snoc ht, List.count_append]; simp [List.replicate_succ']
          have hcl : (r.take i).count (x : Int) ≤ 1000 := Nat.le_trans List.count_le_length (by rw [List.length_take]; omega)
          have hbd : ((srcP rows (x : Int) m ++ List.replicate ((r.take i).count (x : Int)) (m : Int)) ++ [(m : Int)]).length ≤ 4294967296 := by simp only [List.length_append, List.length_replicate, List.length_singleton]; omega
          refine K.seq ?_
          refine K.seq ?_
          refine K.region ?_
          (refine KL.v rfl (Val.move rfl) ?_)
          (refine KL.v rfl (Val.move rfl) ?_)
          (refine KL.v rfl (Val.move rfl) ?_)
          (refine KL.v rfl (Val.idxSl rfl rfl rfl bySli rfl byLt) ?_)
          (refine KL.v rfl (Val.loadP rfl rfl bySee) ?_)
          (refine KL.v rfl (Val.lenSl rfl rfl bySli) ?_)
          (refine KL.v rfl (Val.isT (Val.lss rfl rfl) byLt) ?_)
          refine KL.nil ?_
          refine KE.next ?_
          refine K.condT rfl ?_
          refine K.skip ?_
          refine KE.next ?_
          refine K.seq ?_
          refine K.block ?_
          refine K.seq ?_
          refine K.region ?_
          (refine KL.v rfl (Val.move rfl) ?_)
          (refine KL.v rfl (Val.move rfl) ?_)
          (refine KL.v rfl (Val.idxSl rfl rfl rfl bySli rfl byLt) ?_)
          (refine KL.v rfl (Val.loadP rfl rfl bySee) ?_)
          (refine KL.v rfl (Val.move rfl) ?_)
          (refine KL.v rfl (Val.idxSl rfl rfl rfl bySli rfl byLt) ?_)
          (refine KL.v rfl (Val.loadP rfl rfl bySee) ?_)
          (refine KL.v rfl (Val.move rfl) ?_)
          (refine KL.v rfl (Val.isT (Val.eql rfl rfl) byLt) ?_)
          refine KL.nil ?_
          refine KE.next ?_
          refine K.condT rfl ?_
          refine K.region ?_
          (refine KL.v rfl (Val.move rfl) ?_)
          (refine KL.v rfl (Val.move rfl) ?_)
          (refine KL.e rfl (Eff.buildS byParts rfl rfl rfl rfl rfl byFill) ?_; rintro _ _ ⟨b40, rfl, rfl⟩)
          (refine KL.e rfl (Eff.appZ (ys := [_]) rfl rfl rfl rfl rfl rfl byTakeL (by assumption) (by first | exact Sli.blk byTake rfl (by first | decide | simp) (by first | decide | (unfold maxLen; omega)) rfl | exact Sli.old (by assumption) | exact Sli.own byTakeL (by assumption) byLen | assumption | exact Sli.part (by assumption) byPart) rfl (by first | assumption | omega | (simp <;> fail) | (simp; omega)) rfl) ?_; rintro _ _ ⟨o41, ok41, rfl, rfl⟩)
          (refine KL.v rfl (Val.assign rfl) ?_)
          refine KL.nil ?_
          refine KE.blkN ?_
          refine KE.next ?_
          refine K.region ?_
          (refine KL.v rfl (Val.move rfl) ?_)
          (refine KL.v rfl (Val.add rfl rfl (by simp only [Go.Proofs.Ytfgmofaadcbokaa.lo, Go.Proofs.Ytfgmofaadcbokaa.hi]; omega)) ?_)
          (refine KL.v rfl (Val.assign rfl) ?_)
          refine KL.nil ?_
          rw [List.append_assoc, ← hcn] at ok41 ⊢
          exact KE.again ⟨i + 1, o41⟩ bySub byPart ⟨by show i + 1 ≤ _; omega, ok41⟩ (by show r.length - (i + 1) < r.length - i; omega)
        · have hcn : (r.take (i + 1)).count (x : Int) = (r.take i).count (x : Int) := by
            rw [take_snoc ht, List.count_append, List.count_singleton]; simp [htx]
          refine K.seq ?_
          refine K.seq ?_
          refine K.region ?_
          (refine KL.v rfl (Val.move rfl) ?_)
          (refine KL.v rfl (Val.move rfl) ?_)
          (refine KL.v rfl (Val.move rfl) ?_)
          (refine KL.v rfl (Val.idxSl rfl rfl rfl bySli rfl byLt) ?_)
          (refine KL.v rfl (Val.loadP rfl rfl bySee) ?_)
          (refine KL.v rfl (Val.lenSl rfl rfl bySli) ?_)
          (refine KL.v rfl (Val.isT (Val.lss rfl rfl) byLt) ?_)
          refine KL.nil ?_
          refine KE.next ?_
          refine K.condT rfl ?_
          refine K.skip ?_
          refine KE.next ?_
          refine K.seq ?_
          refine K.block ?_
          refine K.seq ?_
          refine K.region ?_
          (refine KL.v rfl (Val.move rfl) ?_)
          (refine KL.v rfl (Val.move rfl) ?_)
          (refine KL.v rfl (Val.idxSl rfl rfl rfl bySli rfl byLt) ?_)
          (refine KL.v rfl (Val.loadP rfl rfl bySee) ?_)
          (refine KL.v rfl (Val.move rfl) ?_)
          (refine KL.v rfl (Val.idxSl rfl rfl rfl bySli rfl byLt) ?_)
          (refine KL.v rfl (Val.loadP rfl rfl bySee) ?_)
          (refine KL.v rfl (Val.move rfl) ?_)
          (refine KL.v rfl (Val.isF (Val.eql rfl rfl) byLt) ?_)
          refine KL.nil ?_
          refine KE.next ?_
          refine K.condF rfl ?_
          refine K.skip ?_
          refine KE.blkN ?_
          refine KE.next ?_
          refine K.region ?_
          (refine KL.v rfl (Val.move rfl) ?_)
          (refine KL.v rfl (Val.add rfl rfl (by simp only [Go.Proofs.Ytfgmofaadcbokaa.lo, Go.Proofs.Ytfgmofaadcbokaa.hi]; omega)) ?_)
          (refine KL.v rfl (Val.assign rfl) ?_)
          refine KL.nil ?_
          rw [← hcn] at oko ⊢
          exact KE.again ⟨i + 1, o⟩ bySub byPart ⟨by show i + 1 ≤ _; omega, oko⟩ (by show r.length - (i + 1) < r.length - i; omega)
      · have hsn : srcP rows (x : Int) (m + 1) = srcP rows (x : Int) m ++ List.replicate ((r.take i).count (x : Int)) (m : Int) := by
          rw [srcP_succ, hr, List.take_of_length_le (by omega)]; rfl
        rw [← hsn] at oko ⊢
        refine K.seq ?_
        refine K.seq ?_
        refine K.region ?_
        (refine KL.v rfl (Val.move rfl) ?_)
        (refine KL.v rfl (Val.move rfl) ?_)
        (refine KL.v rfl (Val.move rfl) ?_)
        (refine KL.v rfl (Val.idxSl rfl rfl rfl bySli rfl byLt) ?_)
        (refine KL.v rfl (Val.loadP rfl rfl bySee) ?_)
        (refine KL.v rfl (Val.lenSl rfl rfl bySli) ?_)
        (refine KL.v rfl (Val.isF (Val.lss rfl rfl) byLt) ?_)
        refine KL.nil ?_
        refine KE.next ?_
        refine K.condF rfl ?_
        refine K.exit ?_
        refine KE.passX ?_
        refine KE.passX ?_
        refine KE.blkX ?_
        refine KE.blkN ?_
        refine KE.next ?_
        refine K.region ?_
        (refine KL.v rfl (Val.move rfl) ?_)
        (refine KL.v rfl (Val.add rfl rfl (by simp only [Go.Proofs.Ytfgmofaadcbokaa.lo, Go.Proofs.Ytfgmofaadcbokaa.hi]; omega)) ?_)
        (refine KL.v rfl (Val.assign rfl) ?_)
        refine KL.nil ?_
        exact KE.again ⟨m + 1, o⟩ bySub byPart ⟨by show m + 1 ≤ _; omega, oko⟩ (by show rows.length - (m + 1) < rows.length - m; omega)
    · have hme : m = rows.length := by omega
      subst hme
      have hbd : (ws ++ [(o, srcP rows (x : Int) rows.length)]).length ≤ 4294967296 := by simp; omega
      have hsn : (ws ++ [(o, srcP rows (x : Int) rows.length)]).map (·.2) = (turnP rows).take (x + 1) := by
        have : (turnP rows)[x]? = some (srcP rows (x : Int) rows.length) := by simp [turnP, hxl]
        rw [take_snoc this, List.map_append, hmp]; rfl
      refine K.seq ?_
      refine K.seq ?_
      refine K.region ?_
      (refine KL.v rfl (Val.move rfl) ?_)
      (refine KL.v rfl (Val.move rfl) ?_)
      (refine KL.v rfl (Val.lenSl rfl rfl bySli) ?_)
      (refine KL.v rfl (Val.isF (Val.lss rfl rfl) byLt) ?_)
      refine KL.nil ?_
      refine KE.next ?_
      refine K.condF rfl ?_
      refine K.exit ?_
      refine KE.passX ?_
      refine KE.passX ?_
      refine KE.blkX ?_
      refine KE.next ?_
      refine K.region ?_
      (refine KL.v rfl (Val.move rfl) ?_)
      (refine KL.v rfl (Val.move rfl) ?_)
      (refine KL.e rfl (Eff.buildS byParts rfl rfl rfl rfl rfl byFill) ?_; rintro _ _ ⟨b44, rfl, rfl⟩)
      (refine KL.e rfl (Eff.appZ (E := wE) (xs := ws) (o := ow) (ys := [(o, srcP rows (x : Int) rows.length)]) (zs := ws ++ [(o, srcP rows (x : Int) rows.length)]) rfl rfl rfl rfl rfl rfl byTakeL (by assumption) (by first | exact Sli.blk byTake rfl (by first | decide | simp) (by first | decide | (unfold maxLen; omega)) rfl | exact Sli.old (by assumption) | exact Sli.own byTakeL (by assumption) byLen | assumption | exact Sli.part (by assumption) byPart) (rfl) (by first | assumption | omega | (simp <;> fail) | (simp; omega)) rfl) ?_; rintro _ _ ⟨o', ok', rfl, rfl⟩)
      (refine KL.v rfl (Val.assign rfl) ?_)
      refine KL.nil ?_
      refine KE.blkN ?_
      refine KE.next ?_
      refine K.region ?_
      (refine KL.v rfl (Val.move rfl) ?_)
      (refine KL.v rfl (Val.add rfl rfl (by simp only [Go.Proofs.Ytfgmofaadcbokaa.lo, Go.Proofs.Ytfgmofaadcbokaa.hi]; omega)) ?_)
      (refine KL.v rfl (Val.assign rfl) ?_)
      refine KL.nil ?_
      exact KE.again ⟨x + 1, ws ++ [(o, srcP rows (x : Int) rows.length)], o'⟩ bySub (by dsimp only; rw [wsH_app, show wsH [(o, srcP rows (x : Int) rows.length)] = oH iE 3 (srcP rows (x : Int) rows.length) o ++ [] from rfl]; simp only [List.append_nil]; exact byPart) ⟨by show x + 1 ≤ _; omega, ok', hsn, fun p hp => by
        rcases List.mem_append.1 hp with h | h
        · exact oks p h
        · rw [List.mem_singleton.1 h]; exact oko⟩ (by show rows.length - (x + 1) < rows.length - x; omega)
  · have hxe : x = rows.length := by omega
    subst hxe
    rw [List.take_of_length_le (by rw [turn_len]; omega)] at hmp
    refine K.seq ?_
    refine K.seq ?_
    refine K.region ?_
    (refine KL.v rfl (Val.move rfl) ?_)
    (refine KL.v rfl (Val.move rfl) ?_)
    (refine KL.v rfl (Val.lenSl rfl rfl bySli) ?_)
    (refine KL.v rfl (Val.isF (Val.lss rfl rfl) byLt) ?_)
    refine KL.nil ?_
    refine KE.next ?_
    refine K.condF rfl ?_
    refine K.exit ?_
    refine KE.passX ?_
    refine KE.passX ?_
    refine KE.blkX ?_
    refine KE.next ?_
    refine K.seq ?_
    refine K.region ?_
    (refine KL.v rfl (Val.move rfl) ?_)
    (refine KL.v rfl (Val.assign rfl) ?_)
    refine KL.nil ?_
    refine KE.next ?_
    refine K.ret ?_
    exact KE.fin byMarks rfl byRes byPart ⟨ws, ow, okw, hmp, oks, rfl, rfl⟩
end Go.Proofs.Ytfgmofaadcbokaa
