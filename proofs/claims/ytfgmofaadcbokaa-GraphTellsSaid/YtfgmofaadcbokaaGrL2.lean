/- Graph: the law GraphTells. -/
import Derived.Test.YtfgmofaadcbokaaGrA
namespace Go.Proofs.Ytfgmofaadcbokaa
open Go.RowKit Go.ChangeShapes Go.WideShapes Go.ChangeAt Go.Deep Go.Joins
set_option linter.unusedVariables false
set_option linter.unusedSimpArgs false
theorem SlW.le2 {w : World} {v : Value} {l : List Int} (h : SlW w iE v l) : l.length ≤ 9223372036854775807 := by have := h.le; unfold maxLen at this; exact this
set_option maxRecDepth 10000 in
set_option maxHeartbeats 4000000 in
theorem graphTells_K {w0 : World} {vg vl : Value} {gs : List SV} {rows : List (List Int)} {l : List Int} {to : Int} (hG : SlW w0 svE vg gs) (hR : RowsI w0 gs rows) (hL : SlW w0 iE vl l) (hb : ∀ r ∈ rows, r.length ≤ 140737488355328) :
    Call Try.prog w0 3 [vg, vl, .int .i64 to] [] (fun r H' => r = .bool true ∧ H' = []) := by
  refine Call.enter3 (n := 69) (by kernel_rfl) Try.func3 rfl rfl rfl ?_
  have hgl := hR.len
  refine K.seq ?_
  refine K.region ?_
  (refine KL.v rfl (Val.assign rfl) ?_)
  refine KL.nil ?_
  refine KE.next ?_
  refine K.seq ?_
  refine K.seq ?_
  refine K.region ?_
  (refine KL.v rfl (Val.move rfl) ?_)
  (refine KL.v rfl (Val.move rfl) ?_)
  (refine KL.callc rfl rfl byEvL fun T hT => ?_)
  refine (CallV.fn (great_K hG hR hL hb)).mono ?_
  rintro _ _ ⟨rfl, rfl⟩
  cases hgr : greatP rows l.length with
  | true =>
    refine hT _ _ ?_; clear hT; clear T
    refine KL.nil ?_
    refine KE.next ?_
    refine K.condT rfl ?_
    refine K.seq ?_
    refine K.region ?_
    (refine KL.callc rfl rfl byEvL fun T hT => ?_)
    refine (CallV.fn awake_K).mono ?_
    rintro _ _ ⟨rfl, rfl⟩
    refine hT _ _ ?_; clear hT; clear T
    (refine KL.v rfl (Val.assign rfl) ?_)
    refine KL.nil ?_
    refine KE.next ?_
    refine K.ret ?_
    refine KE.passR ?_
    exact KE.fin byMarks rfl byRes byPart ⟨rfl, rfl⟩
  | false =>
    obtain ⟨h40, h200, h50⟩ := great_false hgr
    have hbb : ∀ r ∈ rows, r.length ≤ 1000 := fun r hr => Nat.le_trans (tot_row hr) (by omega)
    have hg1 : gs.length ≤ 100 := by omega
    have hl1 : l.length ≤ 100000 := by omega
    have ht1 : totP rows ≤ 1000 := by omega
    refine hT _ _ ?_; clear hT; clear T
    refine KL.nil ?_
    refine KE.next ?_
    refine K.condF rfl ?_
    refine K.skip ?_
    refine KE.next ?_
    refine K.seq ?_
    refine K.region ?_
    (refine KL.v rfl (Val.move rfl) ?_)
    (refine KL.callc rfl rfl byEvL fun T hT => ?_)
    refine (CallV.fn (Turned_K hG hR hg1 hbb)).mono ?_
    rintro _ _ ⟨ws, ow, okw, hmp, oks, rfl, rfl⟩
    refine hT _ _ ?_; clear hT; clear T
    (refine KL.v rfl (Val.move rfl) ?_)
    (refine KL.callc rfl rfl byEvL fun T hT => ?_)
    refine (CallV.pure fun w hw => CallV.fn (RTurned_K (hG.only hw.old) (hR.only hw.old) hg1 hbb)).mono ?_
    rintro _ _ ⟨_, ⟨us, ou, oku, hmu, oksu, rfl, rfl⟩, rfl⟩
    simp only [List.append_assoc]
    have hwl : ws.length = rows.length := by rw [← List.length_map (f := (·.2)), hmp, turn_len]
    have hul : us.length = rows.length := by rw [← List.length_map (f := (·.2)), hmu, turn_len]
    have hlu : ¬ ((ws.length : Nat) : Int) ≠ (us.length : Nat) := by omega
    refine hT _ _ ?_; clear hT; clear T
    (refine KL.v rfl (Val.assign rfl) ?_)
    (refine KL.v rfl (Val.assign rfl) ?_)
    refine KL.nil ?_
    refine KE.next ?_
    refine K.seq ?_
    refine K.seq ?_
    refine K.region ?_
    (refine KL.v rfl (Val.move rfl) ?_)
    (refine KL.v rfl (Val.lenSl rfl rfl bySli) ?_)
    (refine KL.v rfl (Val.move rfl) ?_)
    (refine KL.v rfl (Val.lenSl rfl rfl bySli) ?_)
    (refine KL.v rfl (Val.isF (Val.neq rfl rfl) byLt) ?_)
    refine KL.nil ?_
    refine KE.next ?_
    refine K.condF rfl ?_
    refine K.skip ?_
    refine KE.next ?_
    refine K.seq ?_
    refine K.seq ?_
    refine K.region ?_
    (refine KL.v rfl (Val.assign rfl) ?_)
    refine KL.nil ?_
    refine KE.next ?_
    refine K.block ?_
    refine K.loopT (σ := Nat) [(0, _), (1, _), (2, _), (7, _), (8, _)] (fun s kp_ => (9, .int .i64 (s : Nat)) :: kp_) (fun s => oH wE 23 us ou ++ (wsH us ++ (oH wE 23 ws ow ++ wsH ws))) (fun s => s ≤ rows.length) (fun s => rows.length - s) (0) bySub byPart (Nat.zero_le _) ?_
    rintro i hi
    by_cases hil : i < rows.length
    · obtain ⟨p, hp⟩ := get_of_lt (l := ws) (k := i) (by omega)
      obtain ⟨q, hq⟩ := get_of_lt (l := us) (k := i) (by omega)
      have okp := oks p (List.mem_of_getElem? hp)
      have okq := oksu q (List.mem_of_getElem? hq)
      have hiw : i < ws.length := by omega
      have hiu : i < us.length := by omega
      have hpq : p.2 = q.2 := by
        have h1 : (ws.map (·.2))[i]? = some p.2 := by rw [List.getElem?_map, hp]; rfl
        have h2 : (us.map (·.2))[i]? = some q.2 := by rw [List.getElem?_map, hq]; rfl
        rw [hmp] at h1; rw [hmu] at h2
        rw [h1] at h2; exact Option.some.inj h2
      refine K.seq ?_
      refine K.seq ?_
      refine K.region ?_
      (refine KL.v rfl (Val.move rfl) ?_)
      (refine KL.v rfl (Val.move rfl) ?_)
      (refine KL.v rfl (Val.lenSl rfl rfl bySli) ?_)
      (refine KL.v rfl (Val.isT (Val.lss rfl rfl) byLt) ?_)
      refine KL.nil ?_
      refine KE.next ?_
      refine K.condT rfl ?_
      refine K.skip ?_
      refine KE.next ?_
      refine K.seq ?_
      refine K.block ?_
      refine K.seq ?_
      refine K.drawn _ [(0, 0), (1, 0), (2, 0), (3, 0), (4, 0), (5, 0), (6, 0), (7, 0), (8, 2), (9, 0)] (by kernel_rfl) (by kernel_rfl) (by kernel_rfl) (by kernel_rfl) (by kernel_rfl) (by kernel_rfl) Part.all ?_
      refine KD.v0 rfl rfl (Val.move rfl) ?_
      refine KD.v0 rfl rfl (Val.move rfl) ?_
      refine KD.v0 rfl rfl (Val.idxSl rfl rfl rfl bySli rfl byLt) ?_
      refine KD.v0 rfl rfl (Val.loadP rfl rfl bySee) ?_
      refine KD.v0 rfl rfl (Val.move rfl) ?_
      refine KD.v0 rfl rfl (Val.move rfl) ?_
      refine KD.v0 rfl rfl (Val.idxSl rfl rfl rfl bySli rfl byLt) ?_
      refine KD.v0 rfl rfl (Val.loadP rfl rfl bySee) ?_
      refine KD.callc rfl rfl rfl byEvL fun T hT => ?_
      refine (CallV.pure fun w hw => CallV.fn (Same_K ((row_own hp okp byPart : Sli w0 _ iE _ _) w hw) ((row_own hq okq byPart : Sli w0 _ iE _ _) w hw))).mono ?_
      rintro _ _ ⟨_, ⟨rfl, rfl⟩, rfl⟩
      rw [decide_eq_true hpq]
      refine hT _ _ byPart ?_; clear hT; clear T
      refine KD.v0 rfl rfl (Val.notT rfl) ?_
      refine KD.nil ?_
      refine KE.next ?_
      refine K.condF rfl ?_
      refine K.skip ?_
      refine KE.blkN ?_
      refine KE.next ?_
      refine K.region ?_
      (refine KL.v rfl (Val.move rfl) ?_)
      (refine KL.v rfl (Val.add rfl rfl (by simp only [Go.Proofs.Ytfgmofaadcbokaa.lo, Go.Proofs.Ytfgmofaadcbokaa.hi]; omega)) ?_)
      (refine KL.v rfl (Val.assign rfl) ?_)
      refine KL.nil ?_
      exact KE.again (i + 1) bySub byPart (by omega) (by omega)
    · skip
      refine K.seq ?_
      refine K.seq ?_
      refine K.region ?_
      (refine KL.v rfl (Val.move rfl) ?_)
      (refine KL.v rfl (Val.move rfl) ?_)
      (refine KL.v rfl (Val.lenSl rfl rfl bySli) ?_)
      (refine KL.v rfl (Val.isF (Val.lss rfl rfl) byLt) ?_)
      refine KL.nil ?_
      refine KE.next ?_
      refine K.condF rfl ?_
      refine K.exit ?_
      refine KE.passX ?_
      refine KE.passX ?_
      refine KE.blkX ?_
      refine KE.next ?_
      refine K.seq ?_
      refine K.region ?_
      (refine KL.v rfl (Val.move rfl) ?_)
      (refine KL.v rfl (Val.move rfl) ?_)
      (refine KL.callc rfl rfl byEvL fun T hT => ?_)
      refine (CallV.pure fun w hw => CallV.fn (Reach_K (hG.only hw.old) (hR.only hw.old) (hL.only hw.old) hl1 hg1 hbb)).mono ?_
      rintro _ _ ⟨_, ⟨o1, ok1, rfl, rfl⟩, rfl⟩
      refine hT _ _ ?_; clear hT; clear T
      (refine KL.v rfl (Val.move rfl) ?_)
      (refine KL.v rfl (Val.move rfl) ?_)
      (refine KL.callc rfl rfl byEvL fun T hT => ?_)
      refine (CallV.pure fun w hw => CallV.fn (RReach_K (hG.only hw.old) (hR.only hw.old) (hL.only hw.old) hl1 hg1 hbb)).mono ?_
      rintro _ _ ⟨_, ⟨o2, ok2, rfl, rfl⟩, rfl⟩
      refine hT _ _ ?_; clear hT; clear T
      (refine KL.callc rfl rfl byEvL fun T hT => ?_)
      refine (CallV.pure fun w hw => CallV.fn (SameBools_K ((Sli.own (o := o1) byTakeL ok1 rfl : Sli w0 _ boE _ _) w hw) ((Sli.own (o := o2) byTakeL ok2 rfl : Sli w0 _ boE _ _) w hw))).mono ?_
      rintro _ _ ⟨_, ⟨rfl, rfl⟩, rfl⟩
      rw [decide_eq_true rfl]
      refine hT _ _ ?_; clear hT; clear T
      (refine KL.v rfl (Val.move rfl) ?_)
      (refine KL.yes rfl rfl ?_; refine KL.v rfl (Val.move rfl) ?_)
      (refine KL.yes rfl rfl ?_; refine KL.v rfl (Val.move rfl) ?_)
      (refine KL.yes rfl rfl ?_; refine KL.callc rfl rfl byEvL fun T hT => ?_)
      refine (CallV.pure fun w hw => CallV.fn (Depths_K (hG.only hw.old) (hR.only hw.old) (hL.only hw.old) hl1 hg1 hbb)).mono ?_
      rintro _ _ ⟨_, ⟨o3, ok3, rfl, rfl⟩, rfl⟩
      refine hT _ _ ?_; clear hT; clear T
      (refine KL.yes rfl rfl ?_; refine KL.v rfl (Val.move rfl) ?_)
      (refine KL.yes rfl rfl ?_; refine KL.v rfl (Val.move rfl) ?_)
      (refine KL.yes rfl rfl ?_; refine KL.callc rfl rfl byEvL fun T hT => ?_)
      refine (CallV.pure fun w hw => CallV.fn (RDepths_K (hG.only hw.old) (hR.only hw.old) (hL.only hw.old) hl1 hg1 hbb)).mono ?_
      rintro _ _ ⟨_, ⟨o4, ok4, rfl, rfl⟩, rfl⟩
      refine hT _ _ ?_; clear hT; clear T
      (refine KL.yes rfl rfl ?_; refine KL.callc rfl rfl byEvL fun T hT => ?_)
      refine (CallV.pure fun w hw => CallV.fn (Same_K ((Sli.own (o := o3) byTakeL ok3 rfl : Sli w0 _ iE _ _) w hw) ((Sli.own (o := o4) byTakeL ok4 rfl : Sli w0 _ iE _ _) w hw))).mono ?_
      rintro _ _ ⟨_, ⟨rfl, rfl⟩, rfl⟩
      rw [decide_eq_true rfl]
      refine hT _ _ ?_; clear hT; clear T
      (refine KL.v rfl (Val.pickT rfl rfl rfl) ?_)
      (refine KL.v rfl (Val.move rfl) ?_)
      (refine KL.yes rfl rfl ?_; refine KL.v rfl (Val.move rfl) ?_)
      (refine KL.yes rfl rfl ?_; refine KL.v rfl (Val.move rfl) ?_)
      (refine KL.yes rfl rfl ?_; refine KL.v rfl (Val.move rfl) ?_)
      (refine KL.yes rfl rfl ?_; refine KL.callc rfl rfl byEvL fun T hT => ?_)
      refine (CallV.pure fun w hw => CallV.fn (Way_K (to := to) (hG.only hw.old) (hR.only hw.old) (hL.only hw.old) hl1 hg1 ht1)).mono ?_
      rintro _ _ ⟨_, ⟨o5, ok5, rfl, rfl⟩, rfl⟩
      refine hT _ _ ?_; clear hT; clear T
      (refine KL.yes rfl rfl ?_; refine KL.v rfl (Val.move rfl) ?_)
      (refine KL.yes rfl rfl ?_; refine KL.v rfl (Val.move rfl) ?_)
      (refine KL.yes rfl rfl ?_; refine KL.v rfl (Val.move rfl) ?_)
      (refine KL.yes rfl rfl ?_; refine KL.callc rfl rfl byEvL fun T hT => ?_)
      refine (CallV.pure fun w hw => CallV.fn (RWay_K (to := to) (hG.only hw.old) (hR.only hw.old) (hL.only hw.old) hl1 hg1 hbb)).mono ?_
      rintro _ _ ⟨_, ⟨o6, ok6, rfl, rfl⟩, rfl⟩
      refine hT _ _ ?_; clear hT; clear T
      (refine KL.yes rfl rfl ?_; refine KL.callc rfl rfl byEvL fun T hT => ?_)
      refine (CallV.pure fun w hw => CallV.fn (Same_K ((Sli.own (o := o5) byTakeL ok5 rfl : Sli w0 _ iE _ _) w hw) ((Sli.own (o := o6) byTakeL ok6 rfl : Sli w0 _ iE _ _) w hw))).mono ?_
      rintro _ _ ⟨_, ⟨rfl, rfl⟩, rfl⟩
      rw [decide_eq_true rfl]
      refine hT _ _ ?_; clear hT; clear T
      (refine KL.v rfl (Val.pickT rfl rfl rfl) ?_)
      (refine KL.v rfl (Val.move rfl) ?_)
      (refine KL.yes rfl rfl ?_; refine KL.callc rfl rfl byEvL fun T hT => ?_)
      refine (CallV.fn awake_K).mono ?_
      rintro _ _ ⟨rfl, rfl⟩
      refine hT _ _ ?_; clear hT; clear T
      (refine KL.v rfl (Val.pickT rfl rfl rfl) ?_)
      (refine KL.v rfl (Val.assign rfl) ?_)
      refine KL.nil ?_
      refine KE.next ?_
      refine K.ret ?_
      exact KE.fin byMarks rfl byRes byPart ⟨rfl, rfl⟩
theorem graphTells_call {H : Type} {enc : TypeId × Value → H} (W : World) (base : Nat) (v0 v1 v2 : Value) {d0 d1 d2 : DataW H} {p0 p1 p2 : List MemPlace}
    (o0 : Value.okWide Try.prog W .any base 22 v0) (h0 : DataW.Trod enc Try.prog W 0 (fun _ => true) true 22 v0 d0 p0) (z0 : ∀ n ∈ d0.weights Try.prog 22, n ≤ reachBytes)
    (o1 : Value.okWide Try.prog W .any base 23 v1) (h1 : DataW.Trod enc Try.prog W 0 (fun _ => true) true 23 v1 d1 p1)
    (o2 : Value.okWide Try.prog W .any base 3 v2) (h2 : DataW.Trod enc Try.prog W 0 (fun _ => true) true 3 v2 d2 p2) :
    Calls Try.prog 3 #[v0, v1, v2] W (AwakeEnd W) := by
  obtain ⟨gs, rows, hG, hR, hb⟩ := graph_sl o0 h0 z0
  obtain ⟨l, hL, _⟩ := ints_sl o1 h1
  obtain ⟨x, rfl, hx⟩ := okWide_int Try.underlying3 o2
  exact (graphTells_K hG hR hL hb).calls
end Go.Proofs.Ytfgmofaadcbokaa
