/- Ideal: the law IdealPlays. -/
import Derived.Test.YthamkgghnjenhaaGreatJ23
namespace Go.Proofs.YthamkgghnjenhaaGreat
open Go.RowKit Go.ChangeShapes Go.WideShapes Go.ChangeAt Go.Deep Go.Joins
set_option linter.unusedVariables false
set_option linter.unusedSimpArgs false
set_option maxRecDepth 10000

def kindV (vc : Value) (q c : Int) : Value := .agg [vc, .int .i64 q, .int .i64 c].toArray
theorem great_K {w0 : World} {H : Heap} {vc vl : Value} {cl : List Int} {l : List OpP} {q c : Int} (hC : SlW w0 iE vc cl) (hL : SlW w0 opE vl l) :
    Call Tryz.prog w0 4 [kindV vc q c, vl] H (fun r H' => r = .bool (decide (20 < cl.length ∨ 60 < l.length)) ∧ H' = H) := by
  have hC1 := hC.one
  unfold kindV
  refine Call.enter2 (n := 14) (by kernel_rfl) Tryz.func4 rfl rfl rfl ?_
  by_cases h1 : (cl.length : Int) > 20
  · have hd : decide (20 < cl.length ∨ 60 < l.length) = true := decide_eq_true (by omega)
    refine K.seq ?_
    refine K.region ?_
    (refine KL.e rfl (Eff.box rfl rfl) ?_; rintro _ _ ⟨b2, rfl, rfl⟩)
    (refine KL.v rfl (Val.assign rfl) ?_)
    refine KL.nil ?_
    refine KE.next ?_
    refine K.seq ?_
    refine K.region ?_
    (refine KL.v rfl (Val.fieldAddr0 (k := 0) rfl rfl) ?_)
    (refine KL.v rfl (Val.loadP rfl rfl (Sees.cell byTake rfl)) ?_)
    (refine KL.v rfl (Val.lenSl rfl rfl (Sli.old (by assumption))) ?_)
    (refine KL.v rfl (Val.isT (Val.gtr rfl rfl) byLt) ?_)
    (refine KL.v rfl (Val.move rfl) ?_)
    refine KL.skipG rfl rfl rfl ?_
    refine KL.skipG rfl rfl rfl ?_
    refine KL.skipG rfl rfl rfl ?_
    (refine KL.v rfl (Val.pickT rfl rfl rfl) ?_)
    (refine KL.v rfl (Val.assign rfl) ?_)
    refine KL.nil ?_
    refine KE.next ?_
    refine K.ret ?_
    exact KE.fin byMarks rfl byRes byPart ⟨by rw [hd]; rfl, rfl⟩
  by_cases h2 : (l.length : Int) > 60
  · have hd : decide (20 < cl.length ∨ 60 < l.length) = true := decide_eq_true (by omega)
    refine K.seq ?_
    refine K.region ?_
    (refine KL.e rfl (Eff.box rfl rfl) ?_; rintro _ _ ⟨b2, rfl, rfl⟩)
    (refine KL.v rfl (Val.assign rfl) ?_)
    refine KL.nil ?_
    refine KE.next ?_
    refine K.seq ?_
    refine K.region ?_
    (refine KL.v rfl (Val.fieldAddr0 (k := 0) rfl rfl) ?_)
    (refine KL.v rfl (Val.loadP rfl rfl (Sees.cell byTake rfl)) ?_)
    (refine KL.v rfl (Val.lenSl rfl rfl (Sli.old (by assumption))) ?_)
    (refine KL.v rfl (Val.isF (Val.gtr rfl rfl) byLt) ?_)
    (refine KL.v rfl (Val.move rfl) ?_)
    (refine KL.yes rfl rfl ?_; refine KL.v rfl (Val.move rfl) ?_)
    (refine KL.yes rfl rfl ?_; refine KL.v rfl (Val.lenSl rfl rfl (Sli.old (by assumption))) ?_)
    (refine KL.yes rfl rfl ?_; refine KL.v rfl (Val.isT (Val.gtr rfl rfl) byLt) ?_)
    (refine KL.v rfl (Val.pickF rfl rfl rfl) ?_)
    (refine KL.v rfl (Val.assign rfl) ?_)
    refine KL.nil ?_
    refine KE.next ?_
    refine K.ret ?_
    exact KE.fin byMarks rfl byRes byPart ⟨by rw [hd]; rfl, rfl⟩
  · have hd : decide (20 < cl.length ∨ 60 < l.length) = false := decide_eq_false (by omega)
    refine K.seq ?_
    refine K.region ?_
    (refine KL.e rfl (Eff.box rfl rfl) ?_; rintro _ _ ⟨b2, rfl, rfl⟩)
    (refine KL.v rfl (Val.assign rfl) ?_)
    refine KL.nil ?_
    refine KE.next ?_
    refine K.seq ?_
    refine K.region ?_
    (refine KL.v rfl (Val.fieldAddr0 (k := 0) rfl rfl) ?_)
    (refine KL.v rfl (Val.loadP rfl rfl (Sees.cell byTake rfl)) ?_)
    (refine KL.v rfl (Val.lenSl rfl rfl (Sli.old (by assumption))) ?_)
    (refine KL.v rfl (Val.isF (Val.gtr rfl rfl) byLt) ?_)
    (refine KL.v rfl (Val.move rfl) ?_)
    (refine KL.yes rfl rfl ?_; refine KL.v rfl (Val.move rfl) ?_)
    (refine KL.yes rfl rfl ?_; refine KL.v rfl (Val.lenSl rfl rfl (Sli.old (by assumption))) ?_)
    (refine KL.yes rfl rfl ?_; refine KL.v rfl (Val.isF (Val.gtr rfl rfl) byLt) ?_)
    (refine KL.v rfl (Val.pickF rfl rfl rfl) ?_)
    (refine KL.v rfl (Val.assign rfl) ?_)
    refine KL.nil ?_
    refine KE.next ?_
    refine K.ret ?_
    exact KE.fin byMarks rfl byRes byPart ⟨by rw [hd]; rfl, rfl⟩
/-! ## other caps -/
theorem rch_caps {S : St} {c i : Int} : Rch { S with caps := c } i ↔ Rch S i := by
  constructor
  · intro h
    exact rch_mono (S := { S with caps := c }) (fun k j hk => .hand (S := S) hk) (fun j x hx => ⟨x, hx, fun hp => .pin (S := S) hx hp, rfl⟩) h
  · intro h
    exact rch_mono (S := S) (fun k j hk => .hand (S := { S with caps := c }) hk) (fun j x hx => ⟨x, hx, fun hp => .pin (S := { S with caps := c }) hx hp, rfl⟩) h
theorem inv_caps {S : St} {c : Int} (h : Inv S) (hc : 0 ≤ c ∧ c ≤ 1024) : Inv { S with caps := c } :=
  ⟨⟨⟨⟨h.st.closed.nums.t, h.st.closed.nums.h⟩, h.st.closed.rf, h.st.closed.hr⟩, h.st.tx, h.st.cl, h.st.quota⟩, fun i hi => rch_caps.2 (h.gc i hi), h.us, hc⟩
theorem swept_caps {Q : Dc} {S : St} {c : Int} (h : Swept (allS Q) S) : Swept (allS { Q with caps := c }) { S with caps := c } :=
  ⟨h.cl, h.quota, rfl, h.made, h.minted, h.Hd, fun i x => (h.T i x).trans (and_congr_right fun _ => (rch_caps (S := allS Q)).symm)⟩
theorem b_caps {Q : Dc} {c : Int} (h : DcB Q) (hc : 0 ≤ c ∧ c ≤ 1024) : DcB { Q with caps := c } := ⟨⟨h.ok.rf, h.ok.hr⟩, h.ts, h.hs, h.x, h.cl, h.quota, hc⟩
theorem new_sim {cl : List Int} {q c : Int} : Swept (allS ⟨cl, q, c, [], []⟩) (newS cl q c) := by
  have h0 : ∀ (α : Type) (i : Int), atP ([] : List α) i = none := fun α i => by unfold atP; split <;> simp
  refine ⟨rfl, rfl, rfl, rfl, rfl, ?_, fun i x => ?_⟩
  · funext h
    show none = (match atP ([] : List Int) h with | some i => if i = 0 then none else some i | none => none)
    rw [h0]
  · show none = some x ↔ atP ([] : List Th) i = some x ∧ _
    rw [h0]; simp
structure PlS where
  k : Nat
  sm : SM
  d : DV
  Q : Dc
  DM : Heap
structure PlT where
  b14 : Nat
  b15 : Nat
  N : Heap
  d : DV
set_option maxHeartbeats 8000000 in
theorem idealPlays_K {w0 : World} {vc vl vp : Value} {cl ps : List Int} {l : List OpP} {q c : Int} (hK : SlW w0 iE vc cl) (hL : SlW w0 opE vl l) (hok : ∀ op ∈ l, op.ok) (hP : SlW w0 iE vp ps) :
    Call Tryz.prog w0 3 [kindV vc q c, vl, vp] [] (fun r H' => r = .bool true ∧ H' = []) := by
  have hK1 := hK.one
  have hkv : kindV vc q c = .agg [vc, .int .i64 q, .int .i64 c].toArray := rfl
  rw [hkv]
  refine Call.enter3 (n := 137) (by kernel_rfl) Tryz.func3 rfl rfl rfl ?_
  refine K.seq ?_
  refine K.region ?_
  (refine KL.e rfl (Eff.box rfl rfl) ?_; rintro _ _ ⟨b3, rfl, rfl⟩)
  (refine KL.v rfl (Val.assign rfl) ?_)
  refine KL.nil ?_
  refine KE.next ?_
  refine K.seq ?_
  refine K.seq ?_
  refine K.region ?_
  (refine KL.v rfl (Val.loadA rfl rfl rfl bySeeN) ?_)
  (refine KL.v rfl (Val.move rfl) ?_)
  (refine KL.callc rfl rfl byEvL fun T hT => ?_)
  refine (CallV.fn (great_K (q := q) (c := c) hK hL)).mono ?_
  rintro _ _ ⟨rfl, rfl⟩
  by_cases hg : 20 < cl.length ∨ 60 < l.length
  · rw [decide_eq_true hg]
    refine hT _ _ ?_; clear hT; clear T
    refine KL.nil ?_
    refine KE.next ?_
    refine K.condT rfl ?_
    refine K.seq ?_
    refine K.region ?_
    (refine KL.callc rfl rfl byEvL fun T hT => ?_)
    refine (CallV.fn awake_K).mono ?_
    rintro _ _ ⟨rfl, rfl⟩
    refine hT _ _ ?_; clear hT; clear T
    (refine KL.v rfl (Val.assign rfl) ?_)
    refine KL.nil ?_
    refine KE.next ?_
    refine K.ret ?_
    refine KE.passR ?_
    exact KE.fin byMarks rfl byRes byPart ⟨rfl, rfl⟩
  rw [decide_eq_false hg]
  refine hT _ _ ?_; clear hT; clear T
  refine KL.nil ?_
  refine KE.next ?_
  refine K.condF rfl ?_
  refine K.skip ?_
  refine KE.next ?_
  refine K.seq ?_
  refine K.region ?_
  (refine KL.v rfl (Val.fieldAddr0 (k := 0) rfl rfl) ?_)
  (refine KL.v rfl (Val.loadP rfl rfl (Sees.cell byTake rfl)) ?_)
  (refine KL.v rfl (Val.fieldAddr0 (k := 1) rfl rfl) ?_)
  (refine KL.v rfl (Val.loadP rfl rfl (Sees.cell byTake rfl)) ?_)
  (refine KL.v rfl (Val.fieldAddr0 (k := 2) rfl rfl) ?_)
  (refine KL.v rfl (Val.loadP rfl rfl (Sees.cell byTake rfl)) ?_)
  (refine KL.callc rfl rfl byEvL fun T hT => ?_)
  refine (CallV.pure fun w hw => CallV.fn (New_K (quota := q) (caps := c) (hK.only hw.old) (by omega))).mono ?_
  rintro _ _ ⟨_, (⟨hnew, sm0, ok0, hst0, rfl, rfl⟩ | ⟨hno, rfl, rfl⟩), rfl⟩
  · refine hT _ _ ?_; clear hT; clear T
    (refine KL.v rfl (Val.move rfl) ?_)
    (refine KL.v rfl (Val.extract rfl rfl) ?_)
    (refine KL.v rfl (Val.extract rfl rfl) ?_)
    (refine KL.v rfl (Val.assign rfl) ?_)
    (refine KL.v rfl (Val.assign rfl) ?_)
    refine KL.nil ?_
    refine KE.next ?_
    refine K.seq ?_
    refine K.region ?_
    (refine KL.v rfl (Val.fieldAddr0 (k := 0) rfl rfl) ?_)
    (refine KL.v rfl (Val.loadP rfl rfl (Sees.cell byTake rfl)) ?_)
    (refine KL.v rfl (Val.fieldAddr0 (k := 1) rfl rfl) ?_)
    (refine KL.v rfl (Val.loadP rfl rfl (Sees.cell byTake rfl)) ?_)
    (refine KL.v rfl (Val.fieldAddr0 (k := 2) rfl rfl) ?_)
    (refine KL.v rfl (Val.loadP rfl rfl (Sees.cell byTake rfl)) ?_)
    (refine KL.callc rfl rfl byEvL fun T hT => ?_)
    refine (CallV.pure fun w hw => CallV.fn (RNew_K (q := q) (c := c) (hK.only hw.old) (by omega))).mono ?_
    rintro _ _ ⟨_, ⟨rfl, (⟨_, rfl⟩ | ⟨hno, _⟩)⟩, rfl⟩
    · unfold docV
      dsimp only
      have hB0 : DcB ⟨cl, q, c, [], []⟩ := ⟨⟨by simp, by simp⟩, by simp, by simp, by simp, hnew.1, hnew.2.1, hnew.2.2⟩
      refine hT _ _ ?_; clear hT; clear T
      (refine KL.v rfl (Val.move rfl) ?_)
      (refine KL.v rfl (Val.extract rfl rfl) ?_)
      (refine KL.v rfl (Val.extract rfl rfl) ?_)
      (refine KL.e rfl (Eff.alloc rfl) ?_; rintro _ _ ⟨b9, rfl, rfl⟩)
      (refine KL.eN (Eff.storeAL rfl rfl rfl byTake byLay byOnes) ?_; rintro _ _ rfl)
      (refine KL.v rfl (Val.assign rfl) ?_)
      refine KL.nil ?_
      refine KE.next ?_
      refine K.seq ?_
      refine K.seq ?_
      refine K.region ?_
      (refine KL.v rfl (Val.move rfl) ?_)
      (refine KL.v rfl (Val.move rfl) ?_)
      (refine KL.v rfl (Val.isF (Val.neq rfl rfl) byLt) ?_)
      (refine KL.v rfl (Val.move rfl) ?_)
      (refine KL.yes rfl rfl ?_; refine KL.v rfl (Val.move rfl) ?_)
      (refine KL.yes rfl rfl ?_; refine KL.v rfl (Val.eqlPN rfl rfl rfl) ?_)
      (refine KL.yes rfl rfl ?_; refine KL.v rfl (Val.move rfl) ?_)
      (refine KL.yes rfl rfl ?_; refine KL.v rfl (Val.isF (Val.neq rfl rfl) byLt) ?_)
      (refine KL.yes rfl rfl ?_; refine KL.v rfl (Val.neqB rfl rfl rfl) ?_)
      (refine KL.v rfl (Val.pickF rfl rfl rfl) ?_)
      refine KL.nil ?_
      refine KE.next ?_
      refine K.condF rfl ?_
      refine K.skip ?_
      refine KE.next ?_
      refine K.seq ?_
      refine K.seq ?_
      refine K.region ?_
      (refine KL.v rfl (Val.move rfl) ?_)
      (refine KL.v rfl (Val.isF (Val.neq rfl rfl) byLt) ?_)
      refine KL.nil ?_
      refine KE.next ?_
      refine K.condF rfl ?_
      refine K.skip ?_
      refine KE.next ?_
      refine K.seq ?_
      refine K.seq ?_
      refine K.region ?_
      (refine KL.v rfl (Val.assign rfl) ?_)
      refine KL.nil ?_
      refine KE.next ?_
      refine K.block ?_
      refine K.loopT (σ := PlS) [(1, _), (2, _), (9, _)] (fun s kp_ => (11, .int .i64 (s.k : Nat)) :: (7, .pointer (some ⟨s.sm.b, 0, none⟩)) :: kp_) (fun s => smH s.sm ++ (s.DM ++ ((b9, cells [s.d.vc, .int .i64 s.Q.quota, .int .i64 s.Q.caps, s.d.vt, s.d.vh] 35) :: (b3, cells [vc, .int .i64 q, .int .i64 c] 24) :: []))) (fun s => s.k ≤ l.length ∧ SOk s.sm ∧ Inv s.sm.st ∧ Swept (allS s.Q) s.sm.st ∧ DcB s.Q ∧ s.Q.ts.length ≤ s.k ∧ s.Q.hs.length ≤ s.k ∧ DvO s.d ∧ (∀ w, Only [] w0 w → HasH s.DM w → DocR w s.d s.Q)) (fun s => l.length - s.k) (⟨0, sm0, ⟨vc, .slice none 0 0, .slice none 0 0, []⟩, ⟨cl, q, c, [], []⟩, []⟩) bySub byPart (⟨by simp, ok0, by rw [hst0]; exact inv_new hnew, by rw [hst0]; exact new_sim, hB0, by simp, by simp, ⟨hK1, rfl, rfl⟩, fun w ho _ => ⟨hK.only ho, SlW.nil _ _, rfl, by simp, by simp, SlW.nil _ _⟩⟩) ?_
      rintro ⟨k, sm, d, Q, DM⟩ ⟨hk, ok, hI, hS, hB, hqt, hqh, ⟨d1, d2, d3⟩, hdoc⟩
      dsimp only at hk ok hI hS hB hqt hqh d1 d2 d3 hdoc ⊢
      by_cases hlt : k < l.length
      · obtain ⟨op, hop⟩ := get_of_lt hlt
        obtain ⟨o1, o2, o3, o4, o5, o6⟩ := hok op (List.mem_of_getElem? hop)
        have hv : 0 ≤ op.v ∧ op.v < 18446744073709551616 := ⟨o5.1, by have := o5.2; omega⟩
        have hcap0 : sm.caps = Q.caps := hS.caps
        refine K.seq ?_
        refine K.seq ?_
        refine K.region ?_
        (refine KL.v rfl (Val.move rfl) ?_)
        (refine KL.v rfl (Val.move rfl) ?_)
        (refine KL.v rfl (Val.lenSl rfl rfl (Sli.old (by assumption))) ?_)
        (refine KL.v rfl (Val.isT (Val.lss rfl rfl) byLt) ?_)
        refine KL.nil ?_
        refine KE.next ?_
        refine K.condT rfl ?_
        refine K.skip ?_
        refine KE.next ?_
        refine K.seq ?_
        refine K.block ?_
        refine K.cutT (σ := Int) [(1, _), (2, _), (7, _), (9, _), (11, _)] bySub (fun s kp_ => kp_) (fun s => smH { sm with caps := s } ++ (DM ++ ((b9, cells [d.vc, .int .i64 Q.quota, .int .i64 s, d.vt, d.vh] 35) :: (b3, cells [vc, .int .i64 q, .int .i64 c] 24) :: []))) (fun s => 0 ≤ s ∧ s ≤ 1024) ?_ ?_
        · by_cases hkp : k < ps.length
          · obtain ⟨cp, hcp⟩ := get_of_lt hkp
            refine K.seq ?_
            refine K.region ?_
            (refine KL.v rfl (Val.move rfl) ?_)
            (refine KL.v rfl (Val.move rfl) ?_)
            (refine KL.v rfl (Val.lenSl rfl rfl (Sli.old (by assumption))) ?_)
            (refine KL.v rfl (Val.isT (Val.lss rfl rfl) byLt) ?_)
            refine KL.nil ?_
            refine KE.next ?_
            refine K.condT rfl ?_
            refine K.seq ?_
            refine K.region ?_
            (refine KL.v rfl (Val.move rfl) ?_)
            (refine KL.v rfl (Val.move rfl) ?_)
            (refine KL.v rfl (Val.move rfl) ?_)
            (refine KL.v rfl (Val.idxSl rfl rfl rfl (Sli.old (by assumption)) rfl byLt) ?_)
            (refine KL.v rfl (Val.loadP rfl rfl (Sees.sl0 (Sli.old (by assumption)) (by assumption) rfl)) ?_)
            (refine KL.callc rfl rfl byEvL fun T hT => ?_)
            refine (CallV.part (CallV.fn (SetCaps_K (sm := sm) (n := cp))) byPart).mono ?_
            rintro _ _ (⟨h3, rfl, rfl⟩ | ⟨h3, rfl, rfl⟩)
            · have c1 : cp ≥ 0 := h3.1
              have c2 : cp ≤ 1024 := h3.2
              refine hT _ _ ?_; clear hT; clear T
              (refine KL.v rfl (Val.assign rfl) ?_)
              refine KL.nil ?_
              refine KE.next ?_
              refine K.seq ?_
              refine K.seq ?_
              refine K.region ?_
              (refine KL.v rfl (Val.move rfl) ?_)
              (refine KL.v rfl (Val.isT (Val.eql rfl rfl) byLt) ?_)
              (refine KL.v rfl (Val.move rfl) ?_)
              (refine KL.v rfl (Val.move rfl) ?_)
              (refine KL.v rfl (Val.idxSl rfl rfl rfl (Sli.old (by assumption)) rfl byLt) ?_)
              (refine KL.v rfl (Val.loadP rfl rfl (Sees.sl0 (Sli.old (by assumption)) (by assumption) rfl)) ?_)
              (refine KL.v rfl (Val.isT (Val.geq rfl rfl) byLt) ?_)
              (refine KL.v rfl (Val.move rfl) ?_)
              (refine KL.yes rfl rfl ?_; refine KL.v rfl (Val.move rfl) ?_)
              (refine KL.yes rfl rfl ?_; refine KL.v rfl (Val.move rfl) ?_)
              (refine KL.yes rfl rfl ?_; refine KL.v rfl (Val.idxSl rfl rfl rfl (Sli.old (by assumption)) rfl byLt) ?_)
              (refine KL.yes rfl rfl ?_; refine KL.v rfl (Val.loadP rfl rfl (Sees.sl0 (Sli.old (by assumption)) (by assumption) rfl)) ?_)
              (refine KL.yes rfl rfl ?_; refine KL.v rfl (Val.isT (Val.leq rfl rfl) byLt) ?_)
              (refine KL.v rfl (Val.pickT rfl rfl rfl) ?_)
              (refine KL.v rfl (Val.neqB rfl rfl rfl) ?_)
              (refine KL.v rfl (Val.move rfl) ?_)
              (refine KL.yes rfl rfl ?_; refine KL.v rfl (Val.move rfl) ?_)
              (refine KL.yes rfl rfl ?_; refine KL.v rfl (Val.isF (Val.neq rfl rfl) byLt) ?_)
              (refine KL.yes rfl rfl ?_; refine KL.v rfl (Val.move rfl) ?_)
              refine KL.skipG rfl rfl rfl ?_
              refine KL.skipG rfl rfl rfl ?_
              (refine KL.yes rfl rfl ?_; refine KL.v rfl (Val.pickF rfl rfl rfl) ?_)
              (refine KL.v rfl (Val.pickF rfl rfl rfl) ?_)
              refine KL.nil ?_
              refine KE.next ?_
              refine K.condF rfl ?_
              refine K.skip ?_
              refine KE.next ?_
              refine K.seq ?_
              refine K.region ?_
              (refine KL.v rfl (Val.move rfl) ?_)
              (refine KL.v rfl (Val.isT (Val.eql rfl rfl) byLt) ?_)
              refine KL.nil ?_
              refine KE.next ?_
              refine K.condT rfl ?_
              refine K.region ?_
              (refine KL.v rfl (Val.move rfl) ?_)
              (refine KL.v rfl (Val.move rfl) ?_)
              (refine KL.v rfl (Val.idxSl rfl rfl rfl (Sli.old (by assumption)) rfl byLt) ?_)
              (refine KL.v rfl (Val.loadP rfl rfl (Sees.sl0 (Sli.old (by assumption)) (by assumption) rfl)) ?_)
              (refine KL.v rfl (Val.fieldAddr0 (k := 2) rfl rfl) ?_)
              (refine KL.eN (Eff.storeL rfl rfl byOne rfl byTake bySetAt) ?_; rintro _ _ rfl)
              refine KL.nil ?_
              exact KE.meet cp bySub byPart h3
            · refine hT _ _ ?_; clear hT; clear T
              by_cases c1 : cp ≥ 0
              · have c2 : ¬ cp ≤ 1024 := fun h => h3 ⟨c1, h⟩
                (refine KL.v rfl (Val.assign rfl) ?_)
                refine KL.nil ?_
                refine KE.next ?_
                refine K.seq ?_
                refine K.seq ?_
                refine K.region ?_
                (refine KL.v rfl (Val.move rfl) ?_)
                (refine KL.v rfl (Val.isF (Val.eql rfl rfl) byLt) ?_)
                (refine KL.v rfl (Val.move rfl) ?_)
                (refine KL.v rfl (Val.move rfl) ?_)
                (refine KL.v rfl (Val.idxSl rfl rfl rfl (Sli.old (by assumption)) rfl byLt) ?_)
                (refine KL.v rfl (Val.loadP rfl rfl (Sees.sl0 (Sli.old (by assumption)) (by assumption) rfl)) ?_)
                (refine KL.v rfl (Val.isT (Val.geq rfl rfl) byLt) ?_)
                (refine KL.v rfl (Val.move rfl) ?_)
                (refine KL.yes rfl rfl ?_; refine KL.v rfl (Val.move rfl) ?_)
                (refine KL.yes rfl rfl ?_; refine KL.v rfl (Val.move rfl) ?_)
                (refine KL.yes rfl rfl ?_; refine KL.v rfl (Val.idxSl rfl rfl rfl (Sli.old (by assumption)) rfl byLt) ?_)
                (refine KL.yes rfl rfl ?_; refine KL.v rfl (Val.loadP rfl rfl (Sees.sl0 (Sli.old (by assumption)) (by assumption) rfl)) ?_)
                (refine KL.yes rfl rfl ?_; refine KL.v rfl (Val.isF (Val.leq rfl rfl) byLt) ?_)
                (refine KL.v rfl (Val.pickT rfl rfl rfl) ?_)
                (refine KL.v rfl (Val.neqB rfl rfl rfl) ?_)
                (refine KL.v rfl (Val.move rfl) ?_)
                (refine KL.yes rfl rfl ?_; refine KL.v rfl (Val.move rfl) ?_)
                (refine KL.yes rfl rfl ?_; refine KL.v rfl (Val.isT (Val.neq rfl rfl) byLt) ?_)
                (refine KL.yes rfl rfl ?_; refine KL.v rfl (Val.move rfl) ?_)
                (refine KL.yes rfl rfl ?_; refine KL.v rfl (Val.move rfl) ?_)
                (refine KL.yes rfl rfl ?_; refine KL.v rfl (Val.isF (Val.neq rfl rfl) byLt) ?_)
                (refine KL.yes rfl rfl ?_; refine KL.v rfl (Val.pickT rfl rfl rfl) ?_)
                (refine KL.v rfl (Val.pickF rfl rfl rfl) ?_)
                refine KL.nil ?_
                refine KE.next ?_
                refine K.condF rfl ?_
                refine K.skip ?_
                refine KE.next ?_
                refine K.seq ?_
                refine K.region ?_
                (refine KL.v rfl (Val.move rfl) ?_)
                (refine KL.v rfl (Val.isF (Val.eql rfl rfl) byLt) ?_)
                refine KL.nil ?_
                refine KE.next ?_
                refine K.condF rfl ?_
                refine K.skip ?_
                exact KE.meet Q.caps bySub (by rw [← hcap0]; exact byPart) hB.caps
              · (refine KL.v rfl (Val.assign rfl) ?_)
                refine KL.nil ?_
                refine KE.next ?_
                refine K.seq ?_
                refine K.seq ?_
                refine K.region ?_
                (refine KL.v rfl (Val.move rfl) ?_)
                (refine KL.v rfl (Val.isF (Val.eql rfl rfl) byLt) ?_)
                (refine KL.v rfl (Val.move rfl) ?_)
                (refine KL.v rfl (Val.move rfl) ?_)
                (refine KL.v rfl (Val.idxSl rfl rfl rfl (Sli.old (by assumption)) rfl byLt) ?_)
                (refine KL.v rfl (Val.loadP rfl rfl (Sees.sl0 (Sli.old (by assumption)) (by assumption) rfl)) ?_)
                (refine KL.v rfl (Val.isF (Val.geq rfl rfl) byLt) ?_)
                (refine KL.v rfl (Val.move rfl) ?_)
                refine KL.skipG rfl rfl rfl ?_
                refine KL.skipG rfl rfl rfl ?_
                refine KL.skipG rfl rfl rfl ?_
                refine KL.skipG rfl rfl rfl ?_
                refine KL.skipG rfl rfl rfl ?_
                (refine KL.v rfl (Val.pickF rfl rfl rfl) ?_)
                (refine KL.v rfl (Val.neqB rfl rfl rfl) ?_)
                (refine KL.v rfl (Val.move rfl) ?_)
                (refine KL.yes rfl rfl ?_; refine KL.v rfl (Val.move rfl) ?_)
                (refine KL.yes rfl rfl ?_; refine KL.v rfl (Val.isT (Val.neq rfl rfl) byLt) ?_)
                (refine KL.yes rfl rfl ?_; refine KL.v rfl (Val.move rfl) ?_)
                (refine KL.yes rfl rfl ?_; refine KL.v rfl (Val.move rfl) ?_)
                (refine KL.yes rfl rfl ?_; refine KL.v rfl (Val.isF (Val.neq rfl rfl) byLt) ?_)
                (refine KL.yes rfl rfl ?_; refine KL.v rfl (Val.pickT rfl rfl rfl) ?_)
                (refine KL.v rfl (Val.pickF rfl rfl rfl) ?_)
                refine KL.nil ?_
                refine KE.next ?_
                refine K.condF rfl ?_
                refine K.skip ?_
                refine KE.next ?_
                refine K.seq ?_
                refine K.region ?_
                (refine KL.v rfl (Val.move rfl) ?_)
                (refine KL.v rfl (Val.isF (Val.eql rfl rfl) byLt) ?_)
                refine KL.nil ?_
                refine KE.next ?_
                refine K.condF rfl ?_
                refine K.skip ?_
                exact KE.meet Q.caps bySub (by rw [← hcap0]; exact byPart) hB.caps
          · refine K.seq ?_
            refine K.region ?_
            (refine KL.v rfl (Val.move rfl) ?_)
            (refine KL.v rfl (Val.move rfl) ?_)
            (refine KL.v rfl (Val.lenSl rfl rfl (Sli.old (by assumption))) ?_)
            (refine KL.v rfl (Val.isF (Val.lss rfl rfl) byLt) ?_)
            refine KL.nil ?_
            refine KE.next ?_
            refine K.condF rfl ?_
            refine K.skip ?_
            exact KE.meet Q.caps bySub (by rw [← hcap0]; exact byPart) hB.caps
        · rintro cp hcp
          obtain ⟨sm1, hsm1⟩ : ∃ s1 : SM, s1 = { sm with caps := cp } := ⟨_, rfl⟩
          obtain ⟨Q1, hQ1⟩ : ∃ s1 : Dc, s1 = { Q with caps := cp } := ⟨_, rfl⟩
          have ok1 : SOk sm1 := by rw [hsm1]; exact ⟨ok.mt, ok.mh, ok.oc, ok.ts⟩
          have hI1 : Inv sm1.st := by rw [hsm1]; exact inv_caps hI hcp
          have hS1 : Swept (allS Q1) sm1.st := by rw [hsm1, hQ1]; exact swept_caps hS
          have hB1 : DcB Q1 := by rw [hQ1]; exact b_caps hB hcp
          have hdoc1 : ∀ w, Only [] w0 w → HasH DM w → DocR w d Q1 := fun w ho hN => by rw [hQ1]; have h := hdoc w ho hN; exact ⟨h.c, h.t, h.x, h.r, h.u, h.h⟩
          have hqt1 : Q1.ts.length ≤ k := by rw [hQ1]; exact hqt
          have hqh1 : Q1.hs.length ≤ k := by rw [hQ1]; exact hqh
          have hb1 : sm.b = sm1.b := by rw [hsm1]
          have hq1 : Q.quota = Q1.quota := by rw [hQ1]
          have hc1 : cp = Q1.caps := by rw [hQ1]
          rw [← hsm1, hb1, hq1, hc1]
          clear hsm1 hQ1 hb1 hq1 hc1 hcap0 hI hS hB hdoc ok hqt hqh hcp
          have hmd : sm1.made = Q1.ts.length := hS1.made
          have hmt : sm1.minted = Q1.hs.length := hS1.minted
          have hrl : ∀ i x, tf sm1.ts i = some x → x.refs.length ≤ 1000 ∧ x.words.length ≤ 1000 := fun i x hx => by
            have := (hI1.st.tx i x hx).sz; omega
          have hcll : sm1.cl.length ≤ 1000 := by have := hI1.st.cl; simp only [classP, Bool.and_eq_true, decide_eq_true_eq] at this; have := this.1.1.2; show sm1.st.cl.length ≤ 1000; omega
          refine K.seq ?_
          refine K.region ?_
          (refine KL.v rfl (Val.move rfl) ?_)
          (refine KL.callc rfl rfl byEvL fun T hT => ?_)
          refine (CallV.part (CallV.fn (Copy_K ok1 hrl hcll)) byPart).mono ?_
          rintro _ _ ⟨smw, okw, hstw, rfl, rfl⟩
          have hmdw : smw.made = sm1.made := congrArg St.made hstw
          have hmtw : smw.minted = sm1.minted := congrArg St.minted hstw
          refine hT _ _ ?_; clear hT; clear T
          (refine KL.v rfl (Val.assign rfl) ?_)
          refine KL.nil ?_
          refine KE.next ?_
          obtain ⟨hB2, hl2, hh2⟩ := b_do (op := op) hB1 hv (by omega) (by omega)
          obtain ⟨Q2, hQ2⟩ : ∃ Q2, Q2 = (doD Q1 op).1 := ⟨_, rfl⟩
          obtain ⟨r, hr⟩ : ∃ r, r = (doD Q1 op).2 := ⟨_, rfl⟩
          rw [← hQ2] at hB2 hl2 hh2
          refine K.cutT (σ := PlT) [(1, _), (2, _), (7, _), (9, _), (11, _), (13, _)] bySub (fun s kp_ => (14, .pointer (some ⟨s.b14, 0, none⟩)) :: (15, .pointer (some ⟨s.b15, 0, none⟩)) :: kp_) (fun s => (s.b14, cells [s.d.vc, .int .i64 Q2.quota, .int .i64 Q2.caps, s.d.vt, s.d.vh] 35) :: (s.b15, cells [.int .i64 r.e, .int .i64 r.h, .int .u64 r.w] 42) :: (s.N ++ (smH smw ++ (smH sm1 ++ (DM ++ ((b9, cells [d.vc, .int .i64 Q1.quota, .int .i64 Q1.caps, d.vt, d.vh] 35) :: (b3, cells [vc, .int .i64 q, .int .i64 c] 24) :: [])))))) (fun s => DvO s.d ∧ (∀ w, DocR w d Q1 → HasH s.N w → DocR w s.d Q2)) ?_ ?_
          · skip
            refine byCodeD ?_
            refine K.drawn ((b9, cells [d.vc, .int .i64 Q1.quota, .int .i64 Q1.caps, d.vt, d.vh] 35) :: []) [(0, 1), (1, 1), (2, 1), (3, 1), (4, 1), (5, 3), (6, 1), (7, 1), (8, 1), (9, 3), (10, 2), (11, 2), (12, 2)] (by kernel_rfl) (by kernel_rfl) (by kernel_rfl) (by kernel_rfl) (by kernel_rfl) (by kernel_rfl) byPart ?_
            (first | refine KD.v1 rfl rfl (Val.loadAP rfl rfl rfl bySeeA) ?_ | refine KD.v1 rfl rfl (Val.loadA rfl rfl rfl bySeeN) ?_)
            refine KD.v1 rfl rfl (Val.move rfl) ?_
            refine KD.v1 rfl rfl (Val.move rfl) ?_
            (first | refine KD.v1 rfl rfl (Val.idxSl rfl rfl rfl bySli rfl byLt) ?_ | refine KD.v1 rfl rfl (Val.idxSlZ rfl rfl rfl bySli rfl (by omega)) ?_ | refine KD.v1 rfl rfl (Val.indexS1 rfl rfl rfl rfl (by omega)) ?_ | refine KD.v1 rfl rfl (Val.indexS rfl rfl rfl rfl (by omega)) ?_ | refine KD.v1 rfl rfl (Val.indexSO rfl rfl rfl rfl (by omega)) ?_ | refine KD.v1 rfl rfl (Val.indexSG rfl rfl rfl rfl (by omega)) ?_)
            (first | refine KD.v1 rfl rfl (Val.loadAP rfl rfl rfl bySeeA) ?_ | refine KD.v1 rfl rfl (Val.loadA rfl rfl rfl bySeeN) ?_)
            refine KD.fork3 (x := 5) (y := 9) (z := 10) (o1 := [(6, 1), (7, 1), (8, 1), (9, 3), (10, 2), (11, 2), (12, 2)]) (o2 := [(5, 3), (6, 1), (7, 1), (8, 1), (10, 2), (11, 2), (12, 2)]) (o3 := [(5, 3), (6, 1), (7, 1), (8, 1), (9, 2), (11, 2), (12, 2)]) (by kernel_rfl) rfl rfl rfl (by kernel_rfl) (by kernel_rfl) (by kernel_rfl) ?_ ?_ ?_
            · refine ActK.callc rfl rfl byEvL fun T hT => ?_
              refine (CallV.pure fun w hw => CallV.fn (RDo_K (op := op) (hdoc1 w hw.old (HF.has (hw.part byPart))) hB1 (by omega) o1)).mono ?_
              rintro _ _ ⟨N, ⟨d', rfl, ⟨e1, e2, e3⟩, hd'⟩, rfl⟩
              rw [← hQ2, ← hr]
              unfold docV sdV
              refine hT _ _ byPart ?_; clear hT; clear T
              refine KD.v1 rfl rfl (Val.move rfl) ?_
              refine KD.v1 rfl rfl (Val.extract rfl rfl) ?_
              refine KD.v1 rfl rfl (Val.extract rfl rfl) ?_
              refine KD.fork2 (x := 9) (y := 10) (o1 := [(10, 2), (11, 2), (12, 2)]) (o2 := [(9, 2), (11, 2), (12, 2)]) (by kernel_rfl) rfl rfl (by kernel_rfl) (by kernel_rfl) ?_ ?_
              · (refine ActK.e rfl (Eff.alloc rfl) ?_; rintro _ _ ⟨b14, rfl, rfl⟩; refine ⟨byPart, ?_⟩)
                (refine KD.e rfl rfl (Eff.alloc rfl) ?_; rintro _ _ ⟨b15, rfl, rfl⟩; refine ⟨byPart, ?_⟩)
                (first | (refine KD.eN rfl (Eff.storeAL rfl rfl rfl byTake byLay byOnes) ?_; rintro _ _ rfl; refine ⟨byPart, ?_⟩) | (refine KD.eN rfl (Eff.stSlA rfl rfl rfl rfl byTakeL (by assumption) (by assumption)) ?_; rintro _ _ rfl; refine ⟨byPart, ?_⟩))
                (first | (refine KD.eN rfl (Eff.storeAL rfl rfl rfl byTake byLay byOnes) ?_; rintro _ _ rfl; refine ⟨byPart, ?_⟩) | (refine KD.eN rfl (Eff.stSlA rfl rfl rfl rfl byTakeL (by assumption) (by assumption)) ?_; rintro _ _ rfl; refine ⟨byPart, ?_⟩))
                refine KD.nil ?_
                exact KE.meet ⟨b14, b15, N, d'⟩ bySub byPart ⟨⟨e1, e2, e3⟩, by rw [hQ2]; exact hd'⟩
              · (refine ActK.e rfl (Eff.alloc rfl) ?_; rintro _ _ ⟨b15, rfl, rfl⟩; refine ⟨byPart, ?_⟩)
                (refine KD.e rfl rfl (Eff.alloc rfl) ?_; rintro _ _ ⟨b14, rfl, rfl⟩; refine ⟨byPart, ?_⟩)
                (first | (refine KD.eN rfl (Eff.storeAL rfl rfl rfl byTake byLay byOnes) ?_; rintro _ _ rfl; refine ⟨byPart, ?_⟩) | (refine KD.eN rfl (Eff.stSlA rfl rfl rfl rfl byTakeL (by assumption) (by assumption)) ?_; rintro _ _ rfl; refine ⟨byPart, ?_⟩))
                (first | (refine KD.eN rfl (Eff.storeAL rfl rfl rfl byTake byLay byOnes) ?_; rintro _ _ rfl; refine ⟨byPart, ?_⟩) | (refine KD.eN rfl (Eff.stSlA rfl rfl rfl rfl byTakeL (by assumption) (by assumption)) ?_; rintro _ _ rfl; refine ⟨byPart, ?_⟩))
                refine KD.nil ?_
                exact KE.meet ⟨b14, b15, N, d'⟩ bySub byPart ⟨⟨e1, e2, e3⟩, by rw [hQ2]; exact hd'⟩
            · (refine ActK.e rfl (Eff.alloc rfl) ?_; rintro _ _ ⟨b14, rfl, rfl⟩; refine ⟨byPart, ?_⟩)
              refine KD.fork2 (x := 5) (y := 10) (o1 := [(6, 1), (7, 1), (8, 1), (10, 2), (11, 2), (12, 2)]) (o2 := [(5, 2), (6, 0), (7, 0), (8, 1), (11, 2), (12, 2)]) (by kernel_rfl) rfl rfl (by kernel_rfl) (by kernel_rfl) ?_ ?_
              · refine ActK.callc rfl rfl byEvL fun T hT => ?_
                refine (CallV.pure fun w hw => CallV.fn (RDo_K (op := op) (hdoc1 w hw.old (HF.has (hw.part byPart))) hB1 (by omega) o1)).mono ?_
                rintro _ _ ⟨N, ⟨d', rfl, ⟨e1, e2, e3⟩, hd'⟩, rfl⟩
                rw [← hQ2, ← hr]
                unfold docV sdV
                refine hT _ _ byPart ?_; clear hT; clear T
                refine KD.v1 rfl rfl (Val.move rfl) ?_
                refine KD.v1 rfl rfl (Val.extract rfl rfl) ?_
                refine KD.v1 rfl rfl (Val.extract rfl rfl) ?_
                (refine KD.e rfl rfl (Eff.alloc rfl) ?_; rintro _ _ ⟨b15, rfl, rfl⟩; refine ⟨byPart, ?_⟩)
                (first | (refine KD.eN rfl (Eff.storeAL rfl rfl rfl byTake byLay byOnes) ?_; rintro _ _ rfl; refine ⟨byPart, ?_⟩) | (refine KD.eN rfl (Eff.stSlA rfl rfl rfl rfl byTakeL (by assumption) (by assumption)) ?_; rintro _ _ rfl; refine ⟨byPart, ?_⟩))
                (first | (refine KD.eN rfl (Eff.storeAL rfl rfl rfl byTake byLay byOnes) ?_; rintro _ _ rfl; refine ⟨byPart, ?_⟩) | (refine KD.eN rfl (Eff.stSlA rfl rfl rfl rfl byTakeL (by assumption) (by assumption)) ?_; rintro _ _ rfl; refine ⟨byPart, ?_⟩))
                refine KD.nil ?_
                exact KE.meet ⟨b14, b15, N, d'⟩ bySub byPart ⟨⟨e1, e2, e3⟩, by rw [hQ2]; exact hd'⟩
              · (refine ActK.e rfl (Eff.alloc rfl) ?_; rintro _ _ ⟨b15, rfl, rfl⟩; refine ⟨byPart, ?_⟩)
                refine KD.callc rfl rfl rfl byEvL fun T hT => ?_
                refine (CallV.pure fun w hw => CallV.fn (RDo_K (op := op) (hdoc1 w hw.old (HF.has (hw.part byPart))) hB1 (by omega) o1)).mono ?_
                rintro _ _ ⟨N, ⟨d', rfl, ⟨e1, e2, e3⟩, hd'⟩, rfl⟩
                rw [← hQ2, ← hr]
                unfold docV sdV
                refine hT _ _ byPart ?_; clear hT; clear T
                refine KD.v0 rfl rfl (Val.move rfl) ?_
                refine KD.v0 rfl rfl (Val.extract rfl rfl) ?_
                refine KD.v1 rfl rfl (Val.extract rfl rfl) ?_
                (first | (refine KD.eN rfl (Eff.storeAL rfl rfl rfl byTake byLay byOnes) ?_; rintro _ _ rfl; refine ⟨byPart, ?_⟩) | (refine KD.eN rfl (Eff.stSlA rfl rfl rfl rfl byTakeL (by assumption) (by assumption)) ?_; rintro _ _ rfl; refine ⟨byPart, ?_⟩))
                (first | (refine KD.eN rfl (Eff.storeAL rfl rfl rfl byTake byLay byOnes) ?_; rintro _ _ rfl; refine ⟨byPart, ?_⟩) | (refine KD.eN rfl (Eff.stSlA rfl rfl rfl rfl byTakeL (by assumption) (by assumption)) ?_; rintro _ _ rfl; refine ⟨byPart, ?_⟩))
                refine KD.nil ?_
                exact KE.meet ⟨b14, b15, N, d'⟩ bySub byPart ⟨⟨e1, e2, e3⟩, by rw [hQ2]; exact hd'⟩
            · (refine ActK.e rfl (Eff.alloc rfl) ?_; rintro _ _ ⟨b15, rfl, rfl⟩; refine ⟨byPart, ?_⟩)
              refine KD.fork2 (x := 5) (y := 9) (o1 := [(6, 1), (7, 1), (8, 1), (9, 2), (11, 2), (12, 2)]) (o2 := [(5, 2), (6, 0), (7, 0), (8, 1), (11, 2), (12, 2)]) (by kernel_rfl) rfl rfl (by kernel_rfl) (by kernel_rfl) ?_ ?_
              · refine ActK.callc rfl rfl byEvL fun T hT => ?_
                refine (CallV.pure fun w hw => CallV.fn (RDo_K (op := op) (hdoc1 w hw.old (HF.has (hw.part byPart))) hB1 (by omega) o1)).mono ?_
                rintro _ _ ⟨N, ⟨d', rfl, ⟨e1, e2, e3⟩, hd'⟩, rfl⟩
                rw [← hQ2, ← hr]
                unfold docV sdV
                refine hT _ _ byPart ?_; clear hT; clear T
                refine KD.v1 rfl rfl (Val.move rfl) ?_
                refine KD.v1 rfl rfl (Val.extract rfl rfl) ?_
                refine KD.v1 rfl rfl (Val.extract rfl rfl) ?_
                (refine KD.e rfl rfl (Eff.alloc rfl) ?_; rintro _ _ ⟨b14, rfl, rfl⟩; refine ⟨byPart, ?_⟩)
                (first | (refine KD.eN rfl (Eff.storeAL rfl rfl rfl byTake byLay byOnes) ?_; rintro _ _ rfl; refine ⟨byPart, ?_⟩) | (refine KD.eN rfl (Eff.stSlA rfl rfl rfl rfl byTakeL (by assumption) (by assumption)) ?_; rintro _ _ rfl; refine ⟨byPart, ?_⟩))
                (first | (refine KD.eN rfl (Eff.storeAL rfl rfl rfl byTake byLay byOnes) ?_; rintro _ _ rfl; refine ⟨byPart, ?_⟩) | (refine KD.eN rfl (Eff.stSlA rfl rfl rfl rfl byTakeL (by assumption) (by assumption)) ?_; rintro _ _ rfl; refine ⟨byPart, ?_⟩))
                refine KD.nil ?_
                exact KE.meet ⟨b14, b15, N, d'⟩ bySub byPart ⟨⟨e1, e2, e3⟩, by rw [hQ2]; exact hd'⟩
              · (refine ActK.e rfl (Eff.alloc rfl) ?_; rintro _ _ ⟨b14, rfl, rfl⟩; refine ⟨byPart, ?_⟩)
                refine KD.callc rfl rfl rfl byEvL fun T hT => ?_
                refine (CallV.pure fun w hw => CallV.fn (RDo_K (op := op) (hdoc1 w hw.old (HF.has (hw.part byPart))) hB1 (by omega) o1)).mono ?_
                rintro _ _ ⟨N, ⟨d', rfl, ⟨e1, e2, e3⟩, hd'⟩, rfl⟩
                rw [← hQ2, ← hr]
                unfold docV sdV
                refine hT _ _ byPart ?_; clear hT; clear T
                refine KD.v0 rfl rfl (Val.move rfl) ?_
                refine KD.v0 rfl rfl (Val.extract rfl rfl) ?_
                refine KD.v1 rfl rfl (Val.extract rfl rfl) ?_
                (first | (refine KD.eN rfl (Eff.storeAL rfl rfl rfl byTake byLay byOnes) ?_; rintro _ _ rfl; refine ⟨byPart, ?_⟩) | (refine KD.eN rfl (Eff.stSlA rfl rfl rfl rfl byTakeL (by assumption) (by assumption)) ?_; rintro _ _ rfl; refine ⟨byPart, ?_⟩))
                (first | (refine KD.eN rfl (Eff.storeAL rfl rfl rfl byTake byLay byOnes) ?_; rintro _ _ rfl; refine ⟨byPart, ?_⟩) | (refine KD.eN rfl (Eff.stSlA rfl rfl rfl rfl byTakeL (by assumption) (by assumption)) ?_; rintro _ _ rfl; refine ⟨byPart, ?_⟩))
                refine KD.nil ?_
                exact KE.meet ⟨b14, b15, N, d'⟩ bySub byPart ⟨⟨e1, e2, e3⟩, by rw [hQ2]; exact hd'⟩
          · rintro ⟨b14, b15, N, d'⟩ ⟨⟨e1, e2, e3⟩, hd'⟩
            dsimp only at e1 e2 e3 hd' ⊢
            obtain ⟨re, rh, rw⟩ := r
            dsimp only
            have hcmp : (decide (re = re) && (decide (rh = rh) && (decide (rw = rw) && true))) = true := by simp
            skip
            refine byCodeD ?_
            (first | refine K.seq (K.drawn ((b14, cells [d'.vc, .int .i64 Q2.quota, .int .i64 Q2.caps, d'.vt, d'.vh] 35) :: (b15, cells [.int .i64 re, .int .i64 rh, .int .u64 rw] 42) :: (b9, cells [d.vc, .int .i64 Q1.quota, .int .i64 Q1.caps, d.vt, d.vh] 35) :: []) [(0, 0), (1, 0), (2, 0), (3, 0), (4, 0), (5, 0), (6, 0), (7, 0), (9, 1), (8, 2), (10, 0), (11, 0), (12, 0), (13, 0), (14, 0), (15, 2), (16, 0), (17, 0), (18, 0), (19, 0), (20, 0), (21, 2), (22, 0), (23, 0)] (by kernel_rfl) (by kernel_rfl) (by kernel_rfl) (by kernel_rfl) (by kernel_rfl) (by kernel_rfl) byPart ?_) | refine K.seq (K.seq (K.drawn ((b14, cells [d'.vc, .int .i64 Q2.quota, .int .i64 Q2.caps, d'.vt, d'.vh] 35) :: (b15, cells [.int .i64 re, .int .i64 rh, .int .u64 rw] 42) :: (b9, cells [d.vc, .int .i64 Q1.quota, .int .i64 Q1.caps, d.vt, d.vh] 35) :: []) [(0, 0), (1, 0), (2, 0), (3, 0), (4, 0), (5, 0), (6, 0), (7, 0), (9, 1), (8, 2), (10, 0), (11, 0), (12, 0), (13, 0), (14, 0), (15, 2), (16, 0), (17, 0), (18, 0), (19, 0), (20, 0), (21, 2), (22, 0), (23, 0)] (by kernel_rfl) (by kernel_rfl) (by kernel_rfl) (by kernel_rfl) (by kernel_rfl) (by kernel_rfl) byPart ?_)) | refine K.drawn ((b14, cells [d'.vc, .int .i64 Q2.quota, .int .i64 Q2.caps, d'.vt, d'.vh] 35) :: (b15, cells [.int .i64 re, .int .i64 rh, .int .u64 rw] 42) :: (b9, cells [d.vc, .int .i64 Q1.quota, .int .i64 Q1.caps, d.vt, d.vh] 35) :: []) [(0, 0), (1, 0), (2, 0), (3, 0), (4, 0), (5, 0), (6, 0), (7, 0), (9, 1), (8, 2), (10, 0), (11, 0), (12, 0), (13, 0), (14, 0), (15, 2), (16, 0), (17, 0), (18, 0), (19, 0), (20, 0), (21, 2), (22, 0), (23, 0)] (by kernel_rfl) (by kernel_rfl) (by kernel_rfl) (by kernel_rfl) (by kernel_rfl) (by kernel_rfl) byPart ?_)
            refine KD.v0 rfl rfl (Val.move rfl) ?_
            refine KD.v0 rfl rfl (Val.eqlPN rfl rfl rfl) ?_
            refine KD.v0 rfl rfl (Val.move rfl) ?_
            (first | refine KD.no rfl rfl rfl rfl rfl ?_ | refine KD.noU rfl rfl rfl rfl rfl ?_ | refine KD.y0 rfl rfl rfl rfl (Val.move rfl) ?_)
            (first | refine KD.no rfl rfl rfl rfl rfl ?_ | refine KD.noU rfl rfl rfl rfl rfl ?_ | refine KD.y0 rfl rfl rfl rfl (Val.move rfl) ?_)
            (first | refine KD.no rfl rfl rfl rfl rfl ?_ | refine KD.noU rfl rfl rfl rfl rfl ?_ | refine KD.y0 rfl rfl rfl rfl (Val.move rfl) ?_)
            (first | refine KD.no rfl rfl rfl rfl rfl ?_ | refine KD.noU rfl rfl rfl rfl rfl ?_ | refine KD.y0 rfl rfl rfl rfl (Val.idxSl rfl rfl rfl bySli rfl byLt) ?_ | refine KD.y0 rfl rfl rfl rfl (Val.idxSlZ rfl rfl rfl bySli rfl (by omega)) ?_ | refine KD.y0 rfl rfl rfl rfl (Val.indexS1 rfl rfl rfl rfl (by omega)) ?_ | refine KD.y0 rfl rfl rfl rfl (Val.indexS rfl rfl rfl rfl (by omega)) ?_ | refine KD.y0 rfl rfl rfl rfl (Val.indexSO rfl rfl rfl rfl (by omega)) ?_ | refine KD.y0 rfl rfl rfl rfl (Val.indexSG rfl rfl rfl rfl (by omega)) ?_)
            (first | refine KD.no rfl rfl rfl rfl rfl ?_ | refine KD.noU rfl rfl rfl rfl rfl ?_ | refine KD.y0 rfl rfl rfl rfl (Val.loadAP rfl rfl rfl bySeeA) ?_ | refine KD.y0 rfl rfl rfl rfl (Val.loadA rfl rfl rfl bySeeN) ?_)
            (first | refine KD.no rfl rfl rfl rfl rfl ?_ | refine KD.noU rfl rfl rfl rfl rfl ?_ | refine KD.y1 rfl rfl rfl rfl (Val.loadAP rfl rfl rfl bySeeA) ?_ | refine KD.y1 rfl rfl rfl rfl (Val.loadA rfl rfl rfl bySeeN) ?_)
            refine KD.callcY rfl rfl rfl rfl rfl byEvL fun T hT => ?_
            refine (CallV.part (CallV.fn (Do_K (sm := smw) (op := op) okw (by rw [hstw]; exact hI1.st) (by omega) (by omega) o1)) byPart).mono ?_
            rintro _ _ ⟨sm2, ok2, hb2, hDo, rfl, rfl⟩
            rw [hstw] at hDo
            rw [hstw]
            obtain ⟨es, hS2⟩ := sim_do hB1 hI1 hv hS1 hDo
            have hI2 := (out_inv hI1 (out_of hI1 hv hDo)).1
            rw [← hQ2] at hS2
            rw [← es, ← hr]
            unfold sdV
            dsimp only
            refine hT _ _ byPart ?_; clear hT; clear T
            rw [← hb2]
            have hdoc2 : ∀ w, Only [] w0 w → HasH (N ++ DM) w → DocR w d' Q2 := fun w ho hN => hd' w (hdoc1 w ho (hN.part byPart)) (hN.part byPart)
            refine KD.y0 rfl rfl rfl rfl (Val.neqAE rfl rfl (by kernel_rfl) byEqv (by first | assumption | rfl)) ?_
            refine KD.v0 rfl rfl (Val.pickF rfl rfl rfl) ?_
            refine KD.v0 rfl rfl (Val.move rfl) ?_
            refine KD.y0 rfl rfl rfl rfl (Val.move rfl) ?_
            refine KD.y0 rfl rfl rfl rfl (Val.loadA rfl rfl rfl bySeeN) ?_
            refine KD.callcY rfl rfl rfl rfl rfl byEvL fun T hT => ?_
            refine (CallV.part (CallV.fn (sameD_K (sm := sm2) (d := d') (Q := Q2) ok2 hI2 hS2 hB2 hdoc2 ?_ ⟨e1, e2, e3⟩)) byPart).mono ?_
            · exact byPart
            rintro _ _ ⟨rfl, rfl⟩
            refine hT _ _ byPart ?_; clear hT; clear T
            refine KD.y0 rfl rfl rfl rfl (Val.notT rfl) ?_
            refine KD.v0 rfl rfl (Val.pickF rfl rfl rfl) ?_
            refine KD.v0 rfl rfl (Val.move rfl) ?_
            refine KD.y0 rfl rfl rfl rfl (Val.move rfl) ?_
            refine KD.y0 rfl rfl rfl rfl (Val.loadA rfl rfl rfl bySeeN) ?_
            refine KD.callcY rfl rfl rfl rfl rfl byEvL fun T hT => ?_
            refine (CallV.part (CallV.fn (sameD_K (sm := sm1) (d := d) (Q := Q1) ok1 hI1 hS1 hB1 hdoc1 ?_ ⟨d1, d2, d3⟩)) byPart).mono ?_
            · exact byPart
            rintro _ _ ⟨rfl, rfl⟩
            refine hT _ _ byPart ?_; clear hT; clear T
            refine KD.y0 rfl rfl rfl rfl (Val.notT rfl) ?_
            refine KD.v0 rfl rfl (Val.pickF rfl rfl rfl) ?_
            refine KD.nil ?_
            refine KE.next ?_
            refine K.condF rfl ?_
            refine K.skip ?_
            refine KE.next ?_
            refine K.seq ?_
            refine K.region ?_
            (refine KL.v rfl (Val.move rfl) ?_)
            (refine KL.v rfl (Val.assign rfl) ?_)
            refine KL.nil ?_
            refine KE.next ?_
            refine K.region ?_
            (refine KL.v rfl (Val.loadA rfl rfl rfl bySeeN) ?_)
            (refine KL.eN (Eff.storeAL rfl rfl rfl byTake byLay byOnes) ?_; rintro _ _ rfl)
            refine KL.nil ?_
            refine KE.blkN ?_
            refine KE.next ?_
            refine K.region ?_
            (refine KL.v rfl (Val.move rfl) ?_)
            (refine KL.v rfl (Val.add rfl rfl (by simp only [Go.Proofs.YthamkgghnjenhaaGreat.lo, Go.Proofs.YthamkgghnjenhaaGreat.hi]; omega)) ?_)
            (refine KL.v rfl (Val.assign rfl) ?_)
            refine KL.nil ?_
            exact KE.again ⟨k + 1, sm2, d', Q2, N ++ DM⟩ bySub byPart ⟨by show k + 1 ≤ _; omega, ok2, hI2, hS2, hB2, by show Q2.ts.length ≤ k + 1; omega, by show Q2.hs.length ≤ k + 1; omega, ⟨e1, e2, e3⟩, hdoc2⟩ (by show l.length - (k + 1) < l.length - k; omega)
      · refine K.seq ?_
        refine K.seq ?_
        refine K.region ?_
        (refine KL.v rfl (Val.move rfl) ?_)
        (refine KL.v rfl (Val.move rfl) ?_)
        (refine KL.v rfl (Val.lenSl rfl rfl (Sli.old (by assumption))) ?_)
        (refine KL.v rfl (Val.isF (Val.lss rfl rfl) byLt) ?_)
        refine KL.nil ?_
        refine KE.next ?_
        refine K.condF rfl ?_
        refine K.exit ?_
        refine KE.passX ?_
        refine KE.passX ?_
        refine KE.blkX ?_
        refine KE.next ?_
        refine K.seq ?_
        refine K.region ?_
        (refine KL.callc rfl rfl byEvL fun T hT => ?_)
        refine (CallV.fn awake_K).mono ?_
        rintro _ _ ⟨rfl, rfl⟩
        refine hT _ _ ?_; clear hT; clear T
        (refine KL.v rfl (Val.assign rfl) ?_)
        refine KL.nil ?_
        refine KE.next ?_
        refine K.ret ?_
        exact KE.fin byMarks rfl byRes byPart ⟨rfl, rfl⟩
    · exact absurd hnew hno
  · refine hT _ _ ?_; clear hT; clear T
    (refine KL.v rfl (Val.move rfl) ?_)
    (refine KL.v rfl (Val.extract rfl rfl) ?_)
    (refine KL.v rfl (Val.extract rfl rfl) ?_)
    (refine KL.v rfl (Val.assign rfl) ?_)
    (refine KL.v rfl (Val.assign rfl) ?_)
    refine KL.nil ?_
    refine KE.next ?_
    refine K.seq ?_
    refine K.region ?_
    (refine KL.v rfl (Val.fieldAddr0 (k := 0) rfl rfl) ?_)
    (refine KL.v rfl (Val.loadP rfl rfl (Sees.cell byTake rfl)) ?_)
    (refine KL.v rfl (Val.fieldAddr0 (k := 1) rfl rfl) ?_)
    (refine KL.v rfl (Val.loadP rfl rfl (Sees.cell byTake rfl)) ?_)
    (refine KL.v rfl (Val.fieldAddr0 (k := 2) rfl rfl) ?_)
    (refine KL.v rfl (Val.loadP rfl rfl (Sees.cell byTake rfl)) ?_)
    (refine KL.callc rfl rfl byEvL fun T hT => ?_)
    refine (CallV.pure fun w hw => CallV.fn (RNew_K (q := q) (c := c) (hK.only hw.old) (by omega))).mono ?_
    rintro _ _ ⟨_, ⟨rfl, (⟨hnew, _⟩ | ⟨_, rfl⟩)⟩, rfl⟩
    · exact absurd hnew hno
    · refine hT _ _ ?_; clear hT; clear T
      (refine KL.v rfl (Val.move rfl) ?_)
      (refine KL.v rfl (Val.extract rfl rfl) ?_)
      (refine KL.v rfl (Val.extract rfl rfl) ?_)
      (refine KL.e rfl (Eff.alloc rfl) ?_; rintro _ _ ⟨b9, rfl, rfl⟩)
      (refine KL.eN (Eff.storeAL rfl rfl rfl byTake byLay byOnes) ?_; rintro _ _ rfl)
      (refine KL.v rfl (Val.assign rfl) ?_)
      refine KL.nil ?_
      refine KE.next ?_
      refine K.seq ?_
      refine K.seq ?_
      refine K.region ?_
      (refine KL.v rfl (Val.move rfl) ?_)
      (refine KL.v rfl (Val.move rfl) ?_)
      (refine KL.v rfl (Val.isF (Val.neq rfl rfl) byLt) ?_)
      (refine KL.v rfl (Val.move rfl) ?_)
      (refine KL.yes rfl rfl ?_; refine KL.v rfl (Val.move rfl) ?_)
      (refine KL.yes rfl rfl ?_; refine KL.v rfl (Val.eqlPN rfl rfl rfl) ?_)
      (refine KL.yes rfl rfl ?_; refine KL.v rfl (Val.move rfl) ?_)
      (refine KL.yes rfl rfl ?_; refine KL.v rfl (Val.isT (Val.neq rfl rfl) byLt) ?_)
      (refine KL.yes rfl rfl ?_; refine KL.v rfl (Val.neqB rfl rfl rfl) ?_)
      (refine KL.v rfl (Val.pickF rfl rfl rfl) ?_)
      refine KL.nil ?_
      refine KE.next ?_
      refine K.condF rfl ?_
      refine K.skip ?_
      refine KE.next ?_
      refine K.seq ?_
      refine K.seq ?_
      refine K.region ?_
      (refine KL.v rfl (Val.move rfl) ?_)
      (refine KL.v rfl (Val.isT (Val.neq rfl rfl) byLt) ?_)
      refine KL.nil ?_
      refine KE.next ?_
      refine K.condT rfl ?_
      refine K.seq ?_
      refine K.region ?_
      (refine KL.callc rfl rfl byEvL fun T hT => ?_)
      refine (CallV.fn awake_K).mono ?_
      rintro _ _ ⟨rfl, rfl⟩
      refine hT _ _ ?_; clear hT; clear T
      (refine KL.v rfl (Val.assign rfl) ?_)
      refine KL.nil ?_
      refine KE.next ?_
      refine K.ret ?_
      refine KE.passR ?_
      exact KE.fin byMarks rfl byRes byPart ⟨rfl, rfl⟩
theorem idealPlays_call {H : Type} {enc : TypeId × Value → H} (W : World) (base : Nat) (v0 v1 v2 : Value) {d0 d1 d2 : DataW H} {p0 p1 p2 : List MemPlace}
    (o0 : Value.okWide Tryz.prog W .any base 24 v0) (h0 : DataW.Trod enc Tryz.prog W 0 (fun _ => true) true 24 v0 d0 p0)
    (o1 : Value.okWide Tryz.prog W .any base 25 v1) (h1 : DataW.Trod enc Tryz.prog W 0 (fun _ => true) true 25 v1 d1 p1)
    (o2 : Value.okWide Tryz.prog W .any base 22 v2) (h2 : DataW.Trod enc Tryz.prog W 0 (fun _ => true) true 22 v2 d2 p2) :
    Calls Tryz.prog 3 #[v0, v1, v2] W (AwakeEnd W) := by
  obtain ⟨vc, cl, q, c, rfl, hK, _, _⟩ := kind_v o0 h0
  obtain ⟨l, hL, hok⟩ := plains_sl o1 h1
  obtain ⟨ps, hP, _⟩ := ints_sl o2 h2
  exact (idealPlays_K hK hL hok hP).calls
end Go.Proofs.YthamkgghnjenhaaGreat
