/- Ideal: the law IdealStays, the walk. -/
import Derived.Test.YthamkgghnjenhaaVIdL4
namespace Go.Proofs.Ythamkgghnjenhaa
open Go.RowKit Go.ChangeShapes Go.WideShapes Go.ChangeAt Go.Deep Go.Joins
set_option linter.unusedVariables false
set_option linter.unusedSimpArgs false
set_option maxRecDepth 10000

structure StyS where
  k : Nat
  sm : SM
  made : Int
  last : Int
set_option maxHeartbeats 8000000 in
theorem idealStays_K {w0 : World} {vc vl : Value} {cl : List Int} {l : List OpP} {q c : Int} (hK : SlW w0 iE vc cl) (hL : SlW w0 opE vl l) (hok : ∀ op ∈ l, op.ok) :
    Call Try.prog w0 4 [kindV vc q c, vl] [] (fun r H' => r = .bool true ∧ H' = []) := by
  have hK1 := hK.one
  have hkv : kindV vc q c = .agg [vc, .int .i64 q, .int .i64 c].toArray := rfl
  rw [hkv]
  refine Call.enter2 (n := 184) (by kernel_rfl) Try.func4 rfl rfl rfl ?_
  refine K.seq ?_
  refine K.region ?_
  (refine KL.e rfl (Eff.box rfl rfl) ?_; rintro _ _ ⟨b2, rfl, rfl⟩)
  (refine KL.v rfl (Val.assign rfl) ?_)
  refine KL.nil ?_
  refine KE.next ?_
  refine K.seq ?_
  refine K.seq ?_
  refine K.region ?_
  (refine KL.v rfl (Val.loadA rfl rfl rfl bySeeN) ?_)
  (refine KL.v rfl (Val.move rfl) ?_)
  (refine KL.callc rfl rfl byEvL fun T hT => ?_)
  refine (CallV.fn (great_K (q := q) (c := c) hK hL)).mono ?_
  rintro _ _ ⟨rfl, rfl⟩
  by_cases hg : 20 < cl.length ∨ 60 < l.length
  · rw [decide_eq_true hg]
    refine hT _ _ ?_; clear hT; clear T
    refine KL.nil ?_
    refine KE.next ?_
    refine K.condT rfl ?_
    refine K.seq ?_
    refine K.region ?_
    (refine KL.callc rfl rfl byEvL fun T hT => ?_)
    refine (CallV.fn awake_K).mono ?_
    rintro _ _ ⟨rfl, rfl⟩
    refine hT _ _ ?_; clear hT; clear T
    (refine KL.v rfl (Val.assign rfl) ?_)
    refine KL.nil ?_
    refine KE.next ?_
    refine K.ret ?_
    refine KE.passR ?_
    exact KE.fin byMarks rfl byRes byPart ⟨rfl, rfl⟩
  rw [decide_eq_false hg]
  refine hT _ _ ?_; clear hT; clear T
  refine KL.nil ?_
  refine KE.next ?_
  refine K.condF rfl ?_
  refine K.skip ?_
  refine KE.next ?_
  refine K.seq ?_
  refine K.region ?_
  (refine KL.v rfl (Val.loadA rfl rfl rfl bySeeN) ?_)
  (refine KL.callc rfl rfl byEvL fun T hT => ?_)
  refine (CallV.pure fun w hw => CallV.fn (made_K (q := q) (c := c) (l := []) (hK.only hw.old) (SlW.nil w opE) (by simp) (by omega) (by simp))).mono ?_
  rintro _ _ ⟨_, (⟨hnew, sm0, ok0, hI0, hq0, hc0, hcl0, hmd0, hmt0, h0, rfl, rfl⟩ | ⟨hno, rfl, rfl⟩), rfl⟩
  · have hst0 := h0 rfl
    refine hT _ _ ?_; clear hT; clear T
    (refine KL.v rfl (Val.assign rfl) ?_)
    refine KL.nil ?_
    refine KE.next ?_
    refine K.seq ?_
    refine K.seq ?_
    refine K.region ?_
    (refine KL.v rfl (Val.move rfl) ?_)
    (refine KL.v rfl (Val.eqlPN rfl rfl rfl) ?_)
    refine KL.nil ?_
    refine KE.next ?_
    refine K.condF rfl ?_
    refine K.skip ?_
    refine KE.next ?_
    refine K.seq ?_
    refine K.region ?_
    (refine KL.v rfl (Val.assign rfl) ?_)
    (refine KL.v rfl (Val.assign rfl) ?_)
    refine KL.nil ?_
    refine KE.next ?_
    refine K.seq ?_
    refine K.seq ?_
    refine K.region ?_
    (refine KL.v rfl (Val.assign rfl) ?_)
    refine KL.nil ?_
    refine KE.next ?_
    refine K.block ?_
    refine K.loopT (σ := StyS) [(1, _), (2, _), (5, _)] (fun s kp_ => (8, .int .i64 (s.k : Nat)) :: (6, .int .i64 s.last) :: (7, .int .i64 s.made) :: kp_) (fun s => smH s.sm ++ ((b2, cells [vc, .int .i64 q, .int .i64 c] 24) :: [])) (fun s => s.k ≤ l.length ∧ SOk s.sm ∧ s.sm.b = sm0.b ∧ Inv s.sm.st ∧ s.sm.st.quota = q ∧ s.sm.st.caps = c ∧ s.sm.st.cl = cl ∧ s.sm.made ≤ s.k ∧ s.sm.minted ≤ s.k ∧ s.made ≤ s.sm.made ∧ s.last = s.sm.minted) (fun s => l.length - s.k) (⟨0, sm0, 0, 0⟩) bySub byPart (⟨by simp, ok0, rfl, hI0, hq0, hc0, hcl0, Nat.le_of_eq (congrArg St.made hst0), Nat.le_of_eq (congrArg St.minted hst0), by simp, by rw [show sm0.minted = 0 from congrArg St.minted hst0]; rfl⟩) ?_
    rintro ⟨k, sm, lm, la⟩ ⟨hk, ok, hb, hI, hq, hc, hcl', hmd, hmt, hlm, hla⟩
    dsimp only at hk ok hb hI hq hc hcl' hmd hmt hlm hla ⊢
    rw [← hb]
    by_cases hlt : k < l.length
    · obtain ⟨op, hop⟩ := get_of_lt hlt
      obtain ⟨o1, o2, o3, o4, o5, o6⟩ := hok op (List.mem_of_getElem? hop)
      have hn := hI.st.closed.nums
      have hrl : ∀ i x, tf sm.ts i = some x → x.refs.length ≤ 1000 ∧ x.words.length ≤ 1000 := fun i x hx => by
        have := (hI.st.tx i x hx).sz; omega
      have hz : ∀ i x, tf sm.ts i = some x → 0 ≤ x.size ∧ x.size ≤ 100000 := fun i x hx => by
        have := (hI.st.tx i x hx).sz; omega
      have hcll : sm.cl.length ≤ 1000 := by have := hI.st.cl; simp only [classP, Bool.and_eq_true, decide_eq_true_eq] at this; have := this.1.1.2; show sm.st.cl.length ≤ 1000; omega
      refine K.seq ?_
      refine K.seq ?_
      refine K.region ?_
      (refine KL.v rfl (Val.move rfl) ?_)
      (refine KL.v rfl (Val.move rfl) ?_)
      (refine KL.v rfl (Val.lenSl rfl rfl (Sli.old (by assumption))) ?_)
      (refine KL.v rfl (Val.isT (Val.lss rfl rfl) byLt) ?_)
      refine KL.nil ?_
      refine KE.next ?_
      refine K.condT rfl ?_
      refine K.skip ?_
      refine KE.next ?_
      refine K.seq ?_
      refine K.block ?_
      refine K.seq ?_
      refine K.region ?_
      (refine KL.v rfl (Val.move rfl) ?_)
      (refine KL.callc rfl rfl byEvL fun T hT => ?_)
      refine (CallV.part (CallV.fn (Copy_K ok hrl hcll)) byPart).mono ?_
      rintro _ _ ⟨smw, okw, hstw, rfl, rfl⟩
      refine hT _ _ ?_; clear hT; clear T
      (refine KL.v rfl (Val.assign rfl) ?_)
      refine KL.nil ?_
      refine KE.next ?_
      refine K.seq ?_
      refine K.region ?_
      (refine KL.v rfl (Val.move rfl) ?_)
      (refine KL.callc rfl rfl byEvL fun T hT => ?_)
      refine (CallV.part (CallV.fn (Used_K ok hn (by omega) hz)) byPart).mono ?_
      rintro _ _ ⟨rfl, rfl⟩
      refine hT _ _ ?_; clear hT; clear T
      (refine KL.v rfl (Val.move rfl) ?_)
      (refine KL.callc rfl rfl byEvL fun T hT => ?_)
      refine (CallV.part (CallV.fn (Live_K ok hn (by omega))) byPart).mono ?_
      rintro _ _ ⟨rfl, rfl⟩
      refine hT _ _ ?_; clear hT; clear T
      (refine KL.v rfl (Val.assign rfl) ?_)
      (refine KL.v rfl (Val.assign rfl) ?_)
      refine KL.nil ?_
      refine KE.next ?_
      refine K.seq ?_
      refine K.region ?_
      (refine KL.v rfl (Val.move rfl) ?_)
      (refine KL.v rfl (Val.move rfl) ?_)
      (refine KL.v rfl (Val.move rfl) ?_)
      (refine KL.v rfl (Val.idxSl rfl rfl rfl (Sli.old (by assumption)) rfl byLt) ?_)
      (refine KL.v rfl (Val.loadAP rfl rfl rfl bySeeA) ?_)
      (refine KL.callc rfl rfl byEvL fun T hT => ?_)
      refine (CallV.part (CallV.fn (Do_K (op := op) ok hI.st (by omega) (by omega) o1)) byPart).mono ?_
      rintro _ _ ⟨sm', ok', hb', hD, rfl, rfl⟩
      have hO := out_of hI ⟨o5.1, by have := o5.2; omega⟩ hD
      obtain ⟨hI', hmd', hmt', hq', hcl2, hc'⟩ := out_inv hI hO
      have hCa := cas_of hI hO
      generalize (stepP sm.st op).2.1 = r at *
      obtain ⟨u, hu⟩ : ∃ u, usedP sm.st = u := ⟨_, rfl⟩
      obtain ⟨lv, hlv⟩ : ∃ lv, (handsP sm.st).length = lv := ⟨_, rfl⟩
      have hlvN : liveN sm.st = lv := hlv
      have hlvb : lv ≤ 60 := by rw [← hlv]; exact Nat.le_trans (hands_len _) (show sm.minted ≤ 60 by omega)
      have hmds : sm'.made ≤ sm.made + 1 := hmd'
      have hmts : sm'.minted ≤ sm.minted + 1 := hmt'
      have hn' := hI'.st.closed.nums
      have hz' : ∀ i x, tf sm'.ts i = some x → 0 ≤ x.size ∧ x.size ≤ 100000 := fun i x hx => by
        have := (hI'.st.tx i x hx).sz; omega
      unfold sdV
      refine hT _ _ ?_; clear hT; clear T
      rw [← hb', hu, hlv]
      have hnext : ∀ md la' : Int, md ≤ sm'.made → la' = sm'.minted → (k + 1 ≤ l.length ∧ SOk sm' ∧ sm'.b = sm'.b ∧ Inv sm'.st ∧ sm'.st.quota = q ∧ sm'.st.caps = c ∧ sm'.st.cl = cl ∧ sm'.made ≤ k + 1 ∧ sm'.minted ≤ k + 1 ∧ md ≤ sm'.made ∧ la' = sm'.minted) :=
        fun md la' h h2 => ⟨by omega, ok', rfl, hI', by rw [hq']; exact hq, by rw [hc']; exact hc, by rw [hcl2]; exact hcl', by omega, by omega, h, h2⟩
      cases hCa with
      | @a e h1 h2 h3 h4 h5 =>
        subst h2
        dsimp only
        have hmd1 : sm'.made = sm.made := congrArg St.made h3
        have hmt1 : sm'.minted = sm.minted := congrArg St.minted h3
        have hcmp : (decide (e = e) && (decide ((0 : Int) = 0) && (decide ((0 : Int) = 0) && true))) = true := by simp
        have hmtw : smw.minted = sm.minted := congrArg St.minted hstw
        have hu' : usedP sm'.st = u := by rw [h3]; exact hu
        have hlv' : (handsP sm'.st).length = lv := by rw [h3]; exact hlv
        (refine KL.e rfl (Eff.alloc rfl) ?_; rintro _ _ ⟨b12, rfl, rfl⟩)
        (refine KL.eN (Eff.storeAL rfl rfl rfl byTake byLay byOnes) ?_; rintro _ _ rfl)
        refine KL.nil ?_
        refine KE.next ?_
        refine K.seq ?_
        refine K.seq ?_
        refine K.region ?_
        (refine KL.v rfl (Val.fieldAddr0 (k := 0) rfl rfl) ?_)
        (refine KL.v rfl (Val.loadP rfl rfl (Sees.cell byTake rfl)) ?_)
        (refine KL.v rfl (Val.isT (Val.neq rfl rfl) byLt) ?_)
        (refine KL.v rfl (Val.move rfl) ?_)
        (refine KL.yes rfl rfl ?_; refine KL.v rfl (Val.loadA rfl rfl rfl bySeeN) ?_)
        (refine KL.yes rfl rfl ?_; refine KL.v rfl (Val.fieldAddr0 (k := 0) rfl rfl) ?_)
        (refine KL.yes rfl rfl ?_; refine KL.v rfl (Val.loadP rfl rfl (Sees.cell byTake rfl)) ?_)
        (refine KL.yes rfl rfl ?_; refine KL.v rfl (Val.build byParts rfl rfl byFill) ?_)
        (refine KL.yes rfl rfl ?_; refine KL.v rfl (Val.neqAE rfl rfl (by kernel_rfl) byEqv (by first | assumption | rfl)) ?_)
        (refine KL.yes rfl rfl ?_; refine KL.v rfl (Val.move rfl) ?_)
        (refine KL.yes rfl rfl ?_; refine KL.v rfl (Val.move rfl) ?_)
        (refine KL.yes rfl rfl ?_; refine KL.callc rfl rfl byEvL fun T hT => ?_)
        refine (CallV.part (CallV.fn (Used_K ok' hn' (by omega) hz')) byPart).mono ?_
        rintro _ _ ⟨rfl, rfl⟩
        rw [hu']
        refine hT _ _ ?_; clear hT; clear T
        (refine KL.yes rfl rfl ?_; refine KL.v rfl (Val.move rfl) ?_)
        (refine KL.yes rfl rfl ?_; refine KL.v rfl (Val.isF (Val.neq rfl rfl) byLt) ?_)
        (refine KL.yes rfl rfl ?_; refine KL.v rfl (Val.pickF rfl rfl rfl) ?_)
        (refine KL.yes rfl rfl ?_; refine KL.v rfl (Val.move rfl) ?_)
        (refine KL.yes rfl rfl ?_; refine KL.v rfl (Val.move rfl) ?_)
        (refine KL.yes rfl rfl ?_; refine KL.callc rfl rfl byEvL fun T hT => ?_)
        refine (CallV.part (CallV.fn (Live_K ok' hn' (by omega))) byPart).mono ?_
        rintro _ _ ⟨rfl, rfl⟩
        rw [hlv']
        refine hT _ _ ?_; clear hT; clear T
        (refine KL.yes rfl rfl ?_; refine KL.v rfl (Val.move rfl) ?_)
        (refine KL.yes rfl rfl ?_; refine KL.v rfl (Val.isF (Val.neq rfl rfl) byLt) ?_)
        (refine KL.yes rfl rfl ?_; refine KL.v rfl (Val.pickF rfl rfl rfl) ?_)
        (refine KL.yes rfl rfl ?_; refine KL.v rfl (Val.move rfl) ?_)
        (refine KL.yes rfl rfl ?_; refine KL.v rfl (Val.move rfl) ?_)
        (refine KL.yes rfl rfl ?_; refine KL.callc rfl rfl byEvL fun T hT => ?_)
        refine (CallV.part (CallV.fn (Minted_K (sm := sm'))) byPart).mono ?_
        rintro _ _ ⟨rfl, rfl⟩
        rw [hmt1]
        refine hT _ _ ?_; clear hT; clear T
        (refine KL.yes rfl rfl ?_; refine KL.v rfl (Val.move rfl) ?_)
        (refine KL.yes rfl rfl ?_; refine KL.callc rfl rfl byEvL fun T hT => ?_)
        refine (CallV.part (CallV.fn (Minted_K (sm := smw))) byPart).mono ?_
        rintro _ _ ⟨rfl, rfl⟩
        rw [hmtw]
        refine hT _ _ ?_; clear hT; clear T
        (refine KL.yes rfl rfl ?_; refine KL.v rfl (Val.isF (Val.neq rfl rfl) byLt) ?_)
        (refine KL.yes rfl rfl ?_; refine KL.v rfl (Val.pickF rfl rfl rfl) ?_)
        (refine KL.yes rfl rfl ?_; refine KL.v rfl (Val.move rfl) ?_)
        (refine KL.yes rfl rfl ?_; refine KL.v rfl (Val.move rfl) ?_)
        (refine KL.yes rfl rfl ?_; refine KL.v rfl (Val.move rfl) ?_)
        (refine KL.yes rfl rfl ?_; refine KL.callc rfl rfl byEvL fun T hT => ?_)
        refine (CallV.part (CallV.fn (alike_K (a := sm') (b := smw) ok' okw (by rw [hstw, h3]) hI'.st (by omega) (by omega))) byPart).mono ?_
        rintro _ _ ⟨rfl, rfl⟩
        refine hT _ _ ?_; clear hT; clear T
        by_cases he1 : e = 131
        · have hlc : ¬ (lv : Int) < c := by have := h4 he1; rw [hlvN] at this; rw [← hc]; omega
          have he2 : ¬ e = 100 := by omega
          (refine KL.yes rfl rfl ?_; refine KL.v rfl (Val.notT rfl) ?_)
          (refine KL.yes rfl rfl ?_; refine KL.v rfl (Val.pickF rfl rfl rfl) ?_)
          (refine KL.v rfl (Val.pickT rfl rfl rfl) ?_)
          refine KL.nil ?_
          refine KE.next ?_
          refine K.condF rfl ?_
          refine K.skip ?_
          refine KE.next ?_
          refine K.seq ?_
          refine K.seq ?_
          refine K.region ?_
          (refine KL.v rfl (Val.fieldAddr0 (k := 0) rfl rfl) ?_)
          (refine KL.v rfl (Val.loadP rfl rfl (Sees.cell byTake rfl)) ?_)
          (refine KL.v rfl (Val.isT (Val.eql rfl rfl) byLt) ?_)
          (refine KL.v rfl (Val.move rfl) ?_)
          (refine KL.yes rfl rfl ?_; refine KL.v rfl (Val.move rfl) ?_)
          (refine KL.yes rfl rfl ?_; refine KL.v rfl (Val.fieldAddr0 (k := 2) rfl rfl) ?_)
          (refine KL.yes rfl rfl ?_; refine KL.v rfl (Val.loadP rfl rfl (Sees.cell byTake rfl)) ?_)
          (refine KL.yes rfl rfl ?_; refine KL.v rfl (Val.isF (Val.lss rfl rfl) byLt) ?_)
          (refine KL.v rfl (Val.pickT rfl rfl rfl) ?_)
          (refine KL.v rfl (Val.move rfl) ?_)
          (refine KL.yes rfl rfl ?_; refine KL.v rfl (Val.fieldAddr0 (k := 1) rfl rfl) ?_)
          (refine KL.yes rfl rfl ?_; refine KL.v rfl (Val.loadP rfl rfl (Sees.cell byTake rfl)) ?_)
          (refine KL.yes rfl rfl ?_; refine KL.v rfl (Val.isF (Val.neq rfl rfl) byLt) ?_)
          (refine KL.yes rfl rfl ?_; refine KL.v rfl (Val.move rfl) ?_)
          refine KL.skipG rfl rfl rfl ?_
          refine KL.skipG rfl rfl rfl ?_
          refine KL.skipG rfl rfl rfl ?_
          refine KL.skipG rfl rfl rfl ?_
          refine KL.skipG rfl rfl rfl ?_
          refine KL.skipU rfl rfl rfl ?_
          refine KL.skipU rfl rfl rfl ?_
          refine KL.skipU rfl rfl rfl ?_
          refine KL.skipU rfl rfl rfl ?_
          refine KL.skipU rfl rfl rfl ?_
          refine KL.skipG rfl rfl rfl ?_
          refine KL.skipG rfl rfl rfl ?_
          refine KL.skipU rfl rfl rfl ?_
          refine KL.skipU rfl rfl rfl ?_
          refine KL.skipU rfl rfl rfl ?_
          refine KL.skipU rfl rfl rfl ?_
          refine KL.skipU rfl rfl rfl ?_
          refine KL.skipG rfl rfl rfl ?_
          (refine KL.yes rfl rfl ?_; refine KL.v rfl (Val.pickF rfl rfl rfl) ?_)
          (refine KL.v rfl (Val.pickF rfl rfl rfl) ?_)
          refine KL.nil ?_
          refine KE.next ?_
          refine K.condF rfl ?_
          refine K.skip ?_
          refine KE.next ?_
          refine K.seq ?_
          refine K.seq ?_
          refine K.drawn _ [(0, 0), (1, 0), (2, 0), (3, 0), (4, 0), (5, 0), (6, 0), (7, 0), (8, 0), (9, 0), (10, 0), (11, 1), (12, 0), (13, 0), (14, 0), (15, 0), (16, 0), (19, 1), (20, 1), (17, 2), (18, 0), (21, 0), (22, 0), (23, 0)] (by kernel_rfl) (by kernel_rfl) (by kernel_rfl) (by kernel_rfl) (by kernel_rfl) (by kernel_rfl) Part.all ?_
          refine KD.v0 rfl rfl (Val.fieldAddr0 (k := 0) rfl rfl) ?_
          refine KD.v0 rfl rfl (Val.loadP rfl rfl (Sees.cell byTake rfl)) ?_
          refine KD.v0 rfl rfl (Val.isF (Val.eql rfl rfl) byLt) ?_
          refine KD.v0 rfl rfl (Val.move rfl) ?_
          refine KD.no rfl rfl rfl rfl rfl ?_
          refine KD.no rfl rfl rfl rfl rfl ?_
          refine KD.no rfl rfl rfl rfl rfl ?_
          refine KD.no rfl rfl rfl rfl rfl ?_
          refine KD.no rfl rfl rfl rfl rfl ?_
          refine KD.no rfl rfl rfl rfl rfl ?_
          refine KD.no rfl rfl rfl rfl rfl ?_
          refine KD.noU rfl rfl rfl rfl rfl ?_
          refine KD.noU rfl rfl rfl rfl rfl ?_
          refine KD.noU rfl rfl rfl rfl rfl ?_
          refine KD.noU rfl rfl rfl rfl rfl ?_
          refine KD.noU rfl rfl rfl rfl rfl ?_
          refine KD.noU rfl rfl rfl rfl rfl ?_
          refine KD.noU rfl rfl rfl rfl rfl ?_
          refine KD.noU rfl rfl rfl rfl rfl ?_
          refine KD.noUA rfl rfl rfl rfl ?_
          refine KD.noU rfl rfl rfl rfl rfl ?_
          refine KD.noU rfl rfl rfl rfl rfl ?_
          refine KD.no rfl rfl rfl rfl rfl ?_
          refine KD.v0 rfl rfl (Val.pickF rfl rfl rfl) ?_
          refine KD.nil ?_
          refine KE.next ?_
          refine K.condF rfl ?_
          refine K.skip ?_
          refine KE.next ?_
          refine K.seq ?_
          refine K.seq ?_
          refine K.region ?_
          (refine KL.v rfl (Val.fieldAddr0 (k := 1) rfl rfl) ?_)
          (refine KL.v rfl (Val.loadP rfl rfl (Sees.cell byTake rfl)) ?_)
          (refine KL.v rfl (Val.isF (Val.neq rfl rfl) byLt) ?_)
          refine KL.nil ?_
          refine KE.next ?_
          refine K.condF rfl ?_
          refine K.skip ?_
          refine KE.next ?_
          refine K.seq ?_
          refine K.region ?_
          (refine KL.v rfl (Val.fieldAddr0 (k := 0) rfl rfl) ?_)
          (refine KL.v rfl (Val.loadP rfl rfl (Sees.cell byTake rfl)) ?_)
          (refine KL.v rfl (Val.isF (Val.eql rfl rfl) byLt) ?_)
          (refine KL.v rfl (Val.move rfl) ?_)
          refine KL.skipG rfl rfl rfl ?_
          refine KL.skipG rfl rfl rfl ?_
          refine KL.skipG rfl rfl rfl ?_
          refine KL.skipG rfl rfl rfl ?_
          refine KL.skipG rfl rfl rfl ?_
          refine KL.skipG rfl rfl rfl ?_
          (refine KL.v rfl (Val.pickF rfl rfl rfl) ?_)
          refine KL.nil ?_
          refine KE.next ?_
          refine K.condF rfl ?_
          refine K.skip ?_
          refine KE.blkN ?_
          refine KE.next ?_
          refine K.region ?_
          (refine KL.v rfl (Val.move rfl) ?_)
          (refine KL.v rfl (Val.add rfl rfl (by simp only [Go.Proofs.Ythamkgghnjenhaa.lo, Go.Proofs.Ythamkgghnjenhaa.hi]; omega)) ?_)
          (refine KL.v rfl (Val.assign rfl) ?_)
          refine KL.nil ?_
          exact KE.again ⟨k + 1, sm', lm, la⟩ bySub byPart (hnext lm la (by omega) (by omega)) (by show l.length - (k + 1) < l.length - k; omega)
        · by_cases he2 : e = 100
          · obtain ⟨g1, g2, g3, g4⟩ := h5 he2
            have hclq : sm.st.cl = cl := hcl'
            rw [hclq] at g3 g4
            obtain ⟨sz, hsz⟩ : ∃ sz, (roundP cl (op.a + op.b + 1)).1 = sz := ⟨_, rfl⟩
            have hrb := round_bnd (n := op.a + op.b + 1) (by rw [← hclq]; exact hI.st.cl) g3
            have hub := used_bnd hn hz
            rw [hsz] at g4 hrb
            rw [hu] at g4 hub
            have hmade1 : sm.st.made = sm.made := rfl
            have hgt : ¬ u + sz ≤ q := by rw [← hq]; omega
            (refine KL.yes rfl rfl ?_; refine KL.v rfl (Val.notT rfl) ?_)
            (refine KL.yes rfl rfl ?_; refine KL.v rfl (Val.pickF rfl rfl rfl) ?_)
            (refine KL.v rfl (Val.pickT rfl rfl rfl) ?_)
            refine KL.nil ?_
            refine KE.next ?_
            refine K.condF rfl ?_
            refine K.skip ?_
            refine KE.next ?_
            refine K.seq ?_
            refine K.seq ?_
            refine K.region ?_
            (refine KL.v rfl (Val.fieldAddr0 (k := 0) rfl rfl) ?_)
            (refine KL.v rfl (Val.loadP rfl rfl (Sees.cell byTake rfl)) ?_)
            (refine KL.v rfl (Val.isF (Val.eql rfl rfl) byLt) ?_)
            (refine KL.v rfl (Val.move rfl) ?_)
            refine KL.skipG rfl rfl rfl ?_
            refine KL.skipG rfl rfl rfl ?_
            refine KL.skipG rfl rfl rfl ?_
            refine KL.skipG rfl rfl rfl ?_
            (refine KL.v rfl (Val.pickF rfl rfl rfl) ?_)
            (refine KL.v rfl (Val.move rfl) ?_)
            (refine KL.yes rfl rfl ?_; refine KL.v rfl (Val.fieldAddr0 (k := 1) rfl rfl) ?_)
            (refine KL.yes rfl rfl ?_; refine KL.v rfl (Val.loadP rfl rfl (Sees.cell byTake rfl)) ?_)
            (refine KL.yes rfl rfl ?_; refine KL.v rfl (Val.isF (Val.neq rfl rfl) byLt) ?_)
            (refine KL.yes rfl rfl ?_; refine KL.v rfl (Val.move rfl) ?_)
            refine KL.skipG rfl rfl rfl ?_
            refine KL.skipG rfl rfl rfl ?_
            refine KL.skipG rfl rfl rfl ?_
            refine KL.skipG rfl rfl rfl ?_
            refine KL.skipG rfl rfl rfl ?_
            refine KL.skipU rfl rfl rfl ?_
            refine KL.skipU rfl rfl rfl ?_
            refine KL.skipU rfl rfl rfl ?_
            refine KL.skipU rfl rfl rfl ?_
            refine KL.skipU rfl rfl rfl ?_
            refine KL.skipG rfl rfl rfl ?_
            refine KL.skipG rfl rfl rfl ?_
            refine KL.skipU rfl rfl rfl ?_
            refine KL.skipU rfl rfl rfl ?_
            refine KL.skipU rfl rfl rfl ?_
            refine KL.skipU rfl rfl rfl ?_
            refine KL.skipU rfl rfl rfl ?_
            refine KL.skipG rfl rfl rfl ?_
            (refine KL.yes rfl rfl ?_; refine KL.v rfl (Val.pickF rfl rfl rfl) ?_)
            (refine KL.v rfl (Val.pickF rfl rfl rfl) ?_)
            refine KL.nil ?_
            refine KE.next ?_
            refine K.condF rfl ?_
            refine K.skip ?_
            refine KE.next ?_
            refine K.seq ?_
            refine K.seq ?_
            refine K.drawn _ [(0, 0), (1, 0), (2, 0), (3, 0), (4, 0), (5, 0), (6, 0), (7, 0), (8, 0), (9, 0), (10, 0), (11, 1), (12, 0), (13, 0), (14, 0), (15, 0), (16, 0), (19, 1), (20, 1), (17, 2), (18, 0), (21, 0), (22, 0), (23, 0)] (by kernel_rfl) (by kernel_rfl) (by kernel_rfl) (by kernel_rfl) (by kernel_rfl) (by kernel_rfl) Part.all ?_
            refine KD.v0 rfl rfl (Val.fieldAddr0 (k := 0) rfl rfl) ?_
            refine KD.v0 rfl rfl (Val.loadP rfl rfl (Sees.cell byTake rfl)) ?_
            refine KD.v0 rfl rfl (Val.isT (Val.eql rfl rfl) byLt) ?_
            refine KD.v0 rfl rfl (Val.move rfl) ?_
            refine KD.y0 rfl rfl rfl rfl (Val.move rfl) ?_
            refine KD.y0 rfl rfl rfl rfl (Val.move rfl) ?_
            refine KD.y0 rfl rfl rfl rfl (Val.idxSl rfl rfl rfl (Sli.old (by assumption)) rfl byLt) ?_
            refine KD.y0 rfl rfl rfl rfl (Val.fieldSl (k := 0) rfl rfl) ?_
            refine KD.y0 rfl rfl rfl rfl (Val.loadP rfl rfl (Sees.sl0 (Sli.old (by assumption)) (by assumption) rfl)) ?_
            refine KD.y0 rfl rfl rfl rfl (Val.isF (Val.neq rfl rfl) byLt) ?_
            refine KD.y0 rfl rfl rfl rfl (Val.move rfl) ?_
            refine KD.y1 rfl rfl rfl rfl (Val.move rfl) ?_
            refine KD.y0 rfl rfl rfl rfl (Val.loadA rfl rfl rfl bySeeN) ?_
            refine KD.y0 rfl rfl rfl rfl (Val.move rfl) ?_
            refine KD.y0 rfl rfl rfl rfl (Val.move rfl) ?_
            refine KD.y0 rfl rfl rfl rfl (Val.idxSl rfl rfl rfl (Sli.old (by assumption)) rfl byLt) ?_
            refine KD.y0 rfl rfl rfl rfl (Val.loadAP rfl rfl rfl bySeeA) ?_
            refine KD.y1 rfl rfl rfl rfl (Val.fieldAddr0 (k := 1) rfl rfl) ?_
            refine KD.y1 rfl rfl rfl rfl (Val.loadP rfl rfl (Sees.cell byTake rfl)) ?_
            refine KD.callcY rfl rfl rfl rfl rfl byEvL fun T hT => ?_
            refine (CallV.fn (least_K (op := op) (q := q) (c := c) hK (by rw [← hclq]; exact hI.st.cl) g2 g3)).mono ?_
            rintro _ _ ⟨rfl, rfl⟩
            rw [hsz]
            refine hT _ _ byPart ?_; clear hT; clear T
            refine KD.y0 rfl rfl rfl rfl (Val.add rfl rfl (by simp only [Go.Proofs.Ythamkgghnjenhaa.lo, Go.Proofs.Ythamkgghnjenhaa.hi]; omega)) ?_
            refine KD.y0 rfl rfl rfl rfl (Val.isF (Val.leq rfl rfl) byLt) ?_
            refine KD.y0 rfl rfl rfl rfl (Val.pickF rfl rfl rfl) ?_
            refine KD.v0 rfl rfl (Val.pickT rfl rfl rfl) ?_
            refine KD.nil ?_
            refine KE.next ?_
            refine K.condF rfl ?_
            refine K.skip ?_
            refine KE.next ?_
            refine K.seq ?_
            refine K.seq ?_
            refine K.region ?_
            (refine KL.v rfl (Val.fieldAddr0 (k := 1) rfl rfl) ?_)
            (refine KL.v rfl (Val.loadP rfl rfl (Sees.cell byTake rfl)) ?_)
            (refine KL.v rfl (Val.isF (Val.neq rfl rfl) byLt) ?_)
            refine KL.nil ?_
            refine KE.next ?_
            refine K.condF rfl ?_
            refine K.skip ?_
            refine KE.next ?_
            refine K.seq ?_
            refine K.region ?_
            (refine KL.v rfl (Val.fieldAddr0 (k := 0) rfl rfl) ?_)
            (refine KL.v rfl (Val.loadP rfl rfl (Sees.cell byTake rfl)) ?_)
            (refine KL.v rfl (Val.isF (Val.eql rfl rfl) byLt) ?_)
            (refine KL.v rfl (Val.move rfl) ?_)
            refine KL.skipG rfl rfl rfl ?_
            refine KL.skipG rfl rfl rfl ?_
            refine KL.skipG rfl rfl rfl ?_
            refine KL.skipG rfl rfl rfl ?_
            refine KL.skipG rfl rfl rfl ?_
            refine KL.skipG rfl rfl rfl ?_
            (refine KL.v rfl (Val.pickF rfl rfl rfl) ?_)
            refine KL.nil ?_
            refine KE.next ?_
            refine K.condF rfl ?_
            refine K.skip ?_
            refine KE.blkN ?_
            refine KE.next ?_
            refine K.region ?_
            (refine KL.v rfl (Val.move rfl) ?_)
            (refine KL.v rfl (Val.add rfl rfl (by simp only [Go.Proofs.Ythamkgghnjenhaa.lo, Go.Proofs.Ythamkgghnjenhaa.hi]; omega)) ?_)
            (refine KL.v rfl (Val.assign rfl) ?_)
            refine KL.nil ?_
            exact KE.again ⟨k + 1, sm', lm, la⟩ bySub byPart (hnext lm la (by omega) (by omega)) (by show l.length - (k + 1) < l.length - k; omega)
          · (refine KL.yes rfl rfl ?_; refine KL.v rfl (Val.notT rfl) ?_)
            (refine KL.yes rfl rfl ?_; refine KL.v rfl (Val.pickF rfl rfl rfl) ?_)
            (refine KL.v rfl (Val.pickT rfl rfl rfl) ?_)
            refine KL.nil ?_
            refine KE.next ?_
            refine K.condF rfl ?_
            refine K.skip ?_
            refine KE.next ?_
            refine K.seq ?_
            refine K.seq ?_
            refine K.region ?_
            (refine KL.v rfl (Val.fieldAddr0 (k := 0) rfl rfl) ?_)
            (refine KL.v rfl (Val.loadP rfl rfl (Sees.cell byTake rfl)) ?_)
            (refine KL.v rfl (Val.isF (Val.eql rfl rfl) byLt) ?_)
            (refine KL.v rfl (Val.move rfl) ?_)
            refine KL.skipG rfl rfl rfl ?_
            refine KL.skipG rfl rfl rfl ?_
            refine KL.skipG rfl rfl rfl ?_
            refine KL.skipG rfl rfl rfl ?_
            (refine KL.v rfl (Val.pickF rfl rfl rfl) ?_)
            (refine KL.v rfl (Val.move rfl) ?_)
            (refine KL.yes rfl rfl ?_; refine KL.v rfl (Val.fieldAddr0 (k := 1) rfl rfl) ?_)
            (refine KL.yes rfl rfl ?_; refine KL.v rfl (Val.loadP rfl rfl (Sees.cell byTake rfl)) ?_)
            (refine KL.yes rfl rfl ?_; refine KL.v rfl (Val.isF (Val.neq rfl rfl) byLt) ?_)
            (refine KL.yes rfl rfl ?_; refine KL.v rfl (Val.move rfl) ?_)
            refine KL.skipG rfl rfl rfl ?_
            refine KL.skipG rfl rfl rfl ?_
            refine KL.skipG rfl rfl rfl ?_
            refine KL.skipG rfl rfl rfl ?_
            refine KL.skipG rfl rfl rfl ?_
            refine KL.skipU rfl rfl rfl ?_
            refine KL.skipU rfl rfl rfl ?_
            refine KL.skipU rfl rfl rfl ?_
            refine KL.skipU rfl rfl rfl ?_
            refine KL.skipU rfl rfl rfl ?_
            refine KL.skipG rfl rfl rfl ?_
            refine KL.skipG rfl rfl rfl ?_
            refine KL.skipU rfl rfl rfl ?_
            refine KL.skipU rfl rfl rfl ?_
            refine KL.skipU rfl rfl rfl ?_
            refine KL.skipU rfl rfl rfl ?_
            refine KL.skipU rfl rfl rfl ?_
            refine KL.skipG rfl rfl rfl ?_
            (refine KL.yes rfl rfl ?_; refine KL.v rfl (Val.pickF rfl rfl rfl) ?_)
            (refine KL.v rfl (Val.pickF rfl rfl rfl) ?_)
            refine KL.nil ?_
            refine KE.next ?_
            refine K.condF rfl ?_
            refine K.skip ?_
            refine KE.next ?_
            refine K.seq ?_
            refine K.seq ?_
            refine K.drawn _ [(0, 0), (1, 0), (2, 0), (3, 0), (4, 0), (5, 0), (6, 0), (7, 0), (8, 0), (9, 0), (10, 0), (11, 1), (12, 0), (13, 0), (14, 0), (15, 0), (16, 0), (19, 1), (20, 1), (17, 2), (18, 0), (21, 0), (22, 0), (23, 0)] (by kernel_rfl) (by kernel_rfl) (by kernel_rfl) (by kernel_rfl) (by kernel_rfl) (by kernel_rfl) Part.all ?_
            refine KD.v0 rfl rfl (Val.fieldAddr0 (k := 0) rfl rfl) ?_
            refine KD.v0 rfl rfl (Val.loadP rfl rfl (Sees.cell byTake rfl)) ?_
            refine KD.v0 rfl rfl (Val.isF (Val.eql rfl rfl) byLt) ?_
            refine KD.v0 rfl rfl (Val.move rfl) ?_
            refine KD.no rfl rfl rfl rfl rfl ?_
            refine KD.no rfl rfl rfl rfl rfl ?_
            refine KD.no rfl rfl rfl rfl rfl ?_
            refine KD.no rfl rfl rfl rfl rfl ?_
            refine KD.no rfl rfl rfl rfl rfl ?_
            refine KD.no rfl rfl rfl rfl rfl ?_
            refine KD.no rfl rfl rfl rfl rfl ?_
            refine KD.noU rfl rfl rfl rfl rfl ?_
            refine KD.noU rfl rfl rfl rfl rfl ?_
            refine KD.noU rfl rfl rfl rfl rfl ?_
            refine KD.noU rfl rfl rfl rfl rfl ?_
            refine KD.noU rfl rfl rfl rfl rfl ?_
            refine KD.noU rfl rfl rfl rfl rfl ?_
            refine KD.noU rfl rfl rfl rfl rfl ?_
            refine KD.noU rfl rfl rfl rfl rfl ?_
            refine KD.noUA rfl rfl rfl rfl ?_
            refine KD.noU rfl rfl rfl rfl rfl ?_
            refine KD.noU rfl rfl rfl rfl rfl ?_
            refine KD.no rfl rfl rfl rfl rfl ?_
            refine KD.v0 rfl rfl (Val.pickF rfl rfl rfl) ?_
            refine KD.nil ?_
            refine KE.next ?_
            refine K.condF rfl ?_
            refine K.skip ?_
            refine KE.next ?_
            refine K.seq ?_
            refine K.seq ?_
            refine K.region ?_
            (refine KL.v rfl (Val.fieldAddr0 (k := 1) rfl rfl) ?_)
            (refine KL.v rfl (Val.loadP rfl rfl (Sees.cell byTake rfl)) ?_)
            (refine KL.v rfl (Val.isF (Val.neq rfl rfl) byLt) ?_)
            refine KL.nil ?_
            refine KE.next ?_
            refine K.condF rfl ?_
            refine K.skip ?_
            refine KE.next ?_
            refine K.seq ?_
            refine K.region ?_
            (refine KL.v rfl (Val.fieldAddr0 (k := 0) rfl rfl) ?_)
            (refine KL.v rfl (Val.loadP rfl rfl (Sees.cell byTake rfl)) ?_)
            (refine KL.v rfl (Val.isF (Val.eql rfl rfl) byLt) ?_)
            (refine KL.v rfl (Val.move rfl) ?_)
            refine KL.skipG rfl rfl rfl ?_
            refine KL.skipG rfl rfl rfl ?_
            refine KL.skipG rfl rfl rfl ?_
            refine KL.skipG rfl rfl rfl ?_
            refine KL.skipG rfl rfl rfl ?_
            refine KL.skipG rfl rfl rfl ?_
            (refine KL.v rfl (Val.pickF rfl rfl rfl) ?_)
            refine KL.nil ?_
            refine KE.next ?_
            refine K.condF rfl ?_
            refine K.skip ?_
            refine KE.blkN ?_
            refine KE.next ?_
            refine K.region ?_
            (refine KL.v rfl (Val.move rfl) ?_)
            (refine KL.v rfl (Val.add rfl rfl (by simp only [Go.Proofs.Ythamkgghnjenhaa.lo, Go.Proofs.Ythamkgghnjenhaa.hi]; omega)) ?_)
            (refine KL.v rfl (Val.assign rfl) ?_)
            refine KL.nil ?_
            exact KE.again ⟨k + 1, sm', lm, la⟩ bySub byPart (hnext lm la (by omega) (by omega)) (by show l.length - (k + 1) < l.length - k; omega)
      | @b w h1 h2 h3 h4 =>
        subst h1
        dsimp only
        have hlast : sm'.minted = sm.minted := h3
        (refine KL.e rfl (Eff.alloc rfl) ?_; rintro _ _ ⟨b12, rfl, rfl⟩)
        (refine KL.eN (Eff.storeAL rfl rfl rfl byTake byLay byOnes) ?_; rintro _ _ rfl)
        refine KL.nil ?_
        refine KE.next ?_
        refine K.seq ?_
        refine K.seq ?_
        refine K.region ?_
        (refine KL.v rfl (Val.fieldAddr0 (k := 0) rfl rfl) ?_)
        (refine KL.v rfl (Val.loadP rfl rfl (Sees.cell byTake rfl)) ?_)
        (refine KL.v rfl (Val.isF (Val.neq rfl rfl) byLt) ?_)
        (refine KL.v rfl (Val.move rfl) ?_)
        refine KL.skipG rfl rfl rfl ?_
        refine KL.skipG rfl rfl rfl ?_
        refine KL.skipG rfl rfl rfl ?_
        refine KL.skipG rfl rfl rfl ?_
        refine KL.skipG rfl rfl rfl ?_
        refine KL.skipG rfl rfl rfl ?_
        refine KL.skipU rfl rfl rfl ?_
        refine KL.skipU rfl rfl rfl ?_
        refine KL.skipU rfl rfl rfl ?_
        refine KL.skipU rfl rfl rfl ?_
        refine KL.skipG rfl rfl rfl ?_
        refine KL.skipG rfl rfl rfl ?_
        refine KL.skipU rfl rfl rfl ?_
        refine KL.skipU rfl rfl rfl ?_
        refine KL.skipU rfl rfl rfl ?_
        refine KL.skipU rfl rfl rfl ?_
        refine KL.skipG rfl rfl rfl ?_
        refine KL.skipG rfl rfl rfl ?_
        refine KL.skipU rfl rfl rfl ?_
        refine KL.skipU rfl rfl rfl ?_
        refine KL.skipU rfl rfl rfl ?_
        refine KL.skipU rfl rfl rfl ?_
        refine KL.skipU rfl rfl rfl ?_
        refine KL.skipG rfl rfl rfl ?_
        refine KL.skipG rfl rfl rfl ?_
        refine KL.skipU rfl rfl rfl ?_
        refine KL.skipU rfl rfl rfl ?_
        refine KL.skipU rfl rfl rfl ?_
        refine KL.skipU rfl rfl rfl ?_
        refine KL.skipG rfl rfl rfl ?_
        (refine KL.v rfl (Val.pickF rfl rfl rfl) ?_)
        refine KL.nil ?_
        refine KE.next ?_
        refine K.condF rfl ?_
        refine K.skip ?_
        refine KE.next ?_
        refine K.seq ?_
        refine K.seq ?_
        refine K.region ?_
        (refine KL.v rfl (Val.fieldAddr0 (k := 0) rfl rfl) ?_)
        (refine KL.v rfl (Val.loadP rfl rfl (Sees.cell byTake rfl)) ?_)
        (refine KL.v rfl (Val.isF (Val.eql rfl rfl) byLt) ?_)
        (refine KL.v rfl (Val.move rfl) ?_)
        refine KL.skipG rfl rfl rfl ?_
        refine KL.skipG rfl rfl rfl ?_
        refine KL.skipG rfl rfl rfl ?_
        refine KL.skipG rfl rfl rfl ?_
        (refine KL.v rfl (Val.pickF rfl rfl rfl) ?_)
        (refine KL.v rfl (Val.move rfl) ?_)
        (refine KL.yes rfl rfl ?_; refine KL.v rfl (Val.fieldAddr0 (k := 1) rfl rfl) ?_)
        (refine KL.yes rfl rfl ?_; refine KL.v rfl (Val.loadP rfl rfl (Sees.cell byTake rfl)) ?_)
        (refine KL.yes rfl rfl ?_; refine KL.v rfl (Val.isF (Val.neq rfl rfl) byLt) ?_)
        (refine KL.yes rfl rfl ?_; refine KL.v rfl (Val.move rfl) ?_)
        refine KL.skipG rfl rfl rfl ?_
        refine KL.skipG rfl rfl rfl ?_
        refine KL.skipG rfl rfl rfl ?_
        refine KL.skipG rfl rfl rfl ?_
        refine KL.skipG rfl rfl rfl ?_
        refine KL.skipU rfl rfl rfl ?_
        refine KL.skipU rfl rfl rfl ?_
        refine KL.skipU rfl rfl rfl ?_
        refine KL.skipU rfl rfl rfl ?_
        refine KL.skipU rfl rfl rfl ?_
        refine KL.skipG rfl rfl rfl ?_
        refine KL.skipG rfl rfl rfl ?_
        refine KL.skipU rfl rfl rfl ?_
        refine KL.skipU rfl rfl rfl ?_
        refine KL.skipU rfl rfl rfl ?_
        refine KL.skipU rfl rfl rfl ?_
        refine KL.skipU rfl rfl rfl ?_
        refine KL.skipG rfl rfl rfl ?_
        (refine KL.yes rfl rfl ?_; refine KL.v rfl (Val.pickF rfl rfl rfl) ?_)
        (refine KL.v rfl (Val.pickF rfl rfl rfl) ?_)
        refine KL.nil ?_
        refine KE.next ?_
        refine K.condF rfl ?_
        refine K.skip ?_
        refine KE.next ?_
        refine K.seq ?_
        refine K.seq ?_
        refine K.drawn _ [(0, 0), (1, 0), (2, 0), (3, 0), (4, 0), (5, 0), (6, 0), (7, 0), (8, 0), (9, 0), (10, 0), (11, 1), (12, 0), (13, 0), (14, 0), (15, 0), (16, 0), (19, 1), (20, 1), (17, 2), (18, 0), (21, 0), (22, 0), (23, 0)] (by kernel_rfl) (by kernel_rfl) (by kernel_rfl) (by kernel_rfl) (by kernel_rfl) (by kernel_rfl) Part.all ?_
        refine KD.v0 rfl rfl (Val.fieldAddr0 (k := 0) rfl rfl) ?_
        refine KD.v0 rfl rfl (Val.loadP rfl rfl (Sees.cell byTake rfl)) ?_
        refine KD.v0 rfl rfl (Val.isF (Val.eql rfl rfl) byLt) ?_
        refine KD.v0 rfl rfl (Val.move rfl) ?_
        refine KD.no rfl rfl rfl rfl rfl ?_
        refine KD.no rfl rfl rfl rfl rfl ?_
        refine KD.no rfl rfl rfl rfl rfl ?_
        refine KD.no rfl rfl rfl rfl rfl ?_
        refine KD.no rfl rfl rfl rfl rfl ?_
        refine KD.no rfl rfl rfl rfl rfl ?_
        refine KD.no rfl rfl rfl rfl rfl ?_
        refine KD.noU rfl rfl rfl rfl rfl ?_
        refine KD.noU rfl rfl rfl rfl rfl ?_
        refine KD.noU rfl rfl rfl rfl rfl ?_
        refine KD.noU rfl rfl rfl rfl rfl ?_
        refine KD.noU rfl rfl rfl rfl rfl ?_
        refine KD.noU rfl rfl rfl rfl rfl ?_
        refine KD.noU rfl rfl rfl rfl rfl ?_
        refine KD.noU rfl rfl rfl rfl rfl ?_
        refine KD.noUA rfl rfl rfl rfl ?_
        refine KD.noU rfl rfl rfl rfl rfl ?_
        refine KD.noU rfl rfl rfl rfl rfl ?_
        refine KD.no rfl rfl rfl rfl rfl ?_
        refine KD.v0 rfl rfl (Val.pickF rfl rfl rfl) ?_
        refine KD.nil ?_
        refine KE.next ?_
        refine K.condF rfl ?_
        refine K.skip ?_
        refine KE.next ?_
        refine K.seq ?_
        refine K.seq ?_
        refine K.region ?_
        (refine KL.v rfl (Val.fieldAddr0 (k := 1) rfl rfl) ?_)
        (refine KL.v rfl (Val.loadP rfl rfl (Sees.cell byTake rfl)) ?_)
        (refine KL.v rfl (Val.isF (Val.neq rfl rfl) byLt) ?_)
        refine KL.nil ?_
        refine KE.next ?_
        refine K.condF rfl ?_
        refine K.skip ?_
        refine KE.next ?_
        refine K.seq ?_
        refine K.region ?_
        (refine KL.v rfl (Val.fieldAddr0 (k := 0) rfl rfl) ?_)
        (refine KL.v rfl (Val.loadP rfl rfl (Sees.cell byTake rfl)) ?_)
        (refine KL.v rfl (Val.isT (Val.eql rfl rfl) byLt) ?_)
        (refine KL.v rfl (Val.move rfl) ?_)
        (refine KL.yes rfl rfl ?_; refine KL.v rfl (Val.move rfl) ?_)
        (refine KL.yes rfl rfl ?_; refine KL.v rfl (Val.move rfl) ?_)
        (refine KL.yes rfl rfl ?_; refine KL.v rfl (Val.idxSl rfl rfl rfl (Sli.old (by assumption)) rfl byLt) ?_)
        (refine KL.yes rfl rfl ?_; refine KL.v rfl (Val.fieldSl (k := 0) rfl rfl) ?_)
        (refine KL.yes rfl rfl ?_; refine KL.v rfl (Val.loadP rfl rfl (Sees.sl0 (Sli.old (by assumption)) (by assumption) rfl)) ?_)
        (refine KL.yes rfl rfl ?_; refine KL.v rfl (Val.isF (Val.eql rfl rfl) byLt) ?_)
        (refine KL.v rfl (Val.pickT rfl rfl rfl) ?_)
        refine KL.nil ?_
        refine KE.next ?_
        refine K.condF rfl ?_
        refine K.skip ?_
        refine KE.blkN ?_
        refine KE.next ?_
        refine K.region ?_
        (refine KL.v rfl (Val.move rfl) ?_)
        (refine KL.v rfl (Val.add rfl rfl (by simp only [Go.Proofs.Ythamkgghnjenhaa.lo, Go.Proofs.Ythamkgghnjenhaa.hi]; omega)) ?_)
        (refine KL.v rfl (Val.assign rfl) ?_)
        refine KL.nil ?_
        exact KE.again ⟨k + 1, sm', lm, la⟩ bySub byPart (hnext lm la (by have : sm'.made = sm.made := h4; omega) (by omega)) (by show l.length - (k + 1) < l.length - k; omega)
      | c h1 h2 h3 h4 h5 h6 =>
        subst h1
        dsimp only
        have hmd1 : sm'.made = sm.made := h6
        have hmt1 : sm'.minted = sm.minted + 1 := h4
        have hlv' : (handsP sm'.st).length = lv + 1 := by rw [← hlvN]; exact h5
        have hlc : ¬ (lv : Int) ≥ c := by rw [hlvN] at h3; rw [← hc]; omega
        have hms : sm.st.minted = sm.minted := rfl
        have hne : (sm.minted : Int) + 1 ≠ 0 := by omega
        rw [hms]
        (refine KL.e rfl (Eff.alloc rfl) ?_; rintro _ _ ⟨b12, rfl, rfl⟩)
        (refine KL.eN (Eff.storeAL rfl rfl rfl byTake byLay byOnes) ?_; rintro _ _ rfl)
        refine KL.nil ?_
        refine KE.next ?_
        refine K.seq ?_
        refine K.seq ?_
        refine K.region ?_
        (refine KL.v rfl (Val.fieldAddr0 (k := 0) rfl rfl) ?_)
        (refine KL.v rfl (Val.loadP rfl rfl (Sees.cell byTake rfl)) ?_)
        (refine KL.v rfl (Val.isF (Val.neq rfl rfl) byLt) ?_)
        (refine KL.v rfl (Val.move rfl) ?_)
        refine KL.skipG rfl rfl rfl ?_
        refine KL.skipG rfl rfl rfl ?_
        refine KL.skipG rfl rfl rfl ?_
        refine KL.skipG rfl rfl rfl ?_
        refine KL.skipG rfl rfl rfl ?_
        refine KL.skipG rfl rfl rfl ?_
        refine KL.skipU rfl rfl rfl ?_
        refine KL.skipU rfl rfl rfl ?_
        refine KL.skipU rfl rfl rfl ?_
        refine KL.skipU rfl rfl rfl ?_
        refine KL.skipG rfl rfl rfl ?_
        refine KL.skipG rfl rfl rfl ?_
        refine KL.skipU rfl rfl rfl ?_
        refine KL.skipU rfl rfl rfl ?_
        refine KL.skipU rfl rfl rfl ?_
        refine KL.skipU rfl rfl rfl ?_
        refine KL.skipG rfl rfl rfl ?_
        refine KL.skipG rfl rfl rfl ?_
        refine KL.skipU rfl rfl rfl ?_
        refine KL.skipU rfl rfl rfl ?_
        refine KL.skipU rfl rfl rfl ?_
        refine KL.skipU rfl rfl rfl ?_
        refine KL.skipU rfl rfl rfl ?_
        refine KL.skipG rfl rfl rfl ?_
        refine KL.skipG rfl rfl rfl ?_
        refine KL.skipU rfl rfl rfl ?_
        refine KL.skipU rfl rfl rfl ?_
        refine KL.skipU rfl rfl rfl ?_
        refine KL.skipU rfl rfl rfl ?_
        refine KL.skipG rfl rfl rfl ?_
        (refine KL.v rfl (Val.pickF rfl rfl rfl) ?_)
        refine KL.nil ?_
        refine KE.next ?_
        refine K.condF rfl ?_
        refine K.skip ?_
        refine KE.next ?_
        refine K.seq ?_
        refine K.seq ?_
        refine K.region ?_
        (refine KL.v rfl (Val.fieldAddr0 (k := 0) rfl rfl) ?_)
        (refine KL.v rfl (Val.loadP rfl rfl (Sees.cell byTake rfl)) ?_)
        (refine KL.v rfl (Val.isF (Val.eql rfl rfl) byLt) ?_)
        (refine KL.v rfl (Val.move rfl) ?_)
        refine KL.skipG rfl rfl rfl ?_
        refine KL.skipG rfl rfl rfl ?_
        refine KL.skipG rfl rfl rfl ?_
        refine KL.skipG rfl rfl rfl ?_
        (refine KL.v rfl (Val.pickF rfl rfl rfl) ?_)
        (refine KL.v rfl (Val.move rfl) ?_)
        (refine KL.yes rfl rfl ?_; refine KL.v rfl (Val.fieldAddr0 (k := 1) rfl rfl) ?_)
        (refine KL.yes rfl rfl ?_; refine KL.v rfl (Val.loadP rfl rfl (Sees.cell byTake rfl)) ?_)
        (refine KL.yes rfl rfl ?_; refine KL.v rfl (Val.isT (Val.neq rfl rfl) byLt) ?_)
        (refine KL.yes rfl rfl ?_; refine KL.v rfl (Val.move rfl) ?_)
        (refine KL.yes rfl rfl ?_; refine KL.v rfl (Val.move rfl) ?_)
        (refine KL.yes rfl rfl ?_; refine KL.v rfl (Val.fieldAddr0 (k := 2) rfl rfl) ?_)
        (refine KL.yes rfl rfl ?_; refine KL.v rfl (Val.loadP rfl rfl (Sees.cell byTake rfl)) ?_)
        (refine KL.yes rfl rfl ?_; refine KL.v rfl (Val.isF (Val.geq rfl rfl) byLt) ?_)
        (refine KL.yes rfl rfl ?_; refine KL.v rfl (Val.move rfl) ?_)
        (refine KL.yes rfl rfl ?_; refine KL.v rfl (Val.fieldAddr0 (k := 1) rfl rfl) ?_)
        (refine KL.yes rfl rfl ?_; refine KL.v rfl (Val.loadP rfl rfl (Sees.cell byTake rfl)) ?_)
        (refine KL.yes rfl rfl ?_; refine KL.v rfl (Val.move rfl) ?_)
        (refine KL.yes rfl rfl ?_; refine KL.v rfl (Val.add rfl rfl (by simp only [Go.Proofs.Ythamkgghnjenhaa.lo, Go.Proofs.Ythamkgghnjenhaa.hi]; omega)) ?_)
        (refine KL.yes rfl rfl ?_; refine KL.v rfl (Val.isF (Val.neq rfl rfl) byLt) ?_)
        (refine KL.yes rfl rfl ?_; refine KL.v rfl (Val.pickF rfl rfl rfl) ?_)
        (refine KL.yes rfl rfl ?_; refine KL.v rfl (Val.move rfl) ?_)
        (refine KL.yes rfl rfl ?_; refine KL.v rfl (Val.move rfl) ?_)
        (refine KL.yes rfl rfl ?_; refine KL.callc rfl rfl byEvL fun T hT => ?_)
        refine (CallV.part (CallV.fn (Live_K ok' hn' (by omega))) byPart).mono ?_
        rintro _ _ ⟨rfl, rfl⟩
        rw [hlv']
        refine hT _ _ ?_; clear hT; clear T
        (refine KL.yes rfl rfl ?_; refine KL.v rfl (Val.move rfl) ?_)
        (refine KL.yes rfl rfl ?_; refine KL.v rfl (Val.add rfl rfl (by simp only [Go.Proofs.Ythamkgghnjenhaa.lo, Go.Proofs.Ythamkgghnjenhaa.hi]; omega)) ?_)
        (refine KL.yes rfl rfl ?_; refine KL.v rfl (Val.isF (Val.neq rfl rfl) byLt) ?_)
        (refine KL.yes rfl rfl ?_; refine KL.v rfl (Val.pickF rfl rfl rfl) ?_)
        (refine KL.yes rfl rfl ?_; refine KL.v rfl (Val.pickT rfl rfl rfl) ?_)
        (refine KL.v rfl (Val.pickF rfl rfl rfl) ?_)
        refine KL.nil ?_
        refine KE.next ?_
        refine K.condF rfl ?_
        refine K.skip ?_
        refine KE.next ?_
        refine K.seq ?_
        refine K.seq ?_
        refine K.drawn _ [(0, 0), (1, 0), (2, 0), (3, 0), (4, 0), (5, 0), (6, 0), (7, 0), (8, 0), (9, 0), (10, 0), (11, 1), (12, 0), (13, 0), (14, 0), (15, 0), (16, 0), (19, 1), (20, 1), (17, 2), (18, 0), (21, 0), (22, 0), (23, 0)] (by kernel_rfl) (by kernel_rfl) (by kernel_rfl) (by kernel_rfl) (by kernel_rfl) (by kernel_rfl) Part.all ?_
        refine KD.v0 rfl rfl (Val.fieldAddr0 (k := 0) rfl rfl) ?_
        refine KD.v0 rfl rfl (Val.loadP rfl rfl (Sees.cell byTake rfl)) ?_
        refine KD.v0 rfl rfl (Val.isF (Val.eql rfl rfl) byLt) ?_
        refine KD.v0 rfl rfl (Val.move rfl) ?_
        refine KD.no rfl rfl rfl rfl rfl ?_
        refine KD.no rfl rfl rfl rfl rfl ?_
        refine KD.no rfl rfl rfl rfl rfl ?_
        refine KD.no rfl rfl rfl rfl rfl ?_
        refine KD.no rfl rfl rfl rfl rfl ?_
        refine KD.no rfl rfl rfl rfl rfl ?_
        refine KD.no rfl rfl rfl rfl rfl ?_
        refine KD.noU rfl rfl rfl rfl rfl ?_
        refine KD.noU rfl rfl rfl rfl rfl ?_
        refine KD.noU rfl rfl rfl rfl rfl ?_
        refine KD.noU rfl rfl rfl rfl rfl ?_
        refine KD.noU rfl rfl rfl rfl rfl ?_
        refine KD.noU rfl rfl rfl rfl rfl ?_
        refine KD.noU rfl rfl rfl rfl rfl ?_
        refine KD.noU rfl rfl rfl rfl rfl ?_
        refine KD.noUA rfl rfl rfl rfl ?_
        refine KD.noU rfl rfl rfl rfl rfl ?_
        refine KD.noU rfl rfl rfl rfl rfl ?_
        refine KD.no rfl rfl rfl rfl rfl ?_
        refine KD.v0 rfl rfl (Val.pickF rfl rfl rfl) ?_
        refine KD.nil ?_
        refine KE.next ?_
        refine K.condF rfl ?_
        refine K.skip ?_
        refine KE.next ?_
        refine K.seq ?_
        refine K.seq ?_
        refine K.region ?_
        (refine KL.v rfl (Val.fieldAddr0 (k := 1) rfl rfl) ?_)
        (refine KL.v rfl (Val.loadP rfl rfl (Sees.cell byTake rfl)) ?_)
        (refine KL.v rfl (Val.isT (Val.neq rfl rfl) byLt) ?_)
        refine KL.nil ?_
        refine KE.next ?_
        refine K.condT rfl ?_
        refine K.region ?_
        (refine KL.v rfl (Val.fieldAddr0 (k := 1) rfl rfl) ?_)
        (refine KL.v rfl (Val.loadP rfl rfl (Sees.cell byTake rfl)) ?_)
        (refine KL.v rfl (Val.assign rfl) ?_)
        refine KL.nil ?_
        refine KE.next ?_
        refine K.seq ?_
        refine K.region ?_
        (refine KL.v rfl (Val.fieldAddr0 (k := 0) rfl rfl) ?_)
        (refine KL.v rfl (Val.loadP rfl rfl (Sees.cell byTake rfl)) ?_)
        (refine KL.v rfl (Val.isT (Val.eql rfl rfl) byLt) ?_)
        (refine KL.v rfl (Val.move rfl) ?_)
        (refine KL.yes rfl rfl ?_; refine KL.v rfl (Val.move rfl) ?_)
        (refine KL.yes rfl rfl ?_; refine KL.v rfl (Val.move rfl) ?_)
        (refine KL.yes rfl rfl ?_; refine KL.v rfl (Val.idxSl rfl rfl rfl (Sli.old (by assumption)) rfl byLt) ?_)
        (refine KL.yes rfl rfl ?_; refine KL.v rfl (Val.fieldSl (k := 0) rfl rfl) ?_)
        (refine KL.yes rfl rfl ?_; refine KL.v rfl (Val.loadP rfl rfl (Sees.sl0 (Sli.old (by assumption)) (by assumption) rfl)) ?_)
        (refine KL.yes rfl rfl ?_; refine KL.v rfl (Val.isF (Val.eql rfl rfl) byLt) ?_)
        (refine KL.v rfl (Val.pickT rfl rfl rfl) ?_)
        refine KL.nil ?_
        refine KE.next ?_
        refine K.condF rfl ?_
        refine K.skip ?_
        refine KE.blkN ?_
        refine KE.next ?_
        refine K.region ?_
        (refine KL.v rfl (Val.move rfl) ?_)
        (refine KL.v rfl (Val.add rfl rfl (by simp only [Go.Proofs.Ythamkgghnjenhaa.lo, Go.Proofs.Ythamkgghnjenhaa.hi]; omega)) ?_)
        (refine KL.v rfl (Val.assign rfl) ?_)
        refine KL.nil ?_
        exact KE.again ⟨k + 1, sm', lm, (sm.minted : Int) + 1⟩ bySub byPart (hnext lm ((sm.minted : Int) + 1) (by omega) (by omega)) (by show l.length - (k + 1) < l.length - k; omega)
      | @d x h1 h2 h3 h4 h5 h6 h7 h8 h9 =>
        subst h1
        dsimp only
        have hmd1 : sm'.made = sm.made + 1 := h6
        have hmt1 : sm'.minted = sm.minted + 1 := h4
        have hlv' : (handsP sm'.st).length = lv + 1 := by rw [← hlvN]; exact h5
        have hlc : ¬ (lv : Int) ≥ c := by rw [hlvN] at h3; rw [← hc]; omega
        have hms : sm.st.minted = sm.minted := rfl
        have hne : (sm.minted : Int) + 1 ≠ 0 := by omega
        have hnp : namesP sm'.st ((sm.minted : Int) + 1) = ((sm.made : Int) + 1, 0) := by
          have h7' : sm'.st.Hd ((sm.minted : Int) + 1) = some ((sm.made : Int) + 1) := h7
          unfold namesP; rw [h7']
        have hu' : usedP sm'.st = u + x.size := by rw [h9]; show usedP sm.st + _ = _; rw [hu]
        have hx : tf sm'.ts ((sm.made : Int) + 1) = some x := h8
        have hxs := (hI'.st.tx _ _ h8).sz
        have hub := used_bnd hn hz
        rw [hu] at hub
        have hmade1 : sm.st.made = sm.made := rfl
        have huq : ¬ u + x.size > q := by have := hI'.us; rw [hu', hq', hq] at this; omega
        rw [hms]
        (refine KL.e rfl (Eff.alloc rfl) ?_; rintro _ _ ⟨b12, rfl, rfl⟩)
        (refine KL.eN (Eff.storeAL rfl rfl rfl byTake byLay byOnes) ?_; rintro _ _ rfl)
        refine KL.nil ?_
        refine KE.next ?_
        refine K.seq ?_
        refine K.seq ?_
        refine K.region ?_
        (refine KL.v rfl (Val.fieldAddr0 (k := 0) rfl rfl) ?_)
        (refine KL.v rfl (Val.loadP rfl rfl (Sees.cell byTake rfl)) ?_)
        (refine KL.v rfl (Val.isF (Val.neq rfl rfl) byLt) ?_)
        (refine KL.v rfl (Val.move rfl) ?_)
        refine KL.skipG rfl rfl rfl ?_
        refine KL.skipG rfl rfl rfl ?_
        refine KL.skipG rfl rfl rfl ?_
        refine KL.skipG rfl rfl rfl ?_
        refine KL.skipG rfl rfl rfl ?_
        refine KL.skipG rfl rfl rfl ?_
        refine KL.skipU rfl rfl rfl ?_
        refine KL.skipU rfl rfl rfl ?_
        refine KL.skipU rfl rfl rfl ?_
        refine KL.skipU rfl rfl rfl ?_
        refine KL.skipG rfl rfl rfl ?_
        refine KL.skipG rfl rfl rfl ?_
        refine KL.skipU rfl rfl rfl ?_
        refine KL.skipU rfl rfl rfl ?_
        refine KL.skipU rfl rfl rfl ?_
        refine KL.skipU rfl rfl rfl ?_
        refine KL.skipG rfl rfl rfl ?_
        refine KL.skipG rfl rfl rfl ?_
        refine KL.skipU rfl rfl rfl ?_
        refine KL.skipU rfl rfl rfl ?_
        refine KL.skipU rfl rfl rfl ?_
        refine KL.skipU rfl rfl rfl ?_
        refine KL.skipU rfl rfl rfl ?_
        refine KL.skipG rfl rfl rfl ?_
        refine KL.skipG rfl rfl rfl ?_
        refine KL.skipU rfl rfl rfl ?_
        refine KL.skipU rfl rfl rfl ?_
        refine KL.skipU rfl rfl rfl ?_
        refine KL.skipU rfl rfl rfl ?_
        refine KL.skipG rfl rfl rfl ?_
        (refine KL.v rfl (Val.pickF rfl rfl rfl) ?_)
        refine KL.nil ?_
        refine KE.next ?_
        refine K.condF rfl ?_
        refine K.skip ?_
        refine KE.next ?_
        refine K.seq ?_
        refine K.seq ?_
        refine K.region ?_
        (refine KL.v rfl (Val.fieldAddr0 (k := 0) rfl rfl) ?_)
        (refine KL.v rfl (Val.loadP rfl rfl (Sees.cell byTake rfl)) ?_)
        (refine KL.v rfl (Val.isF (Val.eql rfl rfl) byLt) ?_)
        (refine KL.v rfl (Val.move rfl) ?_)
        refine KL.skipG rfl rfl rfl ?_
        refine KL.skipG rfl rfl rfl ?_
        refine KL.skipG rfl rfl rfl ?_
        refine KL.skipG rfl rfl rfl ?_
        (refine KL.v rfl (Val.pickF rfl rfl rfl) ?_)
        (refine KL.v rfl (Val.move rfl) ?_)
        (refine KL.yes rfl rfl ?_; refine KL.v rfl (Val.fieldAddr0 (k := 1) rfl rfl) ?_)
        (refine KL.yes rfl rfl ?_; refine KL.v rfl (Val.loadP rfl rfl (Sees.cell byTake rfl)) ?_)
        (refine KL.yes rfl rfl ?_; refine KL.v rfl (Val.isT (Val.neq rfl rfl) byLt) ?_)
        (refine KL.yes rfl rfl ?_; refine KL.v rfl (Val.move rfl) ?_)
        (refine KL.yes rfl rfl ?_; refine KL.v rfl (Val.move rfl) ?_)
        (refine KL.yes rfl rfl ?_; refine KL.v rfl (Val.fieldAddr0 (k := 2) rfl rfl) ?_)
        (refine KL.yes rfl rfl ?_; refine KL.v rfl (Val.loadP rfl rfl (Sees.cell byTake rfl)) ?_)
        (refine KL.yes rfl rfl ?_; refine KL.v rfl (Val.isF (Val.geq rfl rfl) byLt) ?_)
        (refine KL.yes rfl rfl ?_; refine KL.v rfl (Val.move rfl) ?_)
        (refine KL.yes rfl rfl ?_; refine KL.v rfl (Val.fieldAddr0 (k := 1) rfl rfl) ?_)
        (refine KL.yes rfl rfl ?_; refine KL.v rfl (Val.loadP rfl rfl (Sees.cell byTake rfl)) ?_)
        (refine KL.yes rfl rfl ?_; refine KL.v rfl (Val.move rfl) ?_)
        (refine KL.yes rfl rfl ?_; refine KL.v rfl (Val.add rfl rfl (by simp only [Go.Proofs.Ythamkgghnjenhaa.lo, Go.Proofs.Ythamkgghnjenhaa.hi]; omega)) ?_)
        (refine KL.yes rfl rfl ?_; refine KL.v rfl (Val.isF (Val.neq rfl rfl) byLt) ?_)
        (refine KL.yes rfl rfl ?_; refine KL.v rfl (Val.pickF rfl rfl rfl) ?_)
        (refine KL.yes rfl rfl ?_; refine KL.v rfl (Val.move rfl) ?_)
        (refine KL.yes rfl rfl ?_; refine KL.v rfl (Val.move rfl) ?_)
        (refine KL.yes rfl rfl ?_; refine KL.callc rfl rfl byEvL fun T hT => ?_)
        refine (CallV.part (CallV.fn (Live_K ok' hn' (by omega))) byPart).mono ?_
        rintro _ _ ⟨rfl, rfl⟩
        rw [hlv']
        refine hT _ _ ?_; clear hT; clear T
        (refine KL.yes rfl rfl ?_; refine KL.v rfl (Val.move rfl) ?_)
        (refine KL.yes rfl rfl ?_; refine KL.v rfl (Val.add rfl rfl (by simp only [Go.Proofs.Ythamkgghnjenhaa.lo, Go.Proofs.Ythamkgghnjenhaa.hi]; omega)) ?_)
        (refine KL.yes rfl rfl ?_; refine KL.v rfl (Val.isF (Val.neq rfl rfl) byLt) ?_)
        (refine KL.yes rfl rfl ?_; refine KL.v rfl (Val.pickF rfl rfl rfl) ?_)
        (refine KL.yes rfl rfl ?_; refine KL.v rfl (Val.pickT rfl rfl rfl) ?_)
        (refine KL.v rfl (Val.pickF rfl rfl rfl) ?_)
        refine KL.nil ?_
        refine KE.next ?_
        refine K.condF rfl ?_
        refine K.skip ?_
        refine KE.next ?_
        refine K.seq ?_
        refine K.seq ?_
        refine K.drawn _ [(0, 0), (1, 0), (2, 0), (3, 0), (4, 0), (5, 0), (6, 0), (7, 0), (8, 0), (9, 0), (10, 0), (11, 1), (12, 0), (13, 0), (14, 0), (15, 0), (16, 0), (19, 1), (20, 1), (17, 2), (18, 0), (21, 0), (22, 0), (23, 0)] (by kernel_rfl) (by kernel_rfl) (by kernel_rfl) (by kernel_rfl) (by kernel_rfl) (by kernel_rfl) Part.all ?_
        refine KD.v0 rfl rfl (Val.fieldAddr0 (k := 0) rfl rfl) ?_
        refine KD.v0 rfl rfl (Val.loadP rfl rfl (Sees.cell byTake rfl)) ?_
        refine KD.v0 rfl rfl (Val.isF (Val.eql rfl rfl) byLt) ?_
        refine KD.v0 rfl rfl (Val.move rfl) ?_
        refine KD.no rfl rfl rfl rfl rfl ?_
        refine KD.no rfl rfl rfl rfl rfl ?_
        refine KD.no rfl rfl rfl rfl rfl ?_
        refine KD.no rfl rfl rfl rfl rfl ?_
        refine KD.no rfl rfl rfl rfl rfl ?_
        refine KD.no rfl rfl rfl rfl rfl ?_
        refine KD.no rfl rfl rfl rfl rfl ?_
        refine KD.noU rfl rfl rfl rfl rfl ?_
        refine KD.noU rfl rfl rfl rfl rfl ?_
        refine KD.noU rfl rfl rfl rfl rfl ?_
        refine KD.noU rfl rfl rfl rfl rfl ?_
        refine KD.noU rfl rfl rfl rfl rfl ?_
        refine KD.noU rfl rfl rfl rfl rfl ?_
        refine KD.noU rfl rfl rfl rfl rfl ?_
        refine KD.noU rfl rfl rfl rfl rfl ?_
        refine KD.noUA rfl rfl rfl rfl ?_
        refine KD.noU rfl rfl rfl rfl rfl ?_
        refine KD.noU rfl rfl rfl rfl rfl ?_
        refine KD.no rfl rfl rfl rfl rfl ?_
        refine KD.v0 rfl rfl (Val.pickF rfl rfl rfl) ?_
        refine KD.nil ?_
        refine KE.next ?_
        refine K.condF rfl ?_
        refine K.skip ?_
        refine KE.next ?_
        refine K.seq ?_
        refine K.seq ?_
        refine K.region ?_
        (refine KL.v rfl (Val.fieldAddr0 (k := 1) rfl rfl) ?_)
        (refine KL.v rfl (Val.loadP rfl rfl (Sees.cell byTake rfl)) ?_)
        (refine KL.v rfl (Val.isT (Val.neq rfl rfl) byLt) ?_)
        refine KL.nil ?_
        refine KE.next ?_
        refine K.condT rfl ?_
        refine K.region ?_
        (refine KL.v rfl (Val.fieldAddr0 (k := 1) rfl rfl) ?_)
        (refine KL.v rfl (Val.loadP rfl rfl (Sees.cell byTake rfl)) ?_)
        (refine KL.v rfl (Val.assign rfl) ?_)
        refine KL.nil ?_
        refine KE.next ?_
        refine K.seq ?_
        refine K.region ?_
        (refine KL.v rfl (Val.fieldAddr0 (k := 0) rfl rfl) ?_)
        (refine KL.v rfl (Val.loadP rfl rfl (Sees.cell byTake rfl)) ?_)
        (refine KL.v rfl (Val.isT (Val.eql rfl rfl) byLt) ?_)
        (refine KL.v rfl (Val.move rfl) ?_)
        (refine KL.yes rfl rfl ?_; refine KL.v rfl (Val.move rfl) ?_)
        (refine KL.yes rfl rfl ?_; refine KL.v rfl (Val.move rfl) ?_)
        (refine KL.yes rfl rfl ?_; refine KL.v rfl (Val.idxSl rfl rfl rfl (Sli.old (by assumption)) rfl byLt) ?_)
        (refine KL.yes rfl rfl ?_; refine KL.v rfl (Val.fieldSl (k := 0) rfl rfl) ?_)
        (refine KL.yes rfl rfl ?_; refine KL.v rfl (Val.loadP rfl rfl (Sees.sl0 (Sli.old (by assumption)) (by assumption) rfl)) ?_)
        (refine KL.yes rfl rfl ?_; refine KL.v rfl (Val.isT (Val.eql rfl rfl) byLt) ?_)
        (refine KL.v rfl (Val.pickT rfl rfl rfl) ?_)
        refine KL.nil ?_
        refine KE.next ?_
        refine K.condT rfl ?_
        refine K.seq ?_
        refine K.region ?_
        (refine KL.v rfl (Val.move rfl) ?_)
        (refine KL.v rfl (Val.fieldAddr0 (k := 1) rfl rfl) ?_)
        (refine KL.v rfl (Val.loadP rfl rfl (Sees.cell byTake rfl)) ?_)
        (refine KL.callc rfl rfl byEvL fun T hT => ?_)
        refine (CallV.part (CallV.fn (NamesS_K (sm := sm') (h := (sm.minted : Int) + 1))) byPart).mono ?_
        rintro _ _ ⟨rfl, rfl⟩
        rw [hnp]
        dsimp only
        refine hT _ _ ?_; clear hT; clear T
        (refine KL.v rfl (Val.move rfl) ?_)
        (refine KL.v rfl (Val.extract rfl rfl) ?_)
        (refine KL.v rfl (Val.extract rfl rfl) ?_)
        (refine KL.v rfl (Val.assign rfl) ?_)
        (refine KL.v rfl (Val.assign rfl) ?_)
        refine KL.nil ?_
        refine KE.next ?_
        refine K.seq ?_
        refine K.seq ?_
        refine K.drawn _ [(0, 0), (1, 0), (2, 0), (3, 0), (4, 0), (5, 0), (6, 0), (7, 0), (8, 0), (10, 1), (11, 1), (12, 1), (9, 2), (13, 2), (14, 0), (15, 0), (16, 0), (17, 0), (18, 0), (20, 1), (21, 1), (19, 2), (22, 0), (23, 0)] (by kernel_rfl) (by kernel_rfl) (by kernel_rfl) (by kernel_rfl) (by kernel_rfl) (by kernel_rfl) Part.all ?_
        refine KD.v0 rfl rfl (Val.move rfl) ?_
        refine KD.v0 rfl rfl (Val.isF (Val.neq rfl rfl) byLt) ?_
        refine KD.v0 rfl rfl (Val.move rfl) ?_
        refine KD.y0 rfl rfl rfl rfl (Val.move rfl) ?_
        refine KD.y0 rfl rfl rfl rfl (Val.move rfl) ?_
        refine KD.y0 rfl rfl rfl rfl (Val.isF (Val.leq rfl rfl) byLt) ?_
        refine KD.v0 rfl rfl (Val.pickF rfl rfl rfl) ?_
        refine KD.v0 rfl rfl (Val.move rfl) ?_
        refine KD.y0 rfl rfl rfl rfl (Val.move rfl) ?_
        refine KD.y1 rfl rfl rfl rfl (Val.move rfl) ?_
        refine KD.y1 rfl rfl rfl rfl (Val.move rfl) ?_
        refine KD.y1 rfl rfl rfl rfl (Val.move rfl) ?_
        refine KD.callcY rfl rfl rfl rfl rfl byEvL fun T hT => ?_
        refine (CallV.part (CallV.fn (Used_K ok' hn' (by omega) hz')) byPart).mono ?_
        rintro _ _ ⟨rfl, rfl⟩
        rw [hu']
        refine hT _ _ byPart ?_; clear hT; clear T
        refine KD.callcY rfl rfl rfl rfl rfl byEvL fun T hT => ?_
        refine (CallV.part (CallV.fn (size_K (n := (sm.made : Int) + 1) ok' hx (by omega))) byPart).mono ?_
        rintro _ _ ⟨rfl, rfl⟩
        refine hT _ _ byPart ?_; clear hT; clear T
        refine KD.y0 rfl rfl rfl rfl (Val.add rfl rfl (by simp only [Go.Proofs.Ythamkgghnjenhaa.lo, Go.Proofs.Ythamkgghnjenhaa.hi]; omega)) ?_
        refine KD.y0 rfl rfl rfl rfl (Val.isF (Val.neq rfl rfl) byLt) ?_
        refine KD.v0 rfl rfl (Val.pickF rfl rfl rfl) ?_
        refine KD.v0 rfl rfl (Val.move rfl) ?_
        refine KD.y0 rfl rfl rfl rfl (Val.move rfl) ?_
        refine KD.y1 rfl rfl rfl rfl (Val.fieldAddr0 (k := 1) rfl rfl) ?_
        refine KD.y1 rfl rfl rfl rfl (Val.loadP rfl rfl (Sees.cell byTake rfl)) ?_
        refine KD.callcY rfl rfl rfl rfl rfl byEvL fun T hT => ?_
        refine (CallV.part (CallV.fn (Used_K ok' hn' (by omega) hz')) byPart).mono ?_
        rintro _ _ ⟨rfl, rfl⟩
        rw [hu']
        refine hT _ _ byPart ?_; clear hT; clear T
        refine KD.y0 rfl rfl rfl rfl (Val.isF (Val.gtr rfl rfl) byLt) ?_
        refine KD.v0 rfl rfl (Val.pickF rfl rfl rfl) ?_
        refine KD.nil ?_
        refine KE.next ?_
        refine K.condF rfl ?_
        refine K.skip ?_
        refine KE.next ?_
        refine K.region ?_
        (refine KL.v rfl (Val.move rfl) ?_)
        (refine KL.v rfl (Val.assign rfl) ?_)
        refine KL.nil ?_
        refine KE.blkN ?_
        refine KE.next ?_
        refine K.region ?_
        (refine KL.v rfl (Val.move rfl) ?_)
        (refine KL.v rfl (Val.add rfl rfl (by simp only [Go.Proofs.Ythamkgghnjenhaa.lo, Go.Proofs.Ythamkgghnjenhaa.hi]; omega)) ?_)
        (refine KL.v rfl (Val.assign rfl) ?_)
        refine KL.nil ?_
        exact KE.again ⟨k + 1, sm', (sm.made : Int) + 1, (sm.minted : Int) + 1⟩ bySub byPart (hnext ((sm.made : Int) + 1) ((sm.minted : Int) + 1) (by omega) (by omega)) (by show l.length - (k + 1) < l.length - k; omega)
    · refine K.seq ?_
      refine K.seq ?_
      refine K.region ?_
      (refine KL.v rfl (Val.move rfl) ?_)
      (refine KL.v rfl (Val.move rfl) ?_)
      (refine KL.v rfl (Val.lenSl rfl rfl (Sli.old (by assumption))) ?_)
      (refine KL.v rfl (Val.isF (Val.lss rfl rfl) byLt) ?_)
      refine KL.nil ?_
      refine KE.next ?_
      refine K.condF rfl ?_
      refine K.exit ?_
      refine KE.passX ?_
      refine KE.passX ?_
      refine KE.blkX ?_
      refine KE.next ?_
      refine K.seq ?_
      refine K.region ?_
      (refine KL.callc rfl rfl byEvL fun T hT => ?_)
      refine (CallV.fn awake_K).mono ?_
      rintro _ _ ⟨rfl, rfl⟩
      refine hT _ _ ?_; clear hT; clear T
      (refine KL.v rfl (Val.assign rfl) ?_)
      refine KL.nil ?_
      refine KE.next ?_
      refine K.ret ?_
      exact KE.fin byMarks rfl byRes byPart ⟨rfl, rfl⟩
  · refine hT _ _ ?_; clear hT; clear T
    (refine KL.v rfl (Val.assign rfl) ?_)
    refine KL.nil ?_
    refine KE.next ?_
    refine K.seq ?_
    refine K.seq ?_
    refine K.region ?_
    (refine KL.v rfl (Val.move rfl) ?_)
    (refine KL.v rfl (Val.eqlPN rfl rfl rfl) ?_)
    refine KL.nil ?_
    refine KE.next ?_
    refine K.condT rfl ?_
    refine K.seq ?_
    refine K.region ?_
    (refine KL.callc rfl rfl byEvL fun T hT => ?_)
    refine (CallV.fn awake_K).mono ?_
    rintro _ _ ⟨rfl, rfl⟩
    refine hT _ _ ?_; clear hT; clear T
    (refine KL.v rfl (Val.assign rfl) ?_)
    refine KL.nil ?_
    refine KE.next ?_
    refine K.ret ?_
    refine KE.passR ?_
    exact KE.fin byMarks rfl byRes byPart ⟨rfl, rfl⟩
theorem idealStays_call {H : Type} {enc : TypeId × Value → H} (W : World) (base : Nat) (v0 v1 : Value) {d0 d1 : DataW H} {p0 p1 : List MemPlace}
    (o0 : Value.okWide Try.prog W .any base 24 v0) (h0 : DataW.Trod enc Try.prog W 0 (fun _ => true) true 24 v0 d0 p0)
    (o1 : Value.okWide Try.prog W .any base 25 v1) (h1 : DataW.Trod enc Try.prog W 0 (fun _ => true) true 25 v1 d1 p1) :
    Calls Try.prog 4 #[v0, v1] W (AwakeEnd W) := by
  obtain ⟨vc, cl, q, c, rfl, hK, _, _⟩ := kind_v o0 h0
  obtain ⟨l, hL, hok⟩ := plains_sl o1 h1
  exact (idealStays_K hK hL hok).calls
end Go.Proofs.Ythamkgghnjenhaa
