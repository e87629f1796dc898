/- Graph: the law GraphWays. -/
import Derived.Test.YtfgmofaadcbokaaGrL3
namespace Go.Proofs.Ytfgmofaadcbokaa
open Go.RowKit Go.ChangeShapes Go.WideShapes Go.ChangeAt Go.Deep Go.Joins
set_option linter.unusedVariables false
set_option linter.unusedSimpArgs false

/-! ## the plain law -/
theorem way_len (rows : List (List Int)) (to : Int) : ∀ (k : Nat) (sm : List Int), (wayGo rows to k sm).length = k
  | 0, _ => rfl
  | k + 1, sm => by simp only [wayGo, List.length_cons, way_len rows to k]
theorem way_ok {rows : List (List Int)} {to : Int} : ∀ (k : Nat) (sm : List Int), candP rows to k sm ≠ [] →
    (∃ x, (wayGo rows to (k + 1) sm)[0]? = some x ∧ x ∈ sm ∧ Nd rows x) ∧ (wayGo rows to (k + 1) sm)[k]? = some to ∧
    ∀ i a b, (wayGo rows to (k + 1) sm)[i]? = some a → (wayGo rows to (k + 1) sm)[i + 1]? = some b → Nd rows a ∧ b ∈ rowP rows a
  | 0, sm, h => by
    obtain ⟨h1, h2, h3⟩ := mem_cand.1 (pick_mem h)
    have h4 := (dTo_zero h2).1 (by simpa using h3)
    refine ⟨⟨_, rfl, h1, h2⟩, by simp [wayGo, h4], ?_⟩
    intro i a b _ hb
    simp [wayGo] at hb
  | k + 1, sm, h => by
    obtain ⟨h1, h2, h3⟩ := mem_cand.1 (pick_mem h)
    have hn := cand_next h2 h3
    obtain ⟨⟨x, i1, i2, i3⟩, i4, i5⟩ := way_ok k (rowP rows (pickP rows to (k + 1) sm)) hn
    have e : wayGo rows to (k + 1 + 1) sm = pickP rows to (k + 1) sm :: wayGo rows to (k + 1) (rowP rows (pickP rows to (k + 1) sm)) := rfl
    rw [e]
    refine ⟨⟨_, rfl, h1, h2⟩, by simpa using i4, ?_⟩
    intro i a b ha hb
    cases i with
    | zero =>
      simp at ha
      subst ha
      simp only [List.getElem?_cons_succ] at hb
      rw [i1] at hb
      cases hb
      exact ⟨h2, i2⟩
    | succ i =>
      simp only [List.getElem?_cons_succ] at ha hb
      exact i5 i a b ha hb

set_option maxRecDepth 10000 in
set_option maxHeartbeats 4000000 in
theorem graphWays_K {w0 : World} {vg vl : Value} {gs : List SV} {rows : List (List Int)} {l : List Int} {to : Int} (hG : SlW w0 svE vg gs) (hR : RowsI w0 gs rows) (hL : SlW w0 iE vl l) (hb : ∀ r ∈ rows, r.length ≤ 140737488355328) :
    Call Try.prog w0 6 [vg, vl, .int .i64 to] [] (fun r H' => r = .bool true ∧ H' = []) := by
  refine Call.enter3 (n := 131) (by kernel_rfl) Try.func6 rfl rfl rfl ?_
  have hgl := hR.len
  refine K.seq ?_
  refine K.region ?_
  (refine KL.v rfl (Val.assign rfl) ?_)
  refine KL.nil ?_
  refine KE.next ?_
  refine K.seq ?_
  refine K.seq ?_
  refine K.region ?_
  (refine KL.v rfl (Val.move rfl) ?_)
  (refine KL.v rfl (Val.move rfl) ?_)
  (refine KL.callc rfl rfl byEvL fun T hT => ?_)
  refine (CallV.fn (great_K hG hR hL hb)).mono ?_
  rintro _ _ ⟨rfl, rfl⟩
  cases hgr : greatP rows l.length with
  | true =>
    refine hT _ _ ?_; clear hT; clear T
    refine KL.nil ?_
    refine KE.next ?_
    refine K.condT rfl ?_
    refine K.seq ?_
    refine K.region ?_
    (refine KL.callc rfl rfl byEvL fun T hT => ?_)
    (refine (CallV.fn awake_K).mono ?_; rintro _ _ ⟨rfl, rfl⟩)
    (refine hT _ _ ?_; clear hT; clear T)
    (refine KL.v rfl (Val.assign rfl) ?_)
    refine KL.nil ?_
    refine KE.next ?_
    refine K.ret ?_
    refine KE.passR ?_
    exact KE.fin byMarks rfl byRes byPart ⟨rfl, rfl⟩
  | false =>
    obtain ⟨h40, h200, h50⟩ := great_false hgr
    have hbb : ∀ r ∈ rows, r.length ≤ 1000 := fun r hr => Nat.le_trans (tot_row hr) (by omega)
    have hg1 : gs.length ≤ 100 := by omega
    have hl1 : l.length ≤ 100000 := by omega
    have ht1 : totP rows ≤ 1000 := by omega
    have hDl := depths_len rows l
    have hRl := reach_len rows l
    refine hT _ _ ?_; clear hT; clear T
    refine KL.nil ?_
    refine KE.next ?_
    refine K.condF rfl ?_
    refine K.skip ?_
    refine KE.next ?_
    refine K.seq ?_
    refine K.region ?_
    (refine KL.v rfl (Val.move rfl) ?_)
    (refine KL.v rfl (Val.move rfl) ?_)
    (refine KL.v rfl (Val.move rfl) ?_)
    (refine KL.callc rfl rfl byEvL fun T hT => ?_)
    refine (CallV.fn (Way_K (to := to) hG hR hL hl1 hg1 ht1)).mono ?_
    rintro _ _ ⟨oW, okW, rfl, rfl⟩
    refine hT _ _ ?_; clear hT; clear T
    (refine KL.v rfl (Val.move rfl) ?_)
    (refine KL.v rfl (Val.move rfl) ?_)
    (refine KL.callc rfl rfl byEvL fun T hT => ?_)
    refine (CallV.pure fun w hw => CallV.fn (Depths_K (hG.only hw.old) (hR.only hw.old) (hL.only hw.old) hl1 hg1 hbb)).mono ?_
    rintro _ _ ⟨_, ⟨oD, okD, rfl, rfl⟩, rfl⟩
    refine hT _ _ ?_; clear hT; clear T
    (refine KL.v rfl (Val.move rfl) ?_)
    (refine KL.v rfl (Val.move rfl) ?_)
    (refine KL.callc rfl rfl byEvL fun T hT => ?_)
    refine (CallV.pure fun w hw => CallV.fn (Reach_K (hG.only hw.old) (hR.only hw.old) (hL.only hw.old) hl1 hg1 hbb)).mono ?_
    rintro _ _ ⟨_, ⟨oR, okR, rfl, rfl⟩, rfl⟩
    refine hT _ _ ?_
    clear hT T
    refine KL.part (oH boE 4 (reachP rows l) oR ++ (oH iE 3 (depthsP rows l) oD ++ (oH iE 3 (wayP rows l to) oW ++ []))) (by rw [List.append_nil]; exact Part.all) ?_
    by_cases h0 : 0 ≤ to
    · by_cases h1 : to < (gs.length : Nat)
      · obtain ⟨q, rfl⟩ : ∃ q : Nat, to = (q : Int) := ⟨to.toNat, by omega⟩
        have hq : q < rows.length := by omega
        have hnd : Nd rows (q : Int) := ⟨by omega, by omega⟩
        obtain ⟨d, hd, hD, hrd⟩ := depths_get (frm := l) hq
        have hqd : q < (depthsP rows l).length := by omega
        have hqr : q < (reachP rows l).length := by omega
        have hwl : (wayP rows l (q : Int)).length = (d + 1).toNat := by
          unfold wayP; rw [if_pos ⟨by omega, by omega⟩, way_len]; simp [dAt, hd]
        have hn1 : ¬ (((depthsP rows l).length : Nat) : Int) ≠ (gs.length : Nat) := by omega
        have hn2 : ¬ (((reachP rows l).length : Nat) : Int) ≠ (gs.length : Nat) := by omega
        have hd1 : -1 ≤ d ∧ d ≤ 40 := by
          rcases hD with ⟨j, rfl, h⟩ | ⟨rfl, _⟩
          · have : IsD rows l (q : Int) (j : Int) := .inl ⟨j, rfl, h⟩
            have := this.le
            omega
          · omega
        have hn3 : ¬ (((wayP rows l (q : Int)).length : Nat) : Int) ≠ d + 1 := by omega
        by_cases hd0 : 0 ≤ d
        · rw [decide_eq_true hd0] at hrd
          obtain ⟨k, rfl⟩ : ∃ k : Nat, d = (k : Int) := ⟨d.toNat, by omega⟩
          have hwp : wayP rows l (q : Int) = wayGo rows (q : Int) (k + 1) l := by
            unfold wayP; rw [if_pos ⟨by omega, by omega⟩]; simp [dAt, hd]
          obtain ⟨⟨x, hx, hxl, hxn⟩, hlast, hch⟩ := way_ok k l (cand_from hD)
          rw [← hwp] at hx hlast hch
          have hwl' : (wayP rows l (q : Int)).length = k + 1 := by omega
          have hlast' : (wayP rows l (q : Int))[((((wayP rows l (q : Int)).length : Nat) : Int) - 1).toNat]? = some (q : Int) := by rw [show ((((wayP rows l (q : Int)).length : Nat) : Int) - 1).toNat = k by omega]; exact hlast
          have hd0' : (k : Int) ≥ 0 := by omega
          (refine KL.v rfl (Val.assign rfl) ?_)
          (refine KL.v rfl (Val.assign rfl) ?_)
          (refine KL.v rfl (Val.assign rfl) ?_)
          refine KL.nil ?_
          refine KE.next ?_
          refine K.seq ?_
          refine K.seq ?_
          refine K.region ?_
          (refine KL.v rfl (Val.move rfl) ?_)
          (refine KL.v rfl (Val.isF (Val.lss rfl rfl) byLt) ?_)
          (refine KL.v rfl (Val.move rfl) ?_)
          (refine KL.yes rfl rfl ?_; refine KL.v rfl (Val.move rfl) ?_)
          (refine KL.yes rfl rfl ?_; refine KL.v rfl (Val.move rfl) ?_)
          (refine KL.yes rfl rfl ?_; refine KL.v rfl (Val.lenSl rfl rfl bySli) ?_)
          (refine KL.yes rfl rfl ?_; refine KL.v rfl (Val.isF (Val.geq rfl rfl) byLt) ?_)
          (refine KL.v rfl (Val.pickF rfl rfl rfl) ?_)
          refine KL.nil ?_
          refine KE.next ?_
          refine K.condF rfl ?_
          refine K.skip ?_
          refine KE.next ?_
          refine K.seq ?_
          refine K.seq ?_
          refine K.drawn _ ((0, 0) :: (1, 0) :: (2, 0) :: (3, 0) :: (4, 0) :: (5, 0) :: (6, 0) :: (7, 0) :: (8, 0) :: (9, 0) :: (10, 0) :: (11, 0) :: (12, 0) :: (13, 0) :: (14, 0) :: (15, 0) :: (16, 0) :: (17, 0) :: (18, 0) :: (19, 0) :: (20, 0) :: (21, 0) :: (22, 0) :: (23, 0) :: (24, 0) :: (25, 0) :: (26, 0) :: (27, 0) :: (28, 0) :: (29, 0) :: (30, 0) :: (31, 0) :: (32, 0) :: (33, 0) :: []) (by kernel_rfl) (by kernel_rfl) (by kernel_rfl) (by kernel_rfl) (by kernel_rfl) (by kernel_rfl) Part.all ?_
          refine KD.v0 rfl rfl (Val.move rfl) ?_
          refine KD.v0 rfl rfl (Val.lenSl rfl rfl bySli) ?_
          refine KD.v0 rfl rfl (Val.move rfl) ?_
          refine KD.v0 rfl rfl (Val.lenSl rfl rfl bySli) ?_
          refine KD.v0 rfl rfl (Val.isF (Val.neq rfl rfl) byLt) ?_
          refine KD.v0 rfl rfl (Val.move rfl) ?_
          refine KD.y0 rfl rfl rfl rfl (Val.move rfl) ?_
          refine KD.y0 rfl rfl rfl rfl (Val.lenSl rfl rfl bySli) ?_
          refine KD.y0 rfl rfl rfl rfl (Val.move rfl) ?_
          refine KD.y0 rfl rfl rfl rfl (Val.lenSl rfl rfl bySli) ?_
          refine KD.y0 rfl rfl rfl rfl (Val.isF (Val.neq rfl rfl) byLt) ?_
          refine KD.v0 rfl rfl (Val.pickF rfl rfl rfl) ?_
          refine KD.v0 rfl rfl (Val.move rfl) ?_
          refine KD.y0 rfl rfl rfl rfl (Val.move rfl) ?_
          refine KD.y0 rfl rfl rfl rfl (Val.move rfl) ?_
          refine KD.y0 rfl rfl rfl rfl (Val.idxSl rfl rfl rfl bySli rfl byLt) ?_
          refine KD.y0 rfl rfl rfl rfl (Val.loadP rfl rfl bySee) ?_
          refine KD.y0 rfl rfl rfl rfl (Val.move rfl) ?_
          refine KD.y0 rfl rfl rfl rfl (Val.move rfl) ?_
          refine KD.y0 rfl rfl rfl rfl (Val.idxSl rfl rfl rfl bySli rfl byLt) ?_
          refine KD.y0 rfl rfl rfl rfl (Val.loadP rfl rfl bySee) ?_
          refine KD.y0 rfl rfl rfl rfl (Val.isT (Val.geq rfl rfl) byLt) ?_
          refine KD.y0 rfl rfl rfl rfl (Val.neqB rfl rfl rfl) ?_
          refine KD.v0 rfl rfl (Val.pickF rfl rfl rfl) ?_
          refine KD.v0 rfl rfl (Val.move rfl) ?_
          refine KD.y0 rfl rfl rfl rfl (Val.move rfl) ?_
          refine KD.y0 rfl rfl rfl rfl (Val.lenSl rfl rfl bySli) ?_
          refine KD.y0 rfl rfl rfl rfl (Val.move rfl) ?_
          refine KD.y0 rfl rfl rfl rfl (Val.move rfl) ?_
          refine KD.y0 rfl rfl rfl rfl (Val.idxSl rfl rfl rfl bySli rfl byLt) ?_
          refine KD.y0 rfl rfl rfl rfl (Val.loadP rfl rfl bySee) ?_
          refine KD.y0 rfl rfl rfl rfl (Val.add rfl rfl (by simp only [Go.Proofs.Ytfgmofaadcbokaa.lo, Go.Proofs.Ytfgmofaadcbokaa.hi]; omega)) ?_
          refine KD.y0 rfl rfl rfl rfl (Val.isF (Val.neq rfl rfl) byLt) ?_
          refine KD.v0 rfl rfl (Val.pickF rfl rfl rfl) ?_
          refine KD.nil ?_
          refine KE.next ?_
          refine K.condF rfl ?_
          refine K.skip ?_
          refine KE.next ?_
          refine K.seq ?_
          refine K.seq ?_
          refine K.region ?_
          (refine KL.v rfl (Val.move rfl) ?_)
          (refine KL.v rfl (Val.lenSl rfl rfl bySli) ?_)
          (refine KL.v rfl (Val.isF (Val.eql rfl rfl) byLt) ?_)
          refine KL.nil ?_
          refine KE.next ?_
          refine K.condF rfl ?_
          refine K.skip ?_
          refine KE.next ?_
          refine K.seq ?_
          refine K.seq ?_
          refine K.region ?_
          (refine KL.v rfl (Val.move rfl) ?_)
          (refine KL.v rfl (Val.move rfl) ?_)
          (refine KL.v rfl (Val.idxSlZ rfl rfl rfl bySli rfl (by omega)) ?_)
          (refine KL.v rfl (Val.loadP rfl rfl bySee) ?_)
          (refine KL.callc rfl rfl byEvL fun T hT => ?_)
          (refine (CallV.fn (Has_T bySli (by assumption) (by assumption))).mono ?_; rintro _ _ ⟨rfl, rfl⟩)
          (refine hT _ _ ?_; clear hT; clear T)
          (refine KL.v rfl (Val.notT rfl) ?_)
          (refine KL.v rfl (Val.move rfl) ?_)
          (refine KL.yes rfl rfl ?_; refine KL.v rfl (Val.move rfl) ?_)
          (refine KL.yes rfl rfl ?_; refine KL.v rfl (Val.move rfl) ?_)
          (refine KL.yes rfl rfl ?_; refine KL.v rfl (Val.lenSl rfl rfl bySli) ?_)
          (refine KL.yes rfl rfl ?_; refine KL.v rfl (Val.sub rfl rfl (by simp only [Go.Proofs.Ytfgmofaadcbokaa.lo, Go.Proofs.Ytfgmofaadcbokaa.hi]; omega)) ?_)
          (refine KL.yes rfl rfl ?_; refine KL.v rfl (Val.idxSlZ rfl rfl rfl bySli rfl (by omega)) ?_)
          (refine KL.yes rfl rfl ?_; refine KL.v rfl (Val.loadP rfl rfl bySee) ?_)
          (refine KL.yes rfl rfl ?_; refine KL.v rfl (Val.move rfl) ?_)
          (refine KL.yes rfl rfl ?_; refine KL.v rfl (Val.isF (Val.neq rfl rfl) byLt) ?_)
          (refine KL.v rfl (Val.pickF rfl rfl rfl) ?_)
          refine KL.nil ?_
          refine KE.next ?_
          refine K.condF rfl ?_
          refine K.skip ?_
          refine KE.next ?_
          refine K.seq ?_
          refine K.seq ?_
          refine K.region ?_
          (refine KL.v rfl (Val.assign rfl) ?_)
          refine KL.nil ?_
          refine KE.next ?_
          refine K.block ?_
          refine K.loopT (σ := Nat) [(0, _), (7, _)] (fun s kp_ => (10, .int .i64 (s : Nat)) :: kp_) (fun s => oH boE 4 (reachP rows l) oR ++ (oH iE 3 (depthsP rows l) oD ++ (oH iE 3 (wayP rows l (q : Int)) oW ++ []))) (fun s => s ≤ k) (fun s => k - s) (0) bySub byPart (Nat.zero_le _) ?_
          rintro i hi
          by_cases hik : i < k
          · obtain ⟨a, ha⟩ := get_of_lt (l := wayP rows l (q : Int)) (k := i) (by omega)
            obtain ⟨b, hb'⟩ := get_of_lt (l := wayP rows l (q : Int)) (k := i + 1) (by omega)
            obtain ⟨han, hba⟩ := hch i a b ha hb'
            obtain ⟨a, rfl, hal⟩ := han.nat
            obtain ⟨r, hr⟩ := get_of_lt hal
            obtain ⟨p, hp⟩ := get_of_lt (l := gs) (k := a) (by omega)
            have hrow := hR.row a p r hp hr
            have hrl := hbb r (List.mem_of_getElem? hr)
            have hrl' : r.length ≤ 100000 := by omega
            have hbr : b ∈ r := by simpa [rowP, hr] using hba
            have hag : a < gs.length := by omega
            have hiw : i < (wayP rows l (q : Int)).length := by omega
            have ha0 : ¬ (a : Int) < 0 := by omega
            have ha1 : ¬ (a : Int) ≥ (gs.length : Nat) := by omega
            have hb2 : (wayP rows l (q : Int))[((i : Int) + 1).toNat]? = some b := by rw [show ((i : Int) + 1).toNat = i + 1 by omega]; exact hb'
            refine K.seq ?_
            refine K.seq ?_
            refine K.region ?_
            (refine KL.v rfl (Val.move rfl) ?_)
            (refine KL.v rfl (Val.add rfl rfl (by simp only [Go.Proofs.Ytfgmofaadcbokaa.lo, Go.Proofs.Ytfgmofaadcbokaa.hi]; omega)) ?_)
            (refine KL.v rfl (Val.move rfl) ?_)
            (refine KL.v rfl (Val.lenSl rfl rfl bySli) ?_)
            (refine KL.v rfl (Val.isT (Val.lss rfl rfl) byLt) ?_)
            refine KL.nil ?_
            refine KE.next ?_
            refine K.condT rfl ?_
            refine K.skip ?_
            refine KE.next ?_
            refine K.seq ?_
            refine K.block ?_
            refine K.seq ?_
            refine K.drawn _ [(0, 0), (1, 0), (2, 0), (3, 0), (4, 0), (5, 0), (6, 0), (7, 0), (8, 0), (9, 0), (10, 0), (11, 0), (12, 0), (13, 0), (14, 0), (15, 0), (16, 0), (17, 0), (18, 0), (19, 0), (20, 0), (21, 0), (22, 0), (23, 0), (24, 0), (25, 0), (26, 0), (27, 2), (28, 0), (29, 0)] (by kernel_rfl) (by kernel_rfl) (by kernel_rfl) (by kernel_rfl) (by kernel_rfl) (by kernel_rfl) Part.all ?_
            refine KD.v0 rfl rfl (Val.move rfl) ?_
            refine KD.v0 rfl rfl (Val.move rfl) ?_
            refine KD.v0 rfl rfl (Val.idxSl rfl rfl rfl bySli rfl byLt) ?_
            refine KD.v0 rfl rfl (Val.loadP rfl rfl bySee) ?_
            refine KD.v0 rfl rfl (Val.isF (Val.lss rfl rfl) byLt) ?_
            refine KD.v0 rfl rfl (Val.move rfl) ?_
            refine KD.y0 rfl rfl rfl rfl (Val.move rfl) ?_
            refine KD.y0 rfl rfl rfl rfl (Val.move rfl) ?_
            refine KD.y0 rfl rfl rfl rfl (Val.idxSl rfl rfl rfl bySli rfl byLt) ?_
            refine KD.y0 rfl rfl rfl rfl (Val.loadP rfl rfl bySee) ?_
            refine KD.y0 rfl rfl rfl rfl (Val.move rfl) ?_
            refine KD.y0 rfl rfl rfl rfl (Val.lenSl rfl rfl bySli) ?_
            refine KD.y0 rfl rfl rfl rfl (Val.isF (Val.geq rfl rfl) byLt) ?_
            refine KD.v0 rfl rfl (Val.pickF rfl rfl rfl) ?_
            refine KD.v0 rfl rfl (Val.move rfl) ?_
            refine KD.y0 rfl rfl rfl rfl (Val.move rfl) ?_
            refine KD.y0 rfl rfl rfl rfl (Val.move rfl) ?_
            refine KD.y0 rfl rfl rfl rfl (Val.move rfl) ?_
            refine KD.y0 rfl rfl rfl rfl (Val.idxSl rfl rfl rfl bySli rfl byLt) ?_
            refine KD.y0 rfl rfl rfl rfl (Val.loadP rfl rfl bySee) ?_
            refine KD.y0 rfl rfl rfl rfl (Val.idxSl rfl rfl rfl bySli rfl byLt) ?_
            refine KD.y0 rfl rfl rfl rfl (Val.loadP rfl rfl bySee) ?_
            refine KD.y0 rfl rfl rfl rfl (Val.move rfl) ?_
            refine KD.y0 rfl rfl rfl rfl (Val.move rfl) ?_
            refine KD.y0 rfl rfl rfl rfl (Val.add rfl rfl (by simp only [Go.Proofs.Ytfgmofaadcbokaa.lo, Go.Proofs.Ytfgmofaadcbokaa.hi]; omega)) ?_
            refine KD.y0 rfl rfl rfl rfl (Val.idxSlZ rfl rfl rfl bySli rfl (by omega)) ?_
            refine KD.y0 rfl rfl rfl rfl (Val.loadP rfl rfl bySee) ?_
            refine KD.callcY rfl rfl rfl rfl rfl byEvL fun T hT => ?_
            (refine (CallV.fn (Has_T bySli (by assumption) (by assumption))).mono ?_; rintro _ _ ⟨rfl, rfl⟩)
            (refine hT _ _ byPart ?_; clear hT; clear T)
            refine KD.y0 rfl rfl rfl rfl (Val.notT rfl) ?_
            refine KD.v0 rfl rfl (Val.pickF rfl rfl rfl) ?_
            refine KD.nil ?_
            refine KE.next ?_
            refine K.condF rfl ?_
            refine K.skip ?_
            refine KE.blkN ?_
            refine KE.next ?_
            refine K.region ?_
            (refine KL.v rfl (Val.move rfl) ?_)
            (refine KL.v rfl (Val.add rfl rfl (by simp only [Go.Proofs.Ytfgmofaadcbokaa.lo, Go.Proofs.Ytfgmofaadcbokaa.hi]; omega)) ?_)
            (refine KL.v rfl (Val.assign rfl) ?_)
            refine KL.nil ?_
            exact KE.again (i + 1) bySub byPart (by omega) (by omega)
          · skip
            refine K.seq ?_
            refine K.seq ?_
            refine K.region ?_
            (refine KL.v rfl (Val.move rfl) ?_)
            (refine KL.v rfl (Val.add rfl rfl (by simp only [Go.Proofs.Ytfgmofaadcbokaa.lo, Go.Proofs.Ytfgmofaadcbokaa.hi]; omega)) ?_)
            (refine KL.v rfl (Val.move rfl) ?_)
            (refine KL.v rfl (Val.lenSl rfl rfl bySli) ?_)
            (refine KL.v rfl (Val.isF (Val.lss rfl rfl) byLt) ?_)
            refine KL.nil ?_
            refine KE.next ?_
            refine K.condF rfl ?_
            refine K.exit ?_
            refine KE.passX ?_
            refine KE.passX ?_
            refine KE.blkX ?_
            refine KE.next ?_
            refine K.seq ?_
            refine K.region ?_
            (refine KL.callc rfl rfl byEvL fun T hT => ?_)
            (refine (CallV.fn awake_K).mono ?_; rintro _ _ ⟨rfl, rfl⟩)
            (refine hT _ _ ?_; clear hT; clear T)
            (refine KL.v rfl (Val.assign rfl) ?_)
            refine KL.nil ?_
            refine KE.next ?_
            refine K.ret ?_
            exact KE.fin byMarks rfl byRes byPart ⟨rfl, rfl⟩
        · rw [decide_eq_false hd0] at hrd
          have hd00 : d = -1 := by omega
          have hw0 : (wayP rows l (q : Int)).length = 0 := by omega
          (refine KL.v rfl (Val.assign rfl) ?_)
          (refine KL.v rfl (Val.assign rfl) ?_)
          (refine KL.v rfl (Val.assign rfl) ?_)
          refine KL.nil ?_
          refine KE.next ?_
          refine K.seq ?_
          refine K.seq ?_
          refine K.region ?_
          (refine KL.v rfl (Val.move rfl) ?_)
          (refine KL.v rfl (Val.isF (Val.lss rfl rfl) byLt) ?_)
          (refine KL.v rfl (Val.move rfl) ?_)
          (refine KL.yes rfl rfl ?_; refine KL.v rfl (Val.move rfl) ?_)
          (refine KL.yes rfl rfl ?_; refine KL.v rfl (Val.move rfl) ?_)
          (refine KL.yes rfl rfl ?_; refine KL.v rfl (Val.lenSl rfl rfl bySli) ?_)
          (refine KL.yes rfl rfl ?_; refine KL.v rfl (Val.isF (Val.geq rfl rfl) byLt) ?_)
          (refine KL.v rfl (Val.pickF rfl rfl rfl) ?_)
          refine KL.nil ?_
          refine KE.next ?_
          refine K.condF rfl ?_
          refine K.skip ?_
          refine KE.next ?_
          refine K.seq ?_
          refine K.seq ?_
          refine K.drawn _ ((0, 0) :: (1, 0) :: (2, 0) :: (3, 0) :: (4, 0) :: (5, 0) :: (6, 0) :: (7, 0) :: (8, 0) :: (9, 0) :: (10, 0) :: (11, 0) :: (12, 0) :: (13, 0) :: (14, 0) :: (15, 0) :: (16, 0) :: (17, 0) :: (18, 0) :: (19, 0) :: (20, 0) :: (21, 0) :: (22, 0) :: (23, 0) :: (24, 0) :: (25, 0) :: (26, 0) :: (27, 0) :: (28, 0) :: (29, 0) :: (30, 0) :: (31, 0) :: (32, 0) :: (33, 0) :: []) (by kernel_rfl) (by kernel_rfl) (by kernel_rfl) (by kernel_rfl) (by kernel_rfl) (by kernel_rfl) Part.all ?_
          refine KD.v0 rfl rfl (Val.move rfl) ?_
          refine KD.v0 rfl rfl (Val.lenSl rfl rfl bySli) ?_
          refine KD.v0 rfl rfl (Val.move rfl) ?_
          refine KD.v0 rfl rfl (Val.lenSl rfl rfl bySli) ?_
          refine KD.v0 rfl rfl (Val.isF (Val.neq rfl rfl) byLt) ?_
          refine KD.v0 rfl rfl (Val.move rfl) ?_
          refine KD.y0 rfl rfl rfl rfl (Val.move rfl) ?_
          refine KD.y0 rfl rfl rfl rfl (Val.lenSl rfl rfl bySli) ?_
          refine KD.y0 rfl rfl rfl rfl (Val.move rfl) ?_
          refine KD.y0 rfl rfl rfl rfl (Val.lenSl rfl rfl bySli) ?_
          refine KD.y0 rfl rfl rfl rfl (Val.isF (Val.neq rfl rfl) byLt) ?_
          refine KD.v0 rfl rfl (Val.pickF rfl rfl rfl) ?_
          refine KD.v0 rfl rfl (Val.move rfl) ?_
          refine KD.y0 rfl rfl rfl rfl (Val.move rfl) ?_
          refine KD.y0 rfl rfl rfl rfl (Val.move rfl) ?_
          refine KD.y0 rfl rfl rfl rfl (Val.idxSl rfl rfl rfl bySli rfl byLt) ?_
          refine KD.y0 rfl rfl rfl rfl (Val.loadP rfl rfl bySee) ?_
          refine KD.y0 rfl rfl rfl rfl (Val.move rfl) ?_
          refine KD.y0 rfl rfl rfl rfl (Val.move rfl) ?_
          refine KD.y0 rfl rfl rfl rfl (Val.idxSl rfl rfl rfl bySli rfl byLt) ?_
          refine KD.y0 rfl rfl rfl rfl (Val.loadP rfl rfl bySee) ?_
          refine KD.y0 rfl rfl rfl rfl (Val.isF (Val.geq rfl rfl) byLt) ?_
          refine KD.y0 rfl rfl rfl rfl (Val.neqB rfl rfl rfl) ?_
          refine KD.v0 rfl rfl (Val.pickF rfl rfl rfl) ?_
          refine KD.v0 rfl rfl (Val.move rfl) ?_
          refine KD.y0 rfl rfl rfl rfl (Val.move rfl) ?_
          refine KD.y0 rfl rfl rfl rfl (Val.lenSl rfl rfl bySli) ?_
          refine KD.y0 rfl rfl rfl rfl (Val.move rfl) ?_
          refine KD.y0 rfl rfl rfl rfl (Val.move rfl) ?_
          refine KD.y0 rfl rfl rfl rfl (Val.idxSl rfl rfl rfl bySli rfl byLt) ?_
          refine KD.y0 rfl rfl rfl rfl (Val.loadP rfl rfl bySee) ?_
          refine KD.y0 rfl rfl rfl rfl (Val.add rfl rfl (by simp only [Go.Proofs.Ytfgmofaadcbokaa.lo, Go.Proofs.Ytfgmofaadcbokaa.hi]; omega)) ?_
          refine KD.y0 rfl rfl rfl rfl (Val.isF (Val.neq rfl rfl) byLt) ?_
          refine KD.v0 rfl rfl (Val.pickF rfl rfl rfl) ?_
          refine KD.nil ?_
          refine KE.next ?_
          refine K.condF rfl ?_
          refine K.skip ?_
          refine KE.next ?_
          refine K.seq ?_
          refine K.seq ?_
          refine K.region ?_
          (refine KL.v rfl (Val.move rfl) ?_)
          (refine KL.v rfl (Val.lenSl rfl rfl bySli) ?_)
          (refine KL.v rfl (Val.isT (Val.eql rfl rfl) byLt) ?_)
          refine KL.nil ?_
          refine KE.next ?_
          refine K.condT rfl ?_
          refine K.seq ?_
          refine K.region ?_
          (refine KL.callc rfl rfl byEvL fun T hT => ?_)
          (refine (CallV.fn awake_K).mono ?_; rintro _ _ ⟨rfl, rfl⟩)
          (refine hT _ _ ?_; clear hT; clear T)
          (refine KL.v rfl (Val.assign rfl) ?_)
          refine KL.nil ?_
          refine KE.next ?_
          refine K.ret ?_
          refine KE.passR ?_
          exact KE.fin byMarks rfl byRes byPart ⟨rfl, rfl⟩
      · have hwp : wayP rows l to = [] := by unfold wayP; rw [if_neg (by omega)]
        have hw0 : (wayP rows l to).length = 0 := by rw [hwp]; rfl
        have hw1 : (((wayP rows l to).length : Nat) : Int) = 0 := by omega
        (refine KL.v rfl (Val.assign rfl) ?_)
        (refine KL.v rfl (Val.assign rfl) ?_)
        (refine KL.v rfl (Val.assign rfl) ?_)
        refine KL.nil ?_
        refine KE.next ?_
        refine K.seq ?_
        refine K.seq ?_
        refine K.region ?_
        (refine KL.v rfl (Val.move rfl) ?_)
        (refine KL.v rfl (Val.isF (Val.lss rfl rfl) byLt) ?_)
        (refine KL.v rfl (Val.move rfl) ?_)
        (refine KL.yes rfl rfl ?_; refine KL.v rfl (Val.move rfl) ?_)
        (refine KL.yes rfl rfl ?_; refine KL.v rfl (Val.move rfl) ?_)
        (refine KL.yes rfl rfl ?_; refine KL.v rfl (Val.lenSl rfl rfl bySli) ?_)
        (refine KL.yes rfl rfl ?_; refine KL.v rfl (Val.isT (Val.geq rfl rfl) byLt) ?_)
        (refine KL.v rfl (Val.pickF rfl rfl rfl) ?_)
        refine KL.nil ?_
        refine KE.next ?_
        refine K.condT rfl ?_
        refine K.seq ?_
        refine K.region ?_
        (refine KL.v rfl (Val.move rfl) ?_)
        (refine KL.v rfl (Val.lenSl rfl rfl bySli) ?_)
        (refine KL.v rfl (Val.isT (Val.eql rfl rfl) byLt) ?_)
        (refine KL.v rfl (Val.move rfl) ?_)
        (refine KL.yes rfl rfl ?_; refine KL.callc rfl rfl byEvL fun T hT => ?_)
        (refine (CallV.fn awake_K).mono ?_; rintro _ _ ⟨rfl, rfl⟩)
        (refine hT _ _ ?_; clear hT; clear T)
        (refine KL.v rfl (Val.pickT rfl rfl rfl) ?_)
        (refine KL.v rfl (Val.assign rfl) ?_)
        refine KL.nil ?_
        refine KE.next ?_
        refine K.ret ?_
        refine KE.passR ?_
        exact KE.fin byMarks rfl byRes byPart ⟨rfl, rfl⟩
    · have hwp : wayP rows l to = [] := by unfold wayP; rw [if_neg (by omega)]
      have hw0 : (wayP rows l to).length = 0 := by rw [hwp]; rfl
      have hw1 : (((wayP rows l to).length : Nat) : Int) = 0 := by omega
      (refine KL.v rfl (Val.assign rfl) ?_)
      (refine KL.v rfl (Val.assign rfl) ?_)
      (refine KL.v rfl (Val.assign rfl) ?_)
      refine KL.nil ?_
      refine KE.next ?_
      refine K.seq ?_
      refine K.seq ?_
      refine K.region ?_
      (refine KL.v rfl (Val.move rfl) ?_)
      (refine KL.v rfl (Val.isT (Val.lss rfl rfl) byLt) ?_)
      (refine KL.v rfl (Val.move rfl) ?_)
      refine KL.skipG rfl rfl rfl ?_
      refine KL.skipG rfl rfl rfl ?_
      refine KL.skipG rfl rfl rfl ?_
      refine KL.skipG rfl rfl rfl ?_
      (refine KL.v rfl (Val.pickT rfl rfl rfl) ?_)
      refine KL.nil ?_
      refine KE.next ?_
      refine K.condT rfl ?_
      refine K.seq ?_
      refine K.region ?_
      (refine KL.v rfl (Val.move rfl) ?_)
      (refine KL.v rfl (Val.lenSl rfl rfl bySli) ?_)
      (refine KL.v rfl (Val.isT (Val.eql rfl rfl) byLt) ?_)
      (refine KL.v rfl (Val.move rfl) ?_)
      (refine KL.yes rfl rfl ?_; refine KL.callc rfl rfl byEvL fun T hT => ?_)
      (refine (CallV.fn awake_K).mono ?_; rintro _ _ ⟨rfl, rfl⟩)
      (refine hT _ _ ?_; clear hT; clear T)
      (refine KL.v rfl (Val.pickT rfl rfl rfl) ?_)
      (refine KL.v rfl (Val.assign rfl) ?_)
      refine KL.nil ?_
      refine KE.next ?_
      refine K.ret ?_
      refine KE.passR ?_
      exact KE.fin byMarks rfl byRes byPart ⟨rfl, rfl⟩
theorem graphWays_call {H : Type} {enc : TypeId × Value → H} (W : World) (base : Nat) (v0 v1 v2 : Value) {d0 d1 d2 : DataW H} {p0 p1 p2 : List MemPlace}
    (o0 : Value.okWide Try.prog W .any base 22 v0) (h0 : DataW.Trod enc Try.prog W 0 (fun _ => true) true 22 v0 d0 p0) (z0 : ∀ n ∈ d0.weights Try.prog 22, n ≤ reachBytes)
    (o1 : Value.okWide Try.prog W .any base 23 v1) (h1 : DataW.Trod enc Try.prog W 0 (fun _ => true) true 23 v1 d1 p1)
    (o2 : Value.okWide Try.prog W .any base 3 v2) (h2 : DataW.Trod enc Try.prog W 0 (fun _ => true) true 3 v2 d2 p2) :
    Calls Try.prog 6 #[v0, v1, v2] W (AwakeEnd W) := by
  obtain ⟨gs, rows, hG, hR, hb⟩ := graph_sl o0 h0 z0
  obtain ⟨l, hL, _⟩ := ints_sl o1 h1
  obtain ⟨x, rfl, hx⟩ := okWide_int Try.underlying3 o2
  exact (graphWays_K hG hR hL hb).calls
end Go.Proofs.Ytfgmofaadcbokaa
