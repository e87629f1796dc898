/- Graph: the document's next, Way, Closed. -/
import Derived.Test.YtfgmofaadcbokaaGrR3
namespace Go.Proofs.Ytfgmofaadcbokaa
open Go.RowKit
set_option linter.unusedVariables false
set_option linter.unusedSimpArgs false

theorem pick_eq {rows : List (List Int)} {to : Int} {k : Nat} {sm : List Int} {n : Nat} (hn : (n : Int) ∈ candP rows to k sm) (hl : ∀ y : Nat, y < n → (y : Int) ∉ candP rows to k sm) : pickP rows to k sm = (n : Int) := by
  have hs : (candP rows to k sm).Pairwise (· < ·) := (hereP_sorted _ _).filter _
  have hp := pick_mem (List.ne_nil_of_mem hn)
  obtain ⟨y, hy, _⟩ := (mem_cand.1 hp).2.1.nat
  have h1 : ¬ y < n := fun h => hl y h (hy ▸ hp)
  unfold pickP at hp hy ⊢
  cases hc : candP rows to k sm with
  | nil => rw [hc] at hn; cases hn
  | cons z l =>
    rw [hc] at hn hs hy
    simp only [List.headD_cons] at hy ⊢
    rcases List.mem_cons.1 hn with h | h
    · exact h.symm
    · have := (List.pairwise_cons.1 hs).1 _ h
      omega
theorem pick_none {rows : List (List Int)} {to : Int} {k : Nat} {sm : List Int} (hl : ∀ y : Nat, y < rows.length → (y : Int) ∉ candP rows to k sm) : pickP rows to k sm = -1 := by
  have : candP rows to k sm = [] := List.eq_nil_iff_forall_not_mem.2 fun x hx => by
    obtain ⟨y, rfl, hy⟩ := (mem_cand.1 hx).2.1.nat
    exact hl y hy hx
  simp [pickP, this]

set_option maxRecDepth 10000 in
set_option maxHeartbeats 1000000 in
theorem Rnext_K {w0 : World} {vg vl : Value} {gs : List SV} {rows : List (List Int)} {l : List Int} {to k : Nat} (hG : SlW w0 svE vg gs) (hR : RowsI w0 gs rows) (hL : SlW w0 iE vl l) (hl : l.length ≤ 100000) (hn : gs.length ≤ 100) (hb : ∀ r ∈ rows, r.length ≤ 1000) (hto : to < rows.length) :
    Call Try.prog w0 30 [vg, vl, .int .i64 (to : Nat), .int .i64 (k : Nat)] [] (fun r H' => r = .int .i64 (pickP rows (to : Int) k l) ∧ H' = []) := by
  refine Call.enter4 (n := 31) (by kernel_rfl) Try.func30 rfl rfl rfl ?_
  have hgl := hR.len
  refine K.seq ?_
  refine K.region ?_
  (refine KL.v rfl (Val.assign rfl) ?_)
  refine KL.nil ?_
  refine KE.next ?_
  refine K.seq ?_
  refine K.seq ?_
  refine K.region ?_
  (refine KL.v rfl (Val.assign rfl) ?_)
  refine KL.nil ?_
  refine KE.next ?_
  refine K.block ?_
  refine K.loopT (σ := Nat) [(0, _), (1, _), (2, _), (3, _)] (fun s kp_ => (9, .int .i64 (s : Nat)) :: kp_) (fun s => []) (fun s => s ≤ rows.length ∧ ∀ y : Nat, y < s → (y : Int) ∉ candP rows (to : Int) k l) (fun s => rows.length - s) (0) bySub byPart (⟨by omega, fun y hy => by omega⟩) ?_
  rintro n ⟨hnl, hno⟩
  by_cases hlt : n < rows.length
  · have hnd : Nd rows (n : Int) := ⟨by omega, by omega⟩
    by_cases hm : (n : Int) ∈ l
    · obtain ⟨d, hd, hD, _⟩ := depths_get (rows := rows) (frm := [(n : Int)]) hto
      have hde : dTo rows (to : Int) (n : Int) = d := (dTo_is hnd).uniq hD
      have hdl := depths_len rows [(n : Int)]
      have htl : to < (depthsP rows [(n : Int)]).length := by omega
      by_cases hdk : d = (k : Int)
      · have hc : (n : Int) ∈ candP rows (to : Int) k l := mem_cand.2 ⟨hm, hnd, by rw [hde, hdk]⟩
        have hpk := pick_eq hc hno
        refine K.seq ?_
        refine K.seq ?_
        refine K.region ?_
        (refine KL.v rfl (Val.move rfl) ?_)
        (refine KL.v rfl (Val.move rfl) ?_)
        (refine KL.v rfl (Val.lenSl rfl rfl bySli) ?_)
        (refine KL.v rfl (Val.isT (Val.lss rfl rfl) byLt) ?_)
        refine KL.nil ?_
        refine KE.next ?_
        refine K.condT rfl ?_
        refine K.skip ?_
        refine KE.next ?_
        refine K.seq ?_
        refine K.block ?_
        refine K.seq ?_
        refine K.region ?_
        (refine KL.v rfl (Val.move rfl) ?_)
        (refine KL.v rfl (Val.move rfl) ?_)
        (refine KL.callc rfl rfl byEvL fun T hT => ?_)
        refine (CallV.fn (Has_K (Sli.old hL) hl)).mono ?_
        rintro _ _ ⟨rfl, rfl⟩
        rw [decide_eq_true hm]
        refine hT _ _ ?_; clear hT; clear T
        (refine KL.v rfl (Val.move rfl) ?_)
        (refine KL.yes rfl rfl ?_; refine KL.v rfl (Val.move rfl) ?_)
        (refine KL.yes rfl rfl ?_; refine KL.v rfl (Val.move rfl) ?_)
        (refine KL.yes rfl rfl ?_; refine KL.e rfl (Eff.buildS byParts rfl rfl rfl rfl rfl byFill) ?_; rintro _ _ ⟨b22, rfl, rfl⟩)
        (refine KL.yes rfl rfl ?_; refine KL.callc rfl rfl byEvL fun T hT => ?_)
        refine (CallV.pure fun w hw => CallV.fn (RDepths_K (l := [(n : Int)]) (hG.only hw.old) (hR.only hw.old) ((Sli.blk byTake rfl (by simp) (by simp [maxLen]) rfl : Sli w0 _ iE _ [(n : Int)]) w hw) (by simp) hn hb)).mono ?_
        rintro _ _ ⟨_, ⟨o, ok, rfl, rfl⟩, rfl⟩
        refine hT _ _ ?_; clear hT; clear T
        (refine KL.yes rfl rfl ?_; refine KL.v rfl (Val.move rfl) ?_)
        (refine KL.yes rfl rfl ?_; refine KL.v rfl (Val.idxSl rfl rfl rfl bySli rfl byLt) ?_)
        (refine KL.yes rfl rfl ?_; refine KL.v rfl (Val.loadP rfl rfl bySee) ?_)
        (refine KL.yes rfl rfl ?_; refine KL.v rfl (Val.move rfl) ?_)
        (refine KL.yes rfl rfl ?_; refine KL.v rfl (Val.isT (Val.eql rfl rfl) byLt) ?_)
        (refine KL.v rfl (Val.pickT rfl rfl rfl) ?_)
        refine KL.nil ?_
        refine KE.next ?_
        refine K.condT rfl ?_
        refine K.seq ?_
        refine K.region ?_
        (refine KL.v rfl (Val.move rfl) ?_)
        (refine KL.v rfl (Val.assign rfl) ?_)
        refine KL.nil ?_
        refine KE.next ?_
        refine K.ret ?_
        refine KE.blkR ?_
        refine KE.passR ?_
        refine KE.passR ?_
        refine KE.blkR ?_
        refine KE.passR ?_
        exact KE.fin byMarks rfl byRes byPart ⟨by rw [hpk]; rfl, rfl⟩
      · have hc : (n : Int) ∉ candP rows (to : Int) k l := fun h => hdk (by rw [← hde]; exact (mem_cand.1 h).2.2)
        refine K.seq ?_
        refine K.seq ?_
        refine K.region ?_
        (refine KL.v rfl (Val.move rfl) ?_)
        (refine KL.v rfl (Val.move rfl) ?_)
        (refine KL.v rfl (Val.lenSl rfl rfl bySli) ?_)
        (refine KL.v rfl (Val.isT (Val.lss rfl rfl) byLt) ?_)
        refine KL.nil ?_
        refine KE.next ?_
        refine K.condT rfl ?_
        refine K.skip ?_
        refine KE.next ?_
        refine K.seq ?_
        refine K.block ?_
        refine K.seq ?_
        refine K.region ?_
        (refine KL.v rfl (Val.move rfl) ?_)
        (refine KL.v rfl (Val.move rfl) ?_)
        (refine KL.callc rfl rfl byEvL fun T hT => ?_)
        refine (CallV.fn (Has_K (Sli.old hL) hl)).mono ?_
        rintro _ _ ⟨rfl, rfl⟩
        rw [decide_eq_true hm]
        refine hT _ _ ?_; clear hT; clear T
        (refine KL.v rfl (Val.move rfl) ?_)
        (refine KL.yes rfl rfl ?_; refine KL.v rfl (Val.move rfl) ?_)
        (refine KL.yes rfl rfl ?_; refine KL.v rfl (Val.move rfl) ?_)
        (refine KL.yes rfl rfl ?_; refine KL.e rfl (Eff.buildS byParts rfl rfl rfl rfl rfl byFill) ?_; rintro _ _ ⟨b22, rfl, rfl⟩)
        (refine KL.yes rfl rfl ?_; refine KL.callc rfl rfl byEvL fun T hT => ?_)
        refine (CallV.pure fun w hw => CallV.fn (RDepths_K (l := [(n : Int)]) (hG.only hw.old) (hR.only hw.old) ((Sli.blk byTake rfl (by simp) (by simp [maxLen]) rfl : Sli w0 _ iE _ [(n : Int)]) w hw) (by simp) hn hb)).mono ?_
        rintro _ _ ⟨_, ⟨o, ok, rfl, rfl⟩, rfl⟩
        refine hT _ _ ?_; clear hT; clear T
        (refine KL.yes rfl rfl ?_; refine KL.v rfl (Val.move rfl) ?_)
        (refine KL.yes rfl rfl ?_; refine KL.v rfl (Val.idxSl rfl rfl rfl bySli rfl byLt) ?_)
        (refine KL.yes rfl rfl ?_; refine KL.v rfl (Val.loadP rfl rfl bySee) ?_)
        (refine KL.yes rfl rfl ?_; refine KL.v rfl (Val.move rfl) ?_)
        (refine KL.yes rfl rfl ?_; refine KL.v rfl (Val.isF (Val.eql rfl rfl) byLt) ?_)
        (refine KL.v rfl (Val.pickT rfl rfl rfl) ?_)
        refine KL.nil ?_
        refine KE.next ?_
        refine K.condF rfl ?_
        refine K.skip ?_
        refine KE.blkN ?_
        refine KE.next ?_
        refine K.region ?_
        (refine KL.v rfl (Val.move rfl) ?_)
        (refine KL.v rfl (Val.add rfl rfl (by simp only [Go.Proofs.Ytfgmofaadcbokaa.lo, Go.Proofs.Ytfgmofaadcbokaa.hi]; omega)) ?_)
        (refine KL.v rfl (Val.assign rfl) ?_)
        refine KL.nil ?_
        exact KE.again (n + 1) bySub byPart ⟨by omega, fun y hy => by
          rcases Nat.lt_or_ge y n with h | h
          · exact hno y h
          · have : y = n := by omega
            subst this; exact hc⟩ (by omega)
    · have hc : (n : Int) ∉ candP rows (to : Int) k l := fun h => hm (mem_cand.1 h).1
      refine K.seq ?_
      refine K.seq ?_
      refine K.region ?_
      (refine KL.v rfl (Val.move rfl) ?_)
      (refine KL.v rfl (Val.move rfl) ?_)
      (refine KL.v rfl (Val.lenSl rfl rfl bySli) ?_)
      (refine KL.v rfl (Val.isT (Val.lss rfl rfl) byLt) ?_)
      refine KL.nil ?_
      refine KE.next ?_
      refine K.condT rfl ?_
      refine K.skip ?_
      refine KE.next ?_
      refine K.seq ?_
      refine K.block ?_
      refine K.seq ?_
      refine K.region ?_
      (refine KL.v rfl (Val.move rfl) ?_)
      (refine KL.v rfl (Val.move rfl) ?_)
      (refine KL.callc rfl rfl byEvL fun T hT => ?_)
      refine (CallV.fn (Has_K (Sli.old hL) hl)).mono ?_
      rintro _ _ ⟨rfl, rfl⟩
      rw [decide_eq_false hm]
      refine hT _ _ ?_; clear hT; clear T
      (refine KL.v rfl (Val.move rfl) ?_)
      refine KL.skipG rfl rfl rfl ?_
      refine KL.skipG rfl rfl rfl ?_
      refine KL.skipG rfl rfl rfl ?_
      refine KL.skipG rfl rfl rfl ?_
      refine KL.skipG rfl rfl rfl ?_
      refine KL.skipG rfl rfl rfl ?_
      refine KL.skipG rfl rfl rfl ?_
      refine KL.skipG rfl rfl rfl ?_
      refine KL.skipG rfl rfl rfl ?_
      (refine KL.v rfl (Val.pickF rfl rfl rfl) ?_)
      refine KL.nil ?_
      refine KE.next ?_
      refine K.condF rfl ?_
      refine K.skip ?_
      refine KE.blkN ?_
      refine KE.next ?_
      refine K.region ?_
      (refine KL.v rfl (Val.move rfl) ?_)
      (refine KL.v rfl (Val.add rfl rfl (by simp only [Go.Proofs.Ytfgmofaadcbokaa.lo, Go.Proofs.Ytfgmofaadcbokaa.hi]; omega)) ?_)
      (refine KL.v rfl (Val.assign rfl) ?_)
      refine KL.nil ?_
      exact KE.again (n + 1) bySub byPart ⟨by omega, fun y hy => by
        rcases Nat.lt_or_ge y n with h | h
        · exact hno y h
        · have : y = n := by omega
          subst this; exact hc⟩ (by omega)
  · have hpk := pick_none (rows := rows) (to := (to : Int)) (k := k) (sm := l) (fun y hy => hno y (by omega))
    refine K.seq ?_
    refine K.seq ?_
    refine K.region ?_
    (refine KL.v rfl (Val.move rfl) ?_)
    (refine KL.v rfl (Val.move rfl) ?_)
    (refine KL.v rfl (Val.lenSl rfl rfl bySli) ?_)
    (refine KL.v rfl (Val.isF (Val.lss rfl rfl) byLt) ?_)
    refine KL.nil ?_
    refine KE.next ?_
    refine K.condF rfl ?_
    refine K.exit ?_
    refine KE.passX ?_
    refine KE.passX ?_
    refine KE.blkX ?_
    refine KE.next ?_
    refine K.seq ?_
    refine K.region ?_
    (refine KL.v rfl (Val.assign rfl) ?_)
    refine KL.nil ?_
    refine KE.next ?_
    refine K.ret ?_
    exact KE.fin byMarks rfl byRes byPart ⟨by rw [hpk]; rfl, rfl⟩

structure RwS where
  k : Nat
  sm : List Int
  v : Value
  out : List Int
  o : Own
set_option maxRecDepth 10000 in
set_option maxHeartbeats 1000000 in
theorem RWay_K {w0 : World} {vg vl : Value} {gs : List SV} {rows : List (List Int)} {l : List Int} {to : Int} (hG : SlW w0 svE vg gs) (hR : RowsI w0 gs rows) (hL : SlW w0 iE vl l) (hl : l.length ≤ 100000) (hn : gs.length ≤ 100) (hb : ∀ r ∈ rows, r.length ≤ 1000) :
    Call Try.prog w0 19 [vg, vl, .int .i64 to] [] (fun r H' => ∃ o, oOk iE (wayP rows l to) o ∧ r = oV o (wayP rows l to).length ∧ H' = oH iE 3 (wayP rows l to) o) := by
  refine Call.enter3 (n := 44) (by kernel_rfl) Try.func19 rfl rfl rfl ?_
  have hgl := hR.len
  by_cases h0 : 0 ≤ to
  · by_cases h1 : to < (gs.length : Nat)
    · obtain ⟨q, rfl⟩ : ∃ q : Nat, to = (q : Int) := ⟨to.toNat, by omega⟩
      have hq : q < rows.length := by omega
      obtain ⟨d, hd, hD, _⟩ := depths_get (frm := l) hq
      have hDl := depths_len rows l
      have hql : q < (depthsP rows l).length := by omega
      have hway : wayP rows l (q : Int) = wayGo rows (q : Int) (d + 1).toNat l := by
        unfold wayP; rw [if_pos ⟨by omega, by omega⟩]; simp [dAt, hd]
      obtain ⟨k0, hk0, hk1, hk2⟩ : ∃ k0 : Nat, d = (k0 : Int) - 1 ∧ k0 ≤ 101 ∧ (∀ j, k0 = j + 1 → candP rows (q : Int) j l ≠ []) := by
        rcases hD with ⟨j, rfl, h⟩ | ⟨rfl, _⟩
        · have hDj : IsD rows l (q : Int) (j : Int) := .inl ⟨j, rfl, h⟩
          have := hDj.le
          exact ⟨j + 1, by omega, by omega, fun i hi => by have : i = j := by omega
                                                           subst this; exact cand_from hDj⟩
        · exact ⟨0, by omega, by omega, fun i hi => by omega⟩
      subst hk0
      rw [show ((k0 : Int) - 1 + 1).toNat = k0 by omega] at hway
      refine K.seq ?_
      refine K.region ?_
      (refine KL.v rfl (Val.assign rfl) ?_)
      refine KL.nil ?_
      refine KE.next ?_
      refine K.seq ?_
      refine K.seq ?_
      refine K.region ?_
      (refine KL.v rfl (Val.move rfl) ?_)
      (refine KL.v rfl (Val.isF (Val.lss rfl rfl) byLt) ?_)
      (refine KL.v rfl (Val.move rfl) ?_)
      (refine KL.yes rfl rfl ?_; refine KL.v rfl (Val.move rfl) ?_)
      (refine KL.yes rfl rfl ?_; refine KL.v rfl (Val.move rfl) ?_)
      (refine KL.yes rfl rfl ?_; refine KL.v rfl (Val.lenSl rfl rfl bySli) ?_)
      (refine KL.yes rfl rfl ?_; refine KL.v rfl (Val.isF (Val.geq rfl rfl) byLt) ?_)
      (refine KL.v rfl (Val.pickF rfl rfl rfl) ?_)
      refine KL.nil ?_
      refine KE.next ?_
      refine K.condF rfl ?_
      refine K.skip ?_
      refine KE.next ?_
      refine K.seq ?_
      refine K.region ?_
      (refine KL.v rfl (Val.move rfl) ?_)
      (refine KL.v rfl (Val.move rfl) ?_)
      (refine KL.callc rfl rfl byEvL fun T hT => ?_)
      refine (CallV.fn (RDepths_K hG hR hL hl hn hb)).mono ?_
      rintro _ _ ⟨oD, okD, rfl, rfl⟩
      refine hT _ _ ?_; clear hT; clear T
      (refine KL.v rfl (Val.move rfl) ?_)
      (refine KL.v rfl (Val.idxSl rfl rfl rfl bySli rfl byLt) ?_)
      (refine KL.v rfl (Val.loadP rfl rfl bySee) ?_)
      (refine KL.v rfl (Val.assign rfl) ?_)
      refine KL.nil ?_
      refine KE.next ?_
      refine K.seq ?_
      refine K.region ?_
      (refine KL.v rfl (Val.assign rfl) ?_)
      refine KL.nil ?_
      refine KE.next ?_
      refine K.seq ?_
      refine K.region ?_
      (refine KL.v rfl (Val.move rfl) ?_)
      (refine KL.v rfl (Val.assign rfl) ?_)
      refine KL.nil ?_
      refine KE.next ?_
      refine K.seq ?_
      refine K.block ?_
      refine K.loopT (σ := RwS) [(0, _), (2, _)] (fun s kp_ => (7, .int .i64 ((s.k : Int) - 1)) :: (8, oV s.o s.out.length) :: (9, s.v) :: kp_) (fun s => oH iE 3 s.out s.o ++ []) (fun s => SlW w0 iE s.v s.sm ∧ s.sm.length ≤ 100000 ∧ s.out.length + s.k ≤ 200 ∧ wayP rows l (q : Int) = s.out ++ wayGo rows (q : Int) s.k s.sm ∧ oOk iE s.out s.o ∧ (∀ j, s.k = j + 1 → candP rows (q : Int) j s.sm ≠ [])) (fun s => s.k) (⟨k0, l, vl, [], none⟩) bySub byPart (⟨hL, hl, by show 0 + k0 ≤ 200; omega, by simpa using hway, rfl, hk2⟩) ?_
      rintro ⟨k, sm, v, out, o⟩ ⟨hv, hsl, hol, hwy, oko, hc⟩
      dsimp only at hv hsl hol hwy oko hc ⊢
      cases k with
      | zero =>
        have hwo : wayP rows l (q : Int) = out := by rw [hwy]; simp [wayGo]
        refine K.seq ?_
        refine K.seq ?_
        refine K.region ?_
        (refine KL.v rfl (Val.move rfl) ?_)
        (refine KL.v rfl (Val.isF (Val.geq rfl rfl) byLt) ?_)
        refine KL.nil ?_
        refine KE.next ?_
        refine K.condF rfl ?_
        refine K.exit ?_
        refine KE.passX ?_
        refine KE.passX ?_
        refine KE.blkX ?_
        refine KE.next ?_
        refine K.seq ?_
        refine K.region ?_
        (refine KL.v rfl (Val.move rfl) ?_)
        (refine KL.v rfl (Val.assign rfl) ?_)
        refine KL.nil ?_
        refine KE.next ?_
        refine K.ret ?_
        rw [hwo]
        exact KE.fin byMarks rfl byRes byPart ⟨o, oko, rfl, rfl⟩
      | succ k =>
        have hne := hc k rfl
        have e1 : ((k + 1 : Nat) : Int) - 1 = (k : Int) := by omega
        rw [e1]
        obtain ⟨_, hpn, hpd⟩ := mem_cand.1 (pick_mem hne)
        have hcn := fun j (hj : k = j + 1) => cand_next (rows := rows) (to := (q : Int)) (k := j) hpn (by rw [hpd, hj])
        obtain ⟨a, ha, hal⟩ := hpn.nat
        rw [ha] at hcn
        obtain ⟨r, hr⟩ := get_of_lt hal
        obtain ⟨p, hp⟩ := get_of_lt (l := gs) (k := a) (by omega)
        have hrow := hR.row a p r hp hr
        have hrl := hb r (List.mem_of_getElem? hr)
        have hrp : rowP rows (a : Int) = r := by simp [rowP, hr]
        have hag : a < gs.length := by omega
        have hbd : (out ++ [(a : Int)]).length ≤ 4294967296 := by simp; omega
        refine K.seq ?_
        refine K.seq ?_
        refine K.region ?_
        (refine KL.v rfl (Val.move rfl) ?_)
        (refine KL.v rfl (Val.isT (Val.geq rfl rfl) byLt) ?_)
        refine KL.nil ?_
        refine KE.next ?_
        refine K.condT rfl ?_
        refine K.skip ?_
        refine KE.next ?_
        refine K.block ?_
        refine K.seq ?_
        refine K.region ?_
        (refine KL.v rfl (Val.move rfl) ?_)
        (refine KL.v rfl (Val.move rfl) ?_)
        (refine KL.v rfl (Val.move rfl) ?_)
        (refine KL.v rfl (Val.move rfl) ?_)
        (refine KL.callc rfl rfl byEvL fun T hT => ?_)
        refine (CallV.pure fun w hw => CallV.fn (Rnext_K (to := q) (k := k) (hG.only hw.old) (hR.only hw.old) (hv.only hw.old) hsl hn hb hq)).mono ?_
        rintro _ _ ⟨_, ⟨rfl, rfl⟩, rfl⟩
        rw [ha]
        refine hT _ _ ?_; clear hT; clear T
        (refine KL.v rfl (Val.assign rfl) ?_)
        refine KL.nil ?_
        refine KE.next ?_
        refine K.seq ?_
        refine K.region ?_
        (refine KL.v rfl (Val.move rfl) ?_)
        (refine KL.v rfl (Val.move rfl) ?_)
        (refine KL.e rfl (Eff.buildS byParts rfl rfl rfl rfl rfl byFill) ?_; rintro _ _ ⟨b35, rfl, rfl⟩)
        (refine KL.e rfl (Eff.appZ (ys := [_]) rfl rfl rfl rfl rfl rfl byTakeL (by assumption) (by first | exact Sli.blk byTake rfl (by first | decide | simp) (by first | decide | (unfold maxLen; omega)) rfl | exact Sli.old (by assumption) | exact Sli.own byTakeL (by assumption) byLen | assumption | exact Sli.part (by assumption) byPart) rfl (by first | assumption | omega | (simp <;> fail) | (simp; omega)) rfl) ?_; rintro _ _ ⟨o36, ok36, rfl, rfl⟩)
        (refine KL.v rfl (Val.assign rfl) ?_)
        refine KL.nil ?_
        refine KE.next ?_
        refine K.seq ?_
        refine K.region ?_
        (refine KL.v rfl (Val.move rfl) ?_)
        (refine KL.v rfl (Val.move rfl) ?_)
        (refine KL.v rfl (Val.idxSl rfl rfl rfl bySli rfl byLt) ?_)
        (refine KL.v rfl (Val.loadP rfl rfl bySee) ?_)
        (refine KL.v rfl (Val.assign rfl) ?_)
        refine KL.nil ?_
        refine KE.next ?_
        refine K.region ?_
        (refine KL.v rfl (Val.move rfl) ?_)
        (refine KL.v rfl (Val.sub rfl rfl (by simp only [Go.Proofs.Ytfgmofaadcbokaa.lo, Go.Proofs.Ytfgmofaadcbokaa.hi]; omega)) ?_)
        (refine KL.v rfl (Val.assign rfl) ?_)
        refine KL.nil ?_
        refine KE.blkN ?_
        exact KE.again ⟨k, r, _, out ++ [(a : Int)], o36⟩ bySub byPart ⟨hrow, by show r.length ≤ _; omega, by show (out ++ [(a : Int)]).length + k ≤ 200; simp; omega, by show _ = (out ++ [(a : Int)]) ++ wayGo rows (q : Int) k r; rw [hwy]; simp only [wayGo]; rw [ha, hrp]; simp, ok36, fun j hj => by rw [← hrp]; exact hcn j hj⟩ (by show k < k + 1; omega)
    · have hw0 : wayP rows l to = [] := by unfold wayP; rw [if_neg (by omega)]
      refine K.seq ?_
      refine K.region ?_
      (refine KL.v rfl (Val.assign rfl) ?_)
      refine KL.nil ?_
      refine KE.next ?_
      refine K.seq ?_
      refine K.seq ?_
      refine K.region ?_
      (refine KL.v rfl (Val.move rfl) ?_)
      (refine KL.v rfl (Val.isF (Val.lss rfl rfl) byLt) ?_)
      (refine KL.v rfl (Val.move rfl) ?_)
      (refine KL.yes rfl rfl ?_; refine KL.v rfl (Val.move rfl) ?_)
      (refine KL.yes rfl rfl ?_; refine KL.v rfl (Val.move rfl) ?_)
      (refine KL.yes rfl rfl ?_; refine KL.v rfl (Val.lenSl rfl rfl bySli) ?_)
      (refine KL.yes rfl rfl ?_; refine KL.v rfl (Val.isT (Val.geq rfl rfl) byLt) ?_)
      (refine KL.v rfl (Val.pickF rfl rfl rfl) ?_)
      refine KL.nil ?_
      refine KE.next ?_
      refine K.condT rfl ?_
      refine K.seq ?_
      refine K.region ?_
      (refine KL.v rfl (Val.assign rfl) ?_)
      refine KL.nil ?_
      refine KE.next ?_
      refine K.ret ?_
      refine KE.passR ?_
      rw [hw0]
      exact KE.fin byMarks rfl byRes byPart ⟨none, rfl, rfl, rfl⟩
  · have hw0 : wayP rows l to = [] := by unfold wayP; rw [if_neg (by omega)]
    refine K.seq ?_
    refine K.region ?_
    (refine KL.v rfl (Val.assign rfl) ?_)
    refine KL.nil ?_
    refine KE.next ?_
    refine K.seq ?_
    refine K.seq ?_
    refine K.region ?_
    (refine KL.v rfl (Val.move rfl) ?_)
    (refine KL.v rfl (Val.isT (Val.lss rfl rfl) byLt) ?_)
    (refine KL.v rfl (Val.move rfl) ?_)
    refine KL.skipG rfl rfl rfl ?_
    refine KL.skipG rfl rfl rfl ?_
    refine KL.skipG rfl rfl rfl ?_
    refine KL.skipG rfl rfl rfl ?_
    (refine KL.v rfl (Val.pickT rfl rfl rfl) ?_)
    refine KL.nil ?_
    refine KE.next ?_
    refine K.condT rfl ?_
    refine K.seq ?_
    refine K.region ?_
    (refine KL.v rfl (Val.assign rfl) ?_)
    refine KL.nil ?_
    refine KE.next ?_
    refine K.ret ?_
    refine KE.passR ?_
    rw [hw0]
    exact KE.fin byMarks rfl byRes byPart ⟨none, rfl, rfl, rfl⟩

set_option maxRecDepth 10000 in
set_option maxHeartbeats 2000000 in
theorem RClosed_K {w0 : World} {vg vs : Value} {gs : List SV} {rows : List (List Int)} {st : List Bool} (hG : SlW w0 svE vg gs) (hR : RowsI w0 gs rows) (hS : SlW w0 boE vs st) (hn : gs.length ≤ 100) (hb : ∀ r ∈ rows, r.length ≤ 1000) (hst : st.length ≤ 1000) :
    Call Try.prog w0 21 [vg, vs] [] (fun r H' => r = .bool (closedP rows st) ∧ H' = []) := by
  refine Call.enter2 (n := 63) (by kernel_rfl) Try.func21 rfl rfl rfl ?_
  have hgl := hR.len
  refine K.seq ?_
  refine K.region ?_
  (refine KL.v rfl (Val.assign rfl) ?_)
  refine KL.nil ?_
  refine KE.next ?_
  refine K.seq ?_
  refine K.seq ?_
  refine K.region ?_
  (refine KL.v rfl (Val.assign rfl) ?_)
  refine KL.nil ?_
  refine KE.next ?_
  refine K.block ?_
  refine K.loopT (σ := Nat) [(0, _), (1, _)] (fun s kp_ => (5, .int .i64 (s : Nat)) :: kp_) (fun s => []) (fun s => s ≤ rows.length ∧ ∀ y, y < s → (!inB st y || (hereP rows.length (rowP rows (y : Int))).all fun x => inB st x.toNat) = true) (fun s => rows.length - s) (0) bySub byPart (⟨by omega, fun y hy => by omega⟩) ?_
  rintro n ⟨hnl, hall⟩
  by_cases hlt : n < rows.length
  · by_cases hlt2 : n < st.length
    · obtain ⟨r, hr⟩ := get_of_lt hlt
      obtain ⟨p, hp⟩ := get_of_lt (l := gs) (k := n) (by omega)
      obtain ⟨b, hbn⟩ := get_of_lt hlt2
      have hrow := hR.row n p r hp hr
      have hrl := hb r (List.mem_of_getElem? hr)
      have hrp : rowP rows (n : Int) = r := by simp [rowP, hr]
      have hng : n < gs.length := by omega
      have hib : inB st n = b := by simp [inB, hbn]
      refine K.seq ?_
      refine K.seq ?_
      refine K.region ?_
      (refine KL.v rfl (Val.move rfl) ?_)
      (refine KL.v rfl (Val.move rfl) ?_)
      (refine KL.v rfl (Val.lenSl rfl rfl bySli) ?_)
      (refine KL.v rfl (Val.isT (Val.lss rfl rfl) byLt) ?_)
      (refine KL.v rfl (Val.move rfl) ?_)
      (refine KL.yes rfl rfl ?_; refine KL.v rfl (Val.move rfl) ?_)
      (refine KL.yes rfl rfl ?_; refine KL.v rfl (Val.move rfl) ?_)
      (refine KL.yes rfl rfl ?_; refine KL.v rfl (Val.lenSl rfl rfl bySli) ?_)
      (refine KL.yes rfl rfl ?_; refine KL.v rfl (Val.isT (Val.lss rfl rfl) byLt) ?_)
      (refine KL.v rfl (Val.pickT rfl rfl rfl) ?_)
      refine KL.nil ?_
      refine KE.next ?_
      refine K.condT rfl ?_
      refine K.skip ?_
      refine KE.next ?_
      refine K.seq ?_
      refine K.block ?_
      refine K.seq ?_
      refine K.region ?_
      (refine KL.v rfl (Val.assign rfl) ?_)
      refine KL.nil ?_
      refine KE.next ?_
      refine K.block ?_
      refine K.loopT (σ := Nat) [(0, _), (1, _), (5, _)] (fun s kp_ => (6, .int .i64 (s : Nat)) :: kp_) (fun s => []) (fun s => s ≤ r.length ∧ (b = true → ∀ x ∈ r.take s, Nd rows x → inB st x.toNat = true)) (fun s => r.length - s) (0) bySub byPart (⟨by omega, fun _ x hx => by simp at hx⟩) ?_
      rintro i ⟨hi, hin⟩
      have hnext : (i = r.length ∨ b = false) → ∀ y, y < n + 1 → (!inB st y || (hereP rows.length (rowP rows (y : Int))).all fun x => inB st x.toNat) = true := by
        intro hh y hy
        rcases Nat.lt_or_ge y n with h | h
        · exact hall y h
        · have : y = n := by omega
          subst this
          rw [hib, hrp]
          rcases hh with hh | hh
          · cases b with
            | false => rfl
            | true =>
              simp only [Bool.not_true, Bool.false_or, List.all_eq_true]
              intro x hx
              obtain ⟨h1, h2⟩ := hereP_mem.1 hx
              exact hin rfl x (by rw [hh, List.take_length]; exact h1) h2
          · rw [hh]; rfl
      by_cases hil : i < r.length
      · obtain ⟨t, ht⟩ := get_of_lt hil
        cases b with
        | false =>
          have hnx := hnext (.inr rfl)
          refine K.seq ?_
          refine K.seq ?_
          refine K.region ?_
          (refine KL.v rfl (Val.move rfl) ?_)
          (refine KL.v rfl (Val.move rfl) ?_)
          (refine KL.v rfl (Val.move rfl) ?_)
          (refine KL.v rfl (Val.idxSl rfl rfl rfl bySli rfl byLt) ?_)
          (refine KL.v rfl (Val.loadP rfl rfl bySee) ?_)
          (refine KL.v rfl (Val.lenSl rfl rfl bySli) ?_)
          (refine KL.v rfl (Val.isT (Val.lss rfl rfl) byLt) ?_)
          (refine KL.v rfl (Val.move rfl) ?_)
          (refine KL.yes rfl rfl ?_; refine KL.v rfl (Val.move rfl) ?_)
          (refine KL.yes rfl rfl ?_; refine KL.v rfl (Val.move rfl) ?_)
          (refine KL.yes rfl rfl ?_; refine KL.v rfl (Val.idxSl rfl rfl rfl bySli rfl byLt) ?_)
          (refine KL.yes rfl rfl ?_; refine KL.v rfl (Val.loadP rfl rfl bySee) ?_)
          (refine KL.v rfl (Val.pickT rfl rfl rfl) ?_)
          refine KL.nil ?_
          refine KE.next ?_
          refine K.condF rfl ?_
          refine K.exit ?_
          refine KE.passX ?_
          refine KE.passX ?_
          refine KE.blkX ?_
          refine KE.blkN ?_
          refine KE.next ?_
          refine K.region ?_
          (refine KL.v rfl (Val.move rfl) ?_)
          (refine KL.v rfl (Val.add rfl rfl (by simp only [Go.Proofs.Ytfgmofaadcbokaa.lo, Go.Proofs.Ytfgmofaadcbokaa.hi]; omega)) ?_)
          (refine KL.v rfl (Val.assign rfl) ?_)
          refine KL.nil ?_
          exact KE.again (n + 1) bySub byPart ⟨by omega, hnx⟩ (by omega)
        | true =>
          have hstep : (Nd rows t → inB st t.toNat = true) → ∀ x ∈ r.take (i + 1), Nd rows x → inB st x.toNat = true := by
            intro h x hx hnd
            rw [take_snoc ht] at hx
            rcases List.mem_append.1 hx with h' | h'
            · exact hin rfl x h' hnd
            · rw [List.mem_singleton.1 h'] at hnd ⊢; exact h hnd
          have hbad : Nd rows t → inB st t.toNat = false → closedP rows st = false := by
            intro hnd hbf
            unfold closedP
            rw [List.all_eq_false]
            refine ⟨n, by simpa using hlt, ?_⟩
            simp only [hib, hrp, Bool.not_true, Bool.false_or, List.all_eq_true, Bool.not_eq_true]
            intro h
            have := h t (hereP_mem.2 ⟨List.mem_of_getElem? ht, hnd⟩)
            rw [hbf] at this; cases this
          by_cases h0 : 0 ≤ t
          · by_cases h1 : t < (gs.length : Nat)
            · obtain ⟨q, rfl⟩ : ∃ q : Nat, t = (q : Int) := ⟨t.toNat, by omega⟩
              have hnd : Nd rows (q : Int) := ⟨by omega, by omega⟩
              by_cases hqs : q < st.length
              · obtain ⟨c, hc⟩ := get_of_lt hqs
                have hiq : inB st q = c := by simp [inB, hc]
                cases c with
                | true =>
                  have hst2 := hstep fun _ => hiq
                  refine K.seq ?_
                  refine K.seq ?_
                  refine K.region ?_
                  (refine KL.v rfl (Val.move rfl) ?_)
                  (refine KL.v rfl (Val.move rfl) ?_)
                  (refine KL.v rfl (Val.move rfl) ?_)
                  (refine KL.v rfl (Val.idxSl rfl rfl rfl bySli rfl byLt) ?_)
                  (refine KL.v rfl (Val.loadP rfl rfl bySee) ?_)
                  (refine KL.v rfl (Val.lenSl rfl rfl bySli) ?_)
                  (refine KL.v rfl (Val.isT (Val.lss rfl rfl) byLt) ?_)
                  (refine KL.v rfl (Val.move rfl) ?_)
                  (refine KL.yes rfl rfl ?_; refine KL.v rfl (Val.move rfl) ?_)
                  (refine KL.yes rfl rfl ?_; refine KL.v rfl (Val.move rfl) ?_)
                  (refine KL.yes rfl rfl ?_; refine KL.v rfl (Val.idxSl rfl rfl rfl bySli rfl byLt) ?_)
                  (refine KL.yes rfl rfl ?_; refine KL.v rfl (Val.loadP rfl rfl bySee) ?_)
                  (refine KL.v rfl (Val.pickT rfl rfl rfl) ?_)
                  refine KL.nil ?_
                  refine KE.next ?_
                  refine K.condT rfl ?_
                  refine K.skip ?_
                  refine KE.next ?_
                  refine K.seq ?_
                  refine K.block ?_
                  refine K.seq ?_
                  refine K.region ?_
                  (refine KL.v rfl (Val.move rfl) ?_)
                  (refine KL.v rfl (Val.move rfl) ?_)
                  (refine KL.v rfl (Val.idxSl rfl rfl rfl bySli rfl byLt) ?_)
                  (refine KL.v rfl (Val.loadP rfl rfl bySee) ?_)
                  (refine KL.v rfl (Val.move rfl) ?_)
                  (refine KL.v rfl (Val.idxSl rfl rfl rfl bySli rfl byLt) ?_)
                  (refine KL.v rfl (Val.loadP rfl rfl bySee) ?_)
                  (refine KL.v rfl (Val.assign rfl) ?_)
                  refine KL.nil ?_
                  refine KE.next ?_
                  refine K.seq ?_
                  refine K.region ?_
                  (refine KL.v rfl (Val.move rfl) ?_)
                  (refine KL.v rfl (Val.isT (Val.geq rfl rfl) byLt) ?_)
                  (refine KL.v rfl (Val.move rfl) ?_)
                  (refine KL.yes rfl rfl ?_; refine KL.v rfl (Val.move rfl) ?_)
                  (refine KL.yes rfl rfl ?_; refine KL.v rfl (Val.move rfl) ?_)
                  (refine KL.yes rfl rfl ?_; refine KL.v rfl (Val.lenSl rfl rfl bySli) ?_)
                  (refine KL.yes rfl rfl ?_; refine KL.v rfl (Val.isT (Val.lss rfl rfl) byLt) ?_)
                  (refine KL.v rfl (Val.pickT rfl rfl rfl) ?_)
                  (refine KL.v rfl (Val.move rfl) ?_)
                  (refine KL.yes rfl rfl ?_; refine KL.v rfl (Val.move rfl) ?_)
                  (refine KL.yes rfl rfl ?_; refine KL.v rfl (Val.move rfl) ?_)
                  (refine KL.yes rfl rfl ?_; refine KL.v rfl (Val.lenSl rfl rfl bySli) ?_)
                  (refine KL.yes rfl rfl ?_; refine KL.v rfl (Val.isF (Val.geq rfl rfl) byLt) ?_)
                  (refine KL.yes rfl rfl ?_; refine KL.v rfl (Val.move rfl) ?_)
                  (refine KL.yes rfl rfl ?_; refine KL.v rfl (Val.move rfl) ?_)
                  (refine KL.yes rfl rfl ?_; refine KL.v rfl (Val.move rfl) ?_)
                  (refine KL.yes rfl rfl ?_; refine KL.v rfl (Val.idxSl rfl rfl rfl bySli rfl byLt) ?_)
                  (refine KL.yes rfl rfl ?_; refine KL.v rfl (Val.loadP rfl rfl bySee) ?_)
                  (refine KL.yes rfl rfl ?_; refine KL.v rfl (Val.notT rfl) ?_)
                  (refine KL.yes rfl rfl ?_; refine KL.v rfl (Val.pickF rfl rfl rfl) ?_)
                  (refine KL.v rfl (Val.pickT rfl rfl rfl) ?_)
                  refine KL.nil ?_
                  refine KE.next ?_
                  refine K.condF rfl ?_
                  refine K.skip ?_
                  refine KE.blkN ?_
                  refine KE.next ?_
                  refine K.region ?_
                  (refine KL.v rfl (Val.move rfl) ?_)
                  (refine KL.v rfl (Val.add rfl rfl (by simp only [Go.Proofs.Ytfgmofaadcbokaa.lo, Go.Proofs.Ytfgmofaadcbokaa.hi]; omega)) ?_)
                  (refine KL.v rfl (Val.assign rfl) ?_)
                  refine KL.nil ?_
                  exact KE.again (i + 1) bySub byPart ⟨by omega, fun _ => hst2⟩ (by omega)
                | false =>
                  have hcl := hbad hnd hiq
                  refine K.seq ?_
                  refine K.seq ?_
                  refine K.region ?_
                  (refine KL.v rfl (Val.move rfl) ?_)
                  (refine KL.v rfl (Val.move rfl) ?_)
                  (refine KL.v rfl (Val.move rfl) ?_)
                  (refine KL.v rfl (Val.idxSl rfl rfl rfl bySli rfl byLt) ?_)
                  (refine KL.v rfl (Val.loadP rfl rfl bySee) ?_)
                  (refine KL.v rfl (Val.lenSl rfl rfl bySli) ?_)
                  (refine KL.v rfl (Val.isT (Val.lss rfl rfl) byLt) ?_)
                  (refine KL.v rfl (Val.move rfl) ?_)
                  (refine KL.yes rfl rfl ?_; refine KL.v rfl (Val.move rfl) ?_)
                  (refine KL.yes rfl rfl ?_; refine KL.v rfl (Val.move rfl) ?_)
                  (refine KL.yes rfl rfl ?_; refine KL.v rfl (Val.idxSl rfl rfl rfl bySli rfl byLt) ?_)
                  (refine KL.yes rfl rfl ?_; refine KL.v rfl (Val.loadP rfl rfl bySee) ?_)
                  (refine KL.v rfl (Val.pickT rfl rfl rfl) ?_)
                  refine KL.nil ?_
                  refine KE.next ?_
                  refine K.condT rfl ?_
                  refine K.skip ?_
                  refine KE.next ?_
                  refine K.seq ?_
                  refine K.block ?_
                  refine K.seq ?_
                  refine K.region ?_
                  (refine KL.v rfl (Val.move rfl) ?_)
                  (refine KL.v rfl (Val.move rfl) ?_)
                  (refine KL.v rfl (Val.idxSl rfl rfl rfl bySli rfl byLt) ?_)
                  (refine KL.v rfl (Val.loadP rfl rfl bySee) ?_)
                  (refine KL.v rfl (Val.move rfl) ?_)
                  (refine KL.v rfl (Val.idxSl rfl rfl rfl bySli rfl byLt) ?_)
                  (refine KL.v rfl (Val.loadP rfl rfl bySee) ?_)
                  (refine KL.v rfl (Val.assign rfl) ?_)
                  refine KL.nil ?_
                  refine KE.next ?_
                  refine K.seq ?_
                  refine K.region ?_
                  (refine KL.v rfl (Val.move rfl) ?_)
                  (refine KL.v rfl (Val.isT (Val.geq rfl rfl) byLt) ?_)
                  (refine KL.v rfl (Val.move rfl) ?_)
                  (refine KL.yes rfl rfl ?_; refine KL.v rfl (Val.move rfl) ?_)
                  (refine KL.yes rfl rfl ?_; refine KL.v rfl (Val.move rfl) ?_)
                  (refine KL.yes rfl rfl ?_; refine KL.v rfl (Val.lenSl rfl rfl bySli) ?_)
                  (refine KL.yes rfl rfl ?_; refine KL.v rfl (Val.isT (Val.lss rfl rfl) byLt) ?_)
                  (refine KL.v rfl (Val.pickT rfl rfl rfl) ?_)
                  (refine KL.v rfl (Val.move rfl) ?_)
                  (refine KL.yes rfl rfl ?_; refine KL.v rfl (Val.move rfl) ?_)
                  (refine KL.yes rfl rfl ?_; refine KL.v rfl (Val.move rfl) ?_)
                  (refine KL.yes rfl rfl ?_; refine KL.v rfl (Val.lenSl rfl rfl bySli) ?_)
                  (refine KL.yes rfl rfl ?_; refine KL.v rfl (Val.isF (Val.geq rfl rfl) byLt) ?_)
                  (refine KL.yes rfl rfl ?_; refine KL.v rfl (Val.move rfl) ?_)
                  (refine KL.yes rfl rfl ?_; refine KL.v rfl (Val.move rfl) ?_)
                  (refine KL.yes rfl rfl ?_; refine KL.v rfl (Val.move rfl) ?_)
                  (refine KL.yes rfl rfl ?_; refine KL.v rfl (Val.idxSl rfl rfl rfl bySli rfl byLt) ?_)
                  (refine KL.yes rfl rfl ?_; refine KL.v rfl (Val.loadP rfl rfl bySee) ?_)
                  (refine KL.yes rfl rfl ?_; refine KL.v rfl (Val.notF rfl) ?_)
                  (refine KL.yes rfl rfl ?_; refine KL.v rfl (Val.pickF rfl rfl rfl) ?_)
                  (refine KL.v rfl (Val.pickT rfl rfl rfl) ?_)
                  refine KL.nil ?_
                  refine KE.next ?_
                  refine K.condT rfl ?_
                  refine K.seq ?_
                  refine K.region ?_
                  (refine KL.v rfl (Val.assign rfl) ?_)
                  refine KL.nil ?_
                  refine KE.next ?_
                  refine K.ret ?_
                  refine KE.blkR ?_
                  refine KE.passR ?_
                  refine KE.passR ?_
                  refine KE.blkR ?_
                  refine KE.blkR ?_
                  refine KE.passR ?_
                  refine KE.passR ?_
                  refine KE.blkR ?_
                  refine KE.passR ?_
                  exact KE.fin byMarks rfl byRes byPart ⟨by rw [hcl]; rfl, rfl⟩
              · have hiq : inB st q = false := by simp [inB, List.getElem?_eq_none (Nat.le_of_not_lt hqs)]
                have hcl := hbad hnd hiq
                have hqs' : (q : Int) ≥ (st.length : Nat) := by omega
                refine K.seq ?_
                refine K.seq ?_
                refine K.region ?_
                (refine KL.v rfl (Val.move rfl) ?_)
                (refine KL.v rfl (Val.move rfl) ?_)
                (refine KL.v rfl (Val.move rfl) ?_)
                (refine KL.v rfl (Val.idxSl rfl rfl rfl bySli rfl byLt) ?_)
                (refine KL.v rfl (Val.loadP rfl rfl bySee) ?_)
                (refine KL.v rfl (Val.lenSl rfl rfl bySli) ?_)
                (refine KL.v rfl (Val.isT (Val.lss rfl rfl) byLt) ?_)
                (refine KL.v rfl (Val.move rfl) ?_)
                (refine KL.yes rfl rfl ?_; refine KL.v rfl (Val.move rfl) ?_)
                (refine KL.yes rfl rfl ?_; refine KL.v rfl (Val.move rfl) ?_)
                (refine KL.yes rfl rfl ?_; refine KL.v rfl (Val.idxSl rfl rfl rfl bySli rfl byLt) ?_)
                (refine KL.yes rfl rfl ?_; refine KL.v rfl (Val.loadP rfl rfl bySee) ?_)
                (refine KL.v rfl (Val.pickT rfl rfl rfl) ?_)
                refine KL.nil ?_
                refine KE.next ?_
                refine K.condT rfl ?_
                refine K.skip ?_
                refine KE.next ?_
                refine K.seq ?_
                refine K.block ?_
                refine K.seq ?_
                refine K.region ?_
                (refine KL.v rfl (Val.move rfl) ?_)
                (refine KL.v rfl (Val.move rfl) ?_)
                (refine KL.v rfl (Val.idxSl rfl rfl rfl bySli rfl byLt) ?_)
                (refine KL.v rfl (Val.loadP rfl rfl bySee) ?_)
                (refine KL.v rfl (Val.move rfl) ?_)
                (refine KL.v rfl (Val.idxSl rfl rfl rfl bySli rfl byLt) ?_)
                (refine KL.v rfl (Val.loadP rfl rfl bySee) ?_)
                (refine KL.v rfl (Val.assign rfl) ?_)
                refine KL.nil ?_
                refine KE.next ?_
                refine K.seq ?_
                refine K.region ?_
                (refine KL.v rfl (Val.move rfl) ?_)
                (refine KL.v rfl (Val.isT (Val.geq rfl rfl) byLt) ?_)
                (refine KL.v rfl (Val.move rfl) ?_)
                (refine KL.yes rfl rfl ?_; refine KL.v rfl (Val.move rfl) ?_)
                (refine KL.yes rfl rfl ?_; refine KL.v rfl (Val.move rfl) ?_)
                (refine KL.yes rfl rfl ?_; refine KL.v rfl (Val.lenSl rfl rfl bySli) ?_)
                (refine KL.yes rfl rfl ?_; refine KL.v rfl (Val.isT (Val.lss rfl rfl) byLt) ?_)
                (refine KL.v rfl (Val.pickT rfl rfl rfl) ?_)
                (refine KL.v rfl (Val.move rfl) ?_)
                (refine KL.yes rfl rfl ?_; refine KL.v rfl (Val.move rfl) ?_)
                (refine KL.yes rfl rfl ?_; refine KL.v rfl (Val.move rfl) ?_)
                (refine KL.yes rfl rfl ?_; refine KL.v rfl (Val.lenSl rfl rfl bySli) ?_)
                (refine KL.yes rfl rfl ?_; refine KL.v rfl (Val.isT (Val.geq rfl rfl) byLt) ?_)
                (refine KL.yes rfl rfl ?_; refine KL.v rfl (Val.move rfl) ?_)
                refine KL.skipG rfl rfl rfl ?_
                refine KL.skipG rfl rfl rfl ?_
                refine KL.skipG rfl rfl rfl ?_
                refine KL.skipG rfl rfl rfl ?_
                refine KL.skipG rfl rfl rfl ?_
                (refine KL.yes rfl rfl ?_; refine KL.v rfl (Val.pickT rfl rfl rfl) ?_)
                (refine KL.v rfl (Val.pickT rfl rfl rfl) ?_)
                refine KL.nil ?_
                refine KE.next ?_
                refine K.condT rfl ?_
                refine K.seq ?_
                refine K.region ?_
                (refine KL.v rfl (Val.assign rfl) ?_)
                refine KL.nil ?_
                refine KE.next ?_
                refine K.ret ?_
                refine KE.blkR ?_
                refine KE.passR ?_
                refine KE.passR ?_
                refine KE.blkR ?_
                refine KE.blkR ?_
                refine KE.passR ?_
                refine KE.passR ?_
                refine KE.blkR ?_
                refine KE.passR ?_
                exact KE.fin byMarks rfl byRes byPart ⟨by rw [hcl]; rfl, rfl⟩
            · have hst2 := hstep fun hnd => by have := hnd.2; omega
              refine K.seq ?_
              refine K.seq ?_
              refine K.region ?_
              (refine KL.v rfl (Val.move rfl) ?_)
              (refine KL.v rfl (Val.move rfl) ?_)
              (refine KL.v rfl (Val.move rfl) ?_)
              (refine KL.v rfl (Val.idxSl rfl rfl rfl bySli rfl byLt) ?_)
              (refine KL.v rfl (Val.loadP rfl rfl bySee) ?_)
              (refine KL.v rfl (Val.lenSl rfl rfl bySli) ?_)
              (refine KL.v rfl (Val.isT (Val.lss rfl rfl) byLt) ?_)
              (refine KL.v rfl (Val.move rfl) ?_)
              (refine KL.yes rfl rfl ?_; refine KL.v rfl (Val.move rfl) ?_)
              (refine KL.yes rfl rfl ?_; refine KL.v rfl (Val.move rfl) ?_)
              (refine KL.yes rfl rfl ?_; refine KL.v rfl (Val.idxSl rfl rfl rfl bySli rfl byLt) ?_)
              (refine KL.yes rfl rfl ?_; refine KL.v rfl (Val.loadP rfl rfl bySee) ?_)
              (refine KL.v rfl (Val.pickT rfl rfl rfl) ?_)
              refine KL.nil ?_
              refine KE.next ?_
              refine K.condT rfl ?_
              refine K.skip ?_
              refine KE.next ?_
              refine K.seq ?_
              refine K.block ?_
              refine K.seq ?_
              refine K.region ?_
              (refine KL.v rfl (Val.move rfl) ?_)
              (refine KL.v rfl (Val.move rfl) ?_)
              (refine KL.v rfl (Val.idxSl rfl rfl rfl bySli rfl byLt) ?_)
              (refine KL.v rfl (Val.loadP rfl rfl bySee) ?_)
              (refine KL.v rfl (Val.move rfl) ?_)
              (refine KL.v rfl (Val.idxSl rfl rfl rfl bySli rfl byLt) ?_)
              (refine KL.v rfl (Val.loadP rfl rfl bySee) ?_)
              (refine KL.v rfl (Val.assign rfl) ?_)
              refine KL.nil ?_
              refine KE.next ?_
              refine K.seq ?_
              refine K.region ?_
              (refine KL.v rfl (Val.move rfl) ?_)
              (refine KL.v rfl (Val.isT (Val.geq rfl rfl) byLt) ?_)
              (refine KL.v rfl (Val.move rfl) ?_)
              (refine KL.yes rfl rfl ?_; refine KL.v rfl (Val.move rfl) ?_)
              (refine KL.yes rfl rfl ?_; refine KL.v rfl (Val.move rfl) ?_)
              (refine KL.yes rfl rfl ?_; refine KL.v rfl (Val.lenSl rfl rfl bySli) ?_)
              (refine KL.yes rfl rfl ?_; refine KL.v rfl (Val.isF (Val.lss rfl rfl) byLt) ?_)
              (refine KL.v rfl (Val.pickT rfl rfl rfl) ?_)
              (refine KL.v rfl (Val.move rfl) ?_)
              refine KL.skipG rfl rfl rfl ?_
              refine KL.skipG rfl rfl rfl ?_
              refine KL.skipG rfl rfl rfl ?_
              refine KL.skipG rfl rfl rfl ?_
              refine KL.skipG rfl rfl rfl ?_
              refine KL.skipU rfl rfl rfl ?_
              refine KL.skipU rfl rfl rfl ?_
              refine KL.skipU rfl rfl rfl ?_
              refine KL.skipU rfl rfl rfl ?_
              refine KL.skipU rfl rfl rfl ?_
              refine KL.skipG rfl rfl rfl ?_
              (refine KL.v rfl (Val.pickF rfl rfl rfl) ?_)
              refine KL.nil ?_
              refine KE.next ?_
              refine K.condF rfl ?_
              refine K.skip ?_
              refine KE.blkN ?_
              refine KE.next ?_
              refine K.region ?_
              (refine KL.v rfl (Val.move rfl) ?_)
              (refine KL.v rfl (Val.add rfl rfl (by simp only [Go.Proofs.Ytfgmofaadcbokaa.lo, Go.Proofs.Ytfgmofaadcbokaa.hi]; omega)) ?_)
              (refine KL.v rfl (Val.assign rfl) ?_)
              refine KL.nil ?_
              exact KE.again (i + 1) bySub byPart ⟨by omega, fun _ => hst2⟩ (by omega)
          · have hst2 := hstep fun hnd => by have := hnd.1; omega
            refine K.seq ?_
            refine K.seq ?_
            refine K.region ?_
            (refine KL.v rfl (Val.move rfl) ?_)
            (refine KL.v rfl (Val.move rfl) ?_)
            (refine KL.v rfl (Val.move rfl) ?_)
            (refine KL.v rfl (Val.idxSl rfl rfl rfl bySli rfl byLt) ?_)
            (refine KL.v rfl (Val.loadP rfl rfl bySee) ?_)
            (refine KL.v rfl (Val.lenSl rfl rfl bySli) ?_)
            (refine KL.v rfl (Val.isT (Val.lss rfl rfl) byLt) ?_)
            (refine KL.v rfl (Val.move rfl) ?_)
            (refine KL.yes rfl rfl ?_; refine KL.v rfl (Val.move rfl) ?_)
            (refine KL.yes rfl rfl ?_; refine KL.v rfl (Val.move rfl) ?_)
            (refine KL.yes rfl rfl ?_; refine KL.v rfl (Val.idxSl rfl rfl rfl bySli rfl byLt) ?_)
            (refine KL.yes rfl rfl ?_; refine KL.v rfl (Val.loadP rfl rfl bySee) ?_)
            (refine KL.v rfl (Val.pickT rfl rfl rfl) ?_)
            refine KL.nil ?_
            refine KE.next ?_
            refine K.condT rfl ?_
            refine K.skip ?_
            refine KE.next ?_
            refine K.seq ?_
            refine K.block ?_
            refine K.seq ?_
            refine K.region ?_
            (refine KL.v rfl (Val.move rfl) ?_)
            (refine KL.v rfl (Val.move rfl) ?_)
            (refine KL.v rfl (Val.idxSl rfl rfl rfl bySli rfl byLt) ?_)
            (refine KL.v rfl (Val.loadP rfl rfl bySee) ?_)
            (refine KL.v rfl (Val.move rfl) ?_)
            (refine KL.v rfl (Val.idxSl rfl rfl rfl bySli rfl byLt) ?_)
            (refine KL.v rfl (Val.loadP rfl rfl bySee) ?_)
            (refine KL.v rfl (Val.assign rfl) ?_)
            refine KL.nil ?_
            refine KE.next ?_
            refine K.seq ?_
            refine K.region ?_
            (refine KL.v rfl (Val.move rfl) ?_)
            (refine KL.v rfl (Val.isF (Val.geq rfl rfl) byLt) ?_)
            (refine KL.v rfl (Val.move rfl) ?_)
            refine KL.skipG rfl rfl rfl ?_
            refine KL.skipG rfl rfl rfl ?_
            refine KL.skipG rfl rfl rfl ?_
            refine KL.skipG rfl rfl rfl ?_
            (refine KL.v rfl (Val.pickF rfl rfl rfl) ?_)
            (refine KL.v rfl (Val.move rfl) ?_)
            refine KL.skipG rfl rfl rfl ?_
            refine KL.skipG rfl rfl rfl ?_
            refine KL.skipG rfl rfl rfl ?_
            refine KL.skipG rfl rfl rfl ?_
            refine KL.skipG rfl rfl rfl ?_
            refine KL.skipU rfl rfl rfl ?_
            refine KL.skipU rfl rfl rfl ?_
            refine KL.skipU rfl rfl rfl ?_
            refine KL.skipU rfl rfl rfl ?_
            refine KL.skipU rfl rfl rfl ?_
            refine KL.skipG rfl rfl rfl ?_
            (refine KL.v rfl (Val.pickF rfl rfl rfl) ?_)
            refine KL.nil ?_
            refine KE.next ?_
            refine K.condF rfl ?_
            refine K.skip ?_
            refine KE.blkN ?_
            refine KE.next ?_
            refine K.region ?_
            (refine KL.v rfl (Val.move rfl) ?_)
            (refine KL.v rfl (Val.add rfl rfl (by simp only [Go.Proofs.Ytfgmofaadcbokaa.lo, Go.Proofs.Ytfgmofaadcbokaa.hi]; omega)) ?_)
            (refine KL.v rfl (Val.assign rfl) ?_)
            refine KL.nil ?_
            exact KE.again (i + 1) bySub byPart ⟨by omega, fun _ => hst2⟩ (by omega)
      · have hnx := hnext (.inl (by omega))
        refine K.seq ?_
        refine K.seq ?_
        refine K.region ?_
        (refine KL.v rfl (Val.move rfl) ?_)
        (refine KL.v rfl (Val.move rfl) ?_)
        (refine KL.v rfl (Val.move rfl) ?_)
        (refine KL.v rfl (Val.idxSl rfl rfl rfl bySli rfl byLt) ?_)
        (refine KL.v rfl (Val.loadP rfl rfl bySee) ?_)
        (refine KL.v rfl (Val.lenSl rfl rfl bySli) ?_)
        (refine KL.v rfl (Val.isF (Val.lss rfl rfl) byLt) ?_)
        (refine KL.v rfl (Val.move rfl) ?_)
        refine KL.skipG rfl rfl rfl ?_
        refine KL.skipG rfl rfl rfl ?_
        refine KL.skipG rfl rfl rfl ?_
        refine KL.skipG rfl rfl rfl ?_
        (refine KL.v rfl (Val.pickF rfl rfl rfl) ?_)
        refine KL.nil ?_
        refine KE.next ?_
        refine K.condF rfl ?_
        refine K.exit ?_
        refine KE.passX ?_
        refine KE.passX ?_
        refine KE.blkX ?_
        refine KE.blkN ?_
        refine KE.next ?_
        refine K.region ?_
        (refine KL.v rfl (Val.move rfl) ?_)
        (refine KL.v rfl (Val.add rfl rfl (by simp only [Go.Proofs.Ytfgmofaadcbokaa.lo, Go.Proofs.Ytfgmofaadcbokaa.hi]; omega)) ?_)
        (refine KL.v rfl (Val.assign rfl) ?_)
        refine KL.nil ?_
        exact KE.again (n + 1) bySub byPart ⟨by omega, hnx⟩ (by omega)
    · have hc : closedP rows st = true := by
        unfold closedP
        rw [List.all_eq_true]
        intro y hy
        rcases Nat.lt_or_ge y n with h | h
        · exact hall y h
        · have : inB st y = false := by simp [inB, List.getElem?_eq_none (show st.length ≤ y by omega)]
          rw [this]; rfl
      refine K.seq ?_
      refine K.seq ?_
      refine K.region ?_
      (refine KL.v rfl (Val.move rfl) ?_)
      (refine KL.v rfl (Val.move rfl) ?_)
      (refine KL.v rfl (Val.lenSl rfl rfl bySli) ?_)
      (refine KL.v rfl (Val.isT (Val.lss rfl rfl) byLt) ?_)
      (refine KL.v rfl (Val.move rfl) ?_)
      (refine KL.yes rfl rfl ?_; refine KL.v rfl (Val.move rfl) ?_)
      (refine KL.yes rfl rfl ?_; refine KL.v rfl (Val.move rfl) ?_)
      (refine KL.yes rfl rfl ?_; refine KL.v rfl (Val.lenSl rfl rfl bySli) ?_)
      (refine KL.yes rfl rfl ?_; refine KL.v rfl (Val.isF (Val.lss rfl rfl) byLt) ?_)
      (refine KL.v rfl (Val.pickT rfl rfl rfl) ?_)
      refine KL.nil ?_
      refine KE.next ?_
      refine K.condF rfl ?_
      refine K.exit ?_
      refine KE.passX ?_
      refine KE.passX ?_
      refine KE.blkX ?_
      refine KE.next ?_
      refine K.seq ?_
      refine K.region ?_
      (refine KL.v rfl (Val.assign rfl) ?_)
      refine KL.nil ?_
      refine KE.next ?_
      refine K.ret ?_
      exact KE.fin byMarks rfl byRes byPart ⟨by rw [hc]; rfl, rfl⟩
  · have hc : closedP rows st = true := by
      unfold closedP
      rw [List.all_eq_true]
      intro y hy
      exact hall y (by have := List.mem_range.1 hy; omega)
    refine K.seq ?_
    refine K.seq ?_
    refine K.region ?_
    (refine KL.v rfl (Val.move rfl) ?_)
    (refine KL.v rfl (Val.move rfl) ?_)
    (refine KL.v rfl (Val.lenSl rfl rfl bySli) ?_)
    (refine KL.v rfl (Val.isF (Val.lss rfl rfl) byLt) ?_)
    (refine KL.v rfl (Val.move rfl) ?_)
    refine KL.skipG rfl rfl rfl ?_
    refine KL.skipG rfl rfl rfl ?_
    refine KL.skipG rfl rfl rfl ?_
    refine KL.skipG rfl rfl rfl ?_
    (refine KL.v rfl (Val.pickF rfl rfl rfl) ?_)
    refine KL.nil ?_
    refine KE.next ?_
    refine K.condF rfl ?_
    refine K.exit ?_
    refine KE.passX ?_
    refine KE.passX ?_
    refine KE.blkX ?_
    refine KE.next ?_
    refine K.seq ?_
    refine K.region ?_
    (refine KL.v rfl (Val.assign rfl) ?_)
    refine KL.nil ?_
    refine KE.next ?_
    refine K.ret ?_
    exact KE.fin byMarks rfl byRes byPart ⟨by rw [hc]; rfl, rfl⟩
end Go.Proofs.Ytfgmofaadcbokaa
