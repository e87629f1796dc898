/- Ideal: great, place, a store behind operations. -/
import Derived.Test.YthamkgghnjenhaaJ22
namespace Go.Proofs.Ythamkgghnjenhaa
open Go.RowKit Go.ChangeShapes Go.WideShapes Go.ChangeAt Go.Deep Go.Joins
set_option linter.unusedVariables false
set_option linter.unusedSimpArgs false
set_option maxRecDepth 10000

def kindV (vc : Value) (q c : Int) : Value := .agg [vc, .int .i64 q, .int .i64 c].toArray
theorem great_K {w0 : World} {H : Heap} {vc vl : Value} {cl : List Int} {l : List OpP} {q c : Int} (hC : SlW w0 iE vc cl) (hL : SlW w0 opE vl l) :
    Call Try.prog w0 6 [kindV vc q c, vl] H (fun r H' => r = .bool (decide (20 < cl.length ∨ 60 < l.length)) ∧ H' = H) := by
  have hC1 := hC.one
  unfold kindV
  refine Call.enter2 (n := 14) (by kernel_rfl) Try.func6 rfl rfl rfl ?_
  by_cases h1 : 20 < cl.length
  · have hd : decide (20 < cl.length ∨ 60 < l.length) = true := by simp [h1]
    refine K.seq ?_
    refine K.region ?_
    (refine KL.e rfl (Eff.box rfl rfl) ?_; rintro _ _ ⟨b2, rfl, rfl⟩)
    (refine KL.v rfl (Val.assign rfl) ?_)
    refine KL.nil ?_
    refine KE.next ?_
    refine K.seq ?_
    refine K.region ?_
    (refine KL.v rfl (Val.fieldAddr0 (k := 0) rfl rfl) ?_)
    (refine KL.v rfl (Val.loadP rfl rfl (Sees.cell byTake rfl)) ?_)
    (refine KL.v rfl (Val.lenSl rfl rfl (Sli.old (by assumption))) ?_)
    (refine KL.v rfl (Val.isT (Val.gtr rfl rfl) byLt) ?_)
    (refine KL.v rfl (Val.move rfl) ?_)
    refine KL.skipG rfl rfl rfl ?_
    refine KL.skipG rfl rfl rfl ?_
    refine KL.skipG rfl rfl rfl ?_
    (refine KL.v rfl (Val.pickT rfl rfl rfl) ?_)
    (refine KL.v rfl (Val.assign rfl) ?_)
    refine KL.nil ?_
    refine KE.next ?_
    refine K.ret ?_
    exact KE.fin byMarks rfl byRes byPart ⟨by rw [hd]; rfl, rfl⟩
  · by_cases h2 : 60 < l.length
    · have hd : decide (20 < cl.length ∨ 60 < l.length) = true := by simp [h2]
      refine K.seq ?_
      refine K.region ?_
      (refine KL.e rfl (Eff.box rfl rfl) ?_; rintro _ _ ⟨b2, rfl, rfl⟩)
      (refine KL.v rfl (Val.assign rfl) ?_)
      refine KL.nil ?_
      refine KE.next ?_
      refine K.seq ?_
      refine K.region ?_
      (refine KL.v rfl (Val.fieldAddr0 (k := 0) rfl rfl) ?_)
      (refine KL.v rfl (Val.loadP rfl rfl (Sees.cell byTake rfl)) ?_)
      (refine KL.v rfl (Val.lenSl rfl rfl (Sli.old (by assumption))) ?_)
      (refine KL.v rfl (Val.isF (Val.gtr rfl rfl) byLt) ?_)
      (refine KL.v rfl (Val.move rfl) ?_)
      (refine KL.yes rfl rfl ?_; refine KL.v rfl (Val.move rfl) ?_)
      (refine KL.yes rfl rfl ?_; refine KL.v rfl (Val.lenSl rfl rfl (Sli.old (by assumption))) ?_)
      (refine KL.yes rfl rfl ?_; refine KL.v rfl (Val.isT (Val.gtr rfl rfl) byLt) ?_)
      (refine KL.v rfl (Val.pickF rfl rfl rfl) ?_)
      (refine KL.v rfl (Val.assign rfl) ?_)
      refine KL.nil ?_
      refine KE.next ?_
      refine K.ret ?_
      exact KE.fin byMarks rfl byRes byPart ⟨by rw [hd]; rfl, rfl⟩
    · have hd : decide (20 < cl.length ∨ 60 < l.length) = false := by simp [h1, h2]
      refine K.seq ?_
      refine K.region ?_
      (refine KL.e rfl (Eff.box rfl rfl) ?_; rintro _ _ ⟨b2, rfl, rfl⟩)
      (refine KL.v rfl (Val.assign rfl) ?_)
      refine KL.nil ?_
      refine KE.next ?_
      refine K.seq ?_
      refine K.region ?_
      (refine KL.v rfl (Val.fieldAddr0 (k := 0) rfl rfl) ?_)
      (refine KL.v rfl (Val.loadP rfl rfl (Sees.cell byTake rfl)) ?_)
      (refine KL.v rfl (Val.lenSl rfl rfl (Sli.old (by assumption))) ?_)
      (refine KL.v rfl (Val.isF (Val.gtr rfl rfl) byLt) ?_)
      (refine KL.v rfl (Val.move rfl) ?_)
      (refine KL.yes rfl rfl ?_; refine KL.v rfl (Val.move rfl) ?_)
      (refine KL.yes rfl rfl ?_; refine KL.v rfl (Val.lenSl rfl rfl (Sli.old (by assumption))) ?_)
      (refine KL.yes rfl rfl ?_; refine KL.v rfl (Val.isF (Val.gtr rfl rfl) byLt) ?_)
      (refine KL.v rfl (Val.pickF rfl rfl rfl) ?_)
      (refine KL.v rfl (Val.assign rfl) ?_)
      refine KL.nil ?_
      refine KE.next ?_
      refine K.ret ?_
      exact KE.fin byMarks rfl byRes byPart ⟨by rw [hd]; rfl, rfl⟩
def placeP (l : List Int) (n : Int) : Int := if n ∈ l then (ixP l n : Nat) else -1
theorem ix_first : ∀ {l : List Int} {k : Nat} {n : Int}, l[k]? = some n → (∀ j x, j < k → l[j]? = some x → x ≠ n) → ixP l n = k
  | [], k, n, h, _ => by simp at h
  | x :: l, 0, n, h, _ => by simp at h; unfold ixP; rw [if_pos h.symm]
  | x :: l, k + 1, n, h, h2 => by
    unfold ixP
    rw [if_neg (fun e => h2 0 x (by omega) rfl e.symm), ix_first (k := k) (by simpa using h) (fun j y hj hy => h2 (j + 1) y (by omega) (by simpa using hy))]
theorem place_K {w0 : World} {H : Heap} {v : Value} {l : List Int} {n : Int} (hS : Sli w0 H iE v l) (hl : l.length ≤ 100000) :
    Call Try.prog w0 12 [v, .int .i64 n] H (fun r H' => r = .int .i64 (placeP l n) ∧ H' = H) := by
  refine Call.enter2 (n := 19) (by kernel_rfl) Try.func12 rfl rfl rfl ?_
  refine K.seq ?_
  refine K.region ?_
  (refine KL.v rfl (Val.assign rfl) ?_)
  refine KL.nil ?_
  refine KE.next ?_
  refine K.seq ?_
  refine K.seq ?_
  refine K.region ?_
  (refine KL.v rfl (Val.assign rfl) ?_)
  refine KL.nil ?_
  refine KE.next ?_
  refine K.block ?_
  refine K.loopT (σ := Nat) [(0, _), (1, _)] (fun s kp_ => (5, .int .i64 (s : Nat)) :: kp_) (fun s => H) (fun s => s ≤ l.length ∧ ∀ j x, j < s → l[j]? = some x → x ≠ n) (fun s => l.length - s) (0) bySub byPart (⟨by omega, fun j x hj => by omega⟩) ?_
  rintro k ⟨hk, hno⟩
  by_cases hlt : k < l.length
  · obtain ⟨x, hx⟩ := get_of_lt hlt
    by_cases hxn : x = n
    · subst hxn
      have hp : placeP l x = (k : Nat) := by unfold placeP; rw [if_pos (List.mem_of_getElem? hx), ix_first hx hno]
      refine K.seq ?_
      refine K.seq ?_
      refine K.region ?_
      (refine KL.v rfl (Val.move rfl) ?_)
      (refine KL.v rfl (Val.move rfl) ?_)
      (refine KL.v rfl (Val.lenSl rfl rfl bySli) ?_)
      (refine KL.v rfl (Val.isT (Val.lss rfl rfl) byLt) ?_)
      refine KL.nil ?_
      refine KE.next ?_
      refine K.condT rfl ?_
      refine K.skip ?_
      refine KE.next ?_
      refine K.seq ?_
      refine K.block ?_
      refine K.seq ?_
      refine K.region ?_
      (refine KL.v rfl (Val.move rfl) ?_)
      (refine KL.v rfl (Val.move rfl) ?_)
      (refine KL.v rfl (Val.idxSl rfl rfl rfl bySli rfl byLt) ?_)
      (refine KL.v rfl (Val.loadP rfl rfl bySee) ?_)
      (refine KL.v rfl (Val.move rfl) ?_)
      (refine KL.v rfl (Val.isT (Val.eql rfl rfl) byLt) ?_)
      refine KL.nil ?_
      refine KE.next ?_
      refine K.condT rfl ?_
      refine K.seq ?_
      refine K.region ?_
      (refine KL.v rfl (Val.move rfl) ?_)
      (refine KL.v rfl (Val.assign rfl) ?_)
      refine KL.nil ?_
      refine KE.next ?_
      refine K.ret ?_
      refine KE.blkR ?_
      refine KE.passR ?_
      refine KE.passR ?_
      refine KE.blkR ?_
      refine KE.passR ?_
      exact KE.fin byMarks rfl byRes byPart ⟨by rw [hp]; rfl, rfl⟩
    · refine K.seq ?_
      refine K.seq ?_
      refine K.region ?_
      (refine KL.v rfl (Val.move rfl) ?_)
      (refine KL.v rfl (Val.move rfl) ?_)
      (refine KL.v rfl (Val.lenSl rfl rfl bySli) ?_)
      (refine KL.v rfl (Val.isT (Val.lss rfl rfl) byLt) ?_)
      refine KL.nil ?_
      refine KE.next ?_
      refine K.condT rfl ?_
      refine K.skip ?_
      refine KE.next ?_
      refine K.seq ?_
      refine K.block ?_
      refine K.seq ?_
      refine K.region ?_
      (refine KL.v rfl (Val.move rfl) ?_)
      (refine KL.v rfl (Val.move rfl) ?_)
      (refine KL.v rfl (Val.idxSl rfl rfl rfl bySli rfl byLt) ?_)
      (refine KL.v rfl (Val.loadP rfl rfl bySee) ?_)
      (refine KL.v rfl (Val.move rfl) ?_)
      (refine KL.v rfl (Val.isF (Val.eql rfl rfl) byLt) ?_)
      refine KL.nil ?_
      refine KE.next ?_
      refine K.condF rfl ?_
      refine K.skip ?_
      refine KE.blkN ?_
      refine KE.next ?_
      refine K.region ?_
      (refine KL.v rfl (Val.move rfl) ?_)
      (refine KL.v rfl (Val.add rfl rfl (by simp only [Go.Proofs.Ythamkgghnjenhaa.lo, Go.Proofs.Ythamkgghnjenhaa.hi]; omega)) ?_)
      (refine KL.v rfl (Val.assign rfl) ?_)
      refine KL.nil ?_
      refine KE.again (k + 1) bySub byPart ⟨by omega, fun j y hj hy => ?_⟩ (by omega)
      by_cases e : j = k
      · subst e; rw [hx] at hy; cases hy; exact hxn
      · exact hno j y (by omega) hy
  · have hp : placeP l n = -1 := by
      unfold placeP
      rw [if_neg]
      intro hm
      obtain ⟨j, hj⟩ := List.getElem?_of_mem hm
      have := lt_of_get hj
      exact hno j n (by omega) hj rfl
    refine K.seq ?_
    refine K.seq ?_
    refine K.region ?_
    (refine KL.v rfl (Val.move rfl) ?_)
    (refine KL.v rfl (Val.move rfl) ?_)
    (refine KL.v rfl (Val.lenSl rfl rfl bySli) ?_)
    (refine KL.v rfl (Val.isF (Val.lss rfl rfl) byLt) ?_)
    refine KL.nil ?_
    refine KE.next ?_
    refine K.condF rfl ?_
    refine K.exit ?_
    refine KE.passX ?_
    refine KE.passX ?_
    refine KE.blkX ?_
    refine KE.next ?_
    refine K.seq ?_
    refine K.region ?_
    (refine KL.v rfl (Val.assign rfl) ?_)
    refine KL.nil ?_
    refine KE.next ?_
    refine K.ret ?_
    exact KE.fin byMarks rfl byRes byPart ⟨by rw [hp]; rfl, rfl⟩
structure MdS where
  k : Nat
  sm : SM
set_option maxHeartbeats 1000000 in
theorem made_K {w0 : World} {vc vl : Value} {cl : List Int} {l : List OpP} {q c : Int} (hC : SlW w0 iE vc cl) (hL : SlW w0 opE vl l) (hok : ∀ op ∈ l, op.ok) (hcl : cl.length ≤ 1000) (hl : l.length ≤ 60) :
    Call Try.prog w0 8 [kindV vc q c, vl] []
      (fun r H' => (newOk cl q c ∧ ∃ sm, SOk sm ∧ Inv sm.st ∧ sm.st.quota = q ∧ sm.st.caps = c ∧ sm.st.cl = cl ∧ sm.made ≤ 60 ∧ sm.minted ≤ 60 ∧ (l = [] → sm.st = newS cl q c) ∧ r = .pointer (some ⟨sm.b, 0, none⟩) ∧ H' = smH sm) ∨ (¬ newOk cl q c ∧ r = .pointer none ∧ H' = [])) := by
  have hC1 := hC.one
  unfold kindV
  refine Call.enter2 (n := 33) (by kernel_rfl) Try.func8 rfl rfl rfl ?_
  refine K.seq ?_
  refine K.region ?_
  (refine KL.e rfl (Eff.box rfl rfl) ?_; rintro _ _ ⟨b2, rfl, rfl⟩)
  (refine KL.v rfl (Val.assign rfl) ?_)
  refine KL.nil ?_
  refine KE.next ?_
  refine K.seq ?_
  refine K.region ?_
  (refine KL.v rfl (Val.fieldAddr0 (k := 0) rfl rfl) ?_)
  (refine KL.v rfl (Val.loadP rfl rfl (Sees.cell byTake rfl)) ?_)
  (refine KL.v rfl (Val.fieldAddr0 (k := 1) rfl rfl) ?_)
  (refine KL.v rfl (Val.loadP rfl rfl (Sees.cell byTake rfl)) ?_)
  (refine KL.v rfl (Val.fieldAddr0 (k := 2) rfl rfl) ?_)
  (refine KL.v rfl (Val.loadP rfl rfl (Sees.cell byTake rfl)) ?_)
  (refine KL.callc rfl rfl byEvL fun T hT => ?_)
  refine (CallV.pure fun w hw => CallV.fn (New_K (hC.only hw.old) hcl)).mono ?_
  rintro _ _ ⟨_, (⟨hnew, sm0, ok0, hst0, rfl, rfl⟩ | ⟨hno, rfl, rfl⟩), rfl⟩
  · refine hT _ _ ?_; clear hT; clear T
    (refine KL.v rfl (Val.move rfl) ?_)
    (refine KL.v rfl (Val.extract rfl rfl) ?_)
    (refine KL.v rfl (Val.extract rfl rfl) ?_)
    (refine KL.v rfl (Val.assign rfl) ?_)
    (refine KL.v rfl (Val.assign rfl) ?_)
    refine KL.nil ?_
    refine KE.next ?_
    refine K.seq ?_
    refine K.seq ?_
    refine K.region ?_
    (refine KL.v rfl (Val.move rfl) ?_)
    (refine KL.v rfl (Val.isF (Val.neq rfl rfl) byLt) ?_)
    refine KL.nil ?_
    refine KE.next ?_
    refine K.condF rfl ?_
    refine K.skip ?_
    refine KE.next ?_
    refine K.seq ?_
    refine K.seq ?_
    refine K.region ?_
    (refine KL.v rfl (Val.assign rfl) ?_)
    refine KL.nil ?_
    refine KE.next ?_
    refine K.block ?_
    refine K.loopT (σ := MdS) [(1, _), (5, _)] (fun s kp_ => (7, .int .i64 (s.k : Nat)) :: kp_) (fun s => smH s.sm ++ []) (fun s => s.k ≤ l.length ∧ SOk s.sm ∧ s.sm.b = sm0.b ∧ Inv s.sm.st ∧ s.sm.st.quota = q ∧ s.sm.st.caps = c ∧ s.sm.st.cl = cl ∧ s.sm.made ≤ s.k ∧ s.sm.minted ≤ s.k ∧ (s.k = 0 → s.sm.st = newS cl q c)) (fun s => l.length - s.k) (⟨0, sm0⟩) bySub byPart (⟨by simp, ok0, rfl, by rw [hst0]; exact inv_new hnew, by rw [hst0]; rfl, by rw [hst0]; rfl, by rw [hst0]; rfl, Nat.le_of_eq (congrArg St.made hst0), Nat.le_of_eq (congrArg St.minted hst0), fun _ => hst0⟩) ?_
    rintro ⟨k, sm⟩ ⟨hk, ok, hb, hI, hq, hc, hcl', hmd, hmt, h0⟩
    dsimp only at hk ok hb hI hq hc hcl' hmd hmt h0 ⊢
    rw [← hb]
    by_cases hlt : k < l.length
    · obtain ⟨op, hop⟩ := get_of_lt hlt
      obtain ⟨o1, o2, o3, o4, o5, o6⟩ := hok op (List.mem_of_getElem? hop)
      refine K.seq ?_
      refine K.seq ?_
      refine K.region ?_
      (refine KL.v rfl (Val.move rfl) ?_)
      (refine KL.v rfl (Val.move rfl) ?_)
      (refine KL.v rfl (Val.lenSl rfl rfl (Sli.old (by assumption))) ?_)
      (refine KL.v rfl (Val.isT (Val.lss rfl rfl) byLt) ?_)
      refine KL.nil ?_
      refine KE.next ?_
      refine K.condT rfl ?_
      refine K.skip ?_
      refine KE.next ?_
      refine K.seq ?_
      refine K.block ?_
      refine K.region ?_
      (refine KL.v rfl (Val.move rfl) ?_)
      (refine KL.v rfl (Val.move rfl) ?_)
      (refine KL.v rfl (Val.move rfl) ?_)
      (refine KL.v rfl (Val.idxSl rfl rfl rfl (Sli.old (by assumption)) rfl byLt) ?_)
      (refine KL.v rfl (Val.loadAP rfl rfl rfl bySeeA) ?_)
      (refine KL.callc rfl rfl byEvL fun T hT => ?_)
      refine (CallV.part (CallV.fn (Do_K (op := op) (F := []) ok hI.st (by omega) (by omega) o1)) byPart).mono ?_
      rintro _ _ ⟨sm', ok', hb', hD, rfl, rfl⟩
      have hO := out_inv hI (out_of hI ⟨o5.1, by have := o5.2; omega⟩ hD)
      refine hT _ _ ?_; clear hT; clear T
      refine KL.nil ?_
      refine KE.blkN ?_
      refine KE.next ?_
      refine K.region ?_
      (refine KL.v rfl (Val.move rfl) ?_)
      (refine KL.v rfl (Val.add rfl rfl (by simp only [Go.Proofs.Ythamkgghnjenhaa.lo, Go.Proofs.Ythamkgghnjenhaa.hi]; omega)) ?_)
      (refine KL.v rfl (Val.assign rfl) ?_)
      refine KL.nil ?_
      exact KE.again ⟨k + 1, sm'⟩ bySub byPart ⟨by show k + 1 ≤ _; omega, ok', by show sm'.b = sm.b; exact hb', hO.1, by rw [hO.2.2.2.1]; exact hq, by rw [hO.2.2.2.2.2]; exact hc, by rw [hO.2.2.2.2.1]; exact hcl', Nat.le_trans hO.2.1 (Nat.succ_le_succ hmd), Nat.le_trans hO.2.2.1 (Nat.succ_le_succ hmt), fun h => by cases h⟩ (by show l.length - (k + 1) < l.length - k; omega)
    · refine K.seq ?_
      refine K.seq ?_
      refine K.region ?_
      (refine KL.v rfl (Val.move rfl) ?_)
      (refine KL.v rfl (Val.move rfl) ?_)
      (refine KL.v rfl (Val.lenSl rfl rfl (Sli.old (by assumption))) ?_)
      (refine KL.v rfl (Val.isF (Val.lss rfl rfl) byLt) ?_)
      refine KL.nil ?_
      refine KE.next ?_
      refine K.condF rfl ?_
      refine K.exit ?_
      refine KE.passX ?_
      refine KE.passX ?_
      refine KE.blkX ?_
      refine KE.next ?_
      refine K.seq ?_
      refine K.region ?_
      (refine KL.v rfl (Val.move rfl) ?_)
      (refine KL.v rfl (Val.assign rfl) ?_)
      refine KL.nil ?_
      refine KE.next ?_
      refine K.ret ?_
      exact KE.fin byMarks rfl byRes byPart (.inl ⟨hnew, sm, ok, hI, hq, hc, hcl', by omega, by omega, fun h => h0 (by subst h; simp at hk; exact hk), rfl, List.append_nil _⟩)
  · refine hT _ _ ?_; clear hT; clear T
    (refine KL.v rfl (Val.move rfl) ?_)
    (refine KL.v rfl (Val.extract rfl rfl) ?_)
    (refine KL.v rfl (Val.extract rfl rfl) ?_)
    (refine KL.v rfl (Val.assign rfl) ?_)
    (refine KL.v rfl (Val.assign rfl) ?_)
    refine KL.nil ?_
    refine KE.next ?_
    refine K.seq ?_
    refine K.seq ?_
    refine K.region ?_
    (refine KL.v rfl (Val.move rfl) ?_)
    (refine KL.v rfl (Val.isT (Val.neq rfl rfl) byLt) ?_)
    refine KL.nil ?_
    refine KE.next ?_
    refine K.condT rfl ?_
    refine K.seq ?_
    refine K.region ?_
    (refine KL.v rfl (Val.assign rfl) ?_)
    refine KL.nil ?_
    refine KE.next ?_
    refine K.ret ?_
    refine KE.passR ?_
    exact KE.fin byMarks rfl byRes byPart (.inr ⟨hno, rfl, rfl⟩)
end Go.Proofs.Ythamkgghnjenhaa
