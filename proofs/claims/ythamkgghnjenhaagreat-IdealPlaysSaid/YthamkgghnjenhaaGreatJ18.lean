/- Ideal: size classes and heads. Ideal: sort.Search, class.Of, class.Round. Ideal: the store's small functions. Ideal: slices.Clone. Ideal: own. -/
import Derived.Test.YthamkgghnjenhaaGreatJ14
import Derived.Test.YthamkgghnjenhaaGreatJ17
namespace Go.Proofs.YthamkgghnjenhaaGreat
open Go.RowKit
set_option linter.unusedVariables false
set_option linter.unusedSimpArgs false

/-! ## class.Check -/
/-- rising, from above a number on -/
def riseP : Int → List Int → Bool
  | _, [] => true
  | a, x :: l => decide (a < x) && riseP x l
def classP (l : List Int) : Bool := decide (1 ≤ l.length) && decide (l.length ≤ 8) && decide ((l.getLast?).getD 65 ≤ 64) && riseP 1 l
def errB (b : Bool) (e : Int) : Int := if b then 0 else e
theorem rise_split {l : List Int} : ∀ {k : Nat} {a : Int}, riseP a l = (riseP a (l.take k) && riseP (((l.take k).getLast?).getD a) (l.drop k)) := by
  induction l with
  | nil => intro k a; cases k <;> rfl
  | cons x l ih =>
    intro k a
    cases k with
    | zero => simp [riseP]
    | succ k =>
      simp only [riseP, List.take_succ_cons, List.drop_succ_cons]
      rw [ih (k := k) (a := x), Bool.and_assoc]
      congr 2
      cases hk : l.take k with
      | nil => simp
      | cons y r => simp [List.getLast?_cons]
structure CkS where
  k : Nat
  last : Int
set_option maxRecDepth 10000 in
theorem Check_K {w0 : World} {H : Heap} {v : Value} {l : List Int} (hS : Sli w0 H iE v l) (hl : l.length ≤ 1000000) :
    Call Tryz.prog w0 17 [v] H (fun r H' => r = .int .i64 (errB (classP l) 2) ∧ H' = H) := by
  refine Call.enter1 (n := 34) (by kernel_rfl) Tryz.func17 rfl rfl rfl ?_
  by_cases h1 : l.length < 1
  · have hc : classP l = false := by simp [classP]; omega
    have h1' : ((l.length : Nat) : Int) < 1 := by omega
    refine K.seq ?_
    refine K.region ?_
    (refine KL.v rfl (Val.assign rfl) ?_)
    refine KL.nil ?_
    refine KE.next ?_
    refine K.seq ?_
    refine K.seq ?_
    refine K.region ?_
    (refine KL.v rfl (Val.move rfl) ?_)
    (refine KL.v rfl (Val.lenSl rfl rfl bySli) ?_)
    (refine KL.v rfl (Val.isT (Val.lss rfl rfl) byLt) ?_)
    (refine KL.v rfl (Val.move rfl) ?_)
    refine KL.skipG rfl rfl rfl ?_
    refine KL.skipG rfl rfl rfl ?_
    refine KL.skipG rfl rfl rfl ?_
    (refine KL.v rfl (Val.pickT rfl rfl rfl) ?_)
    (refine KL.v rfl (Val.move rfl) ?_)
    refine KL.skipG rfl rfl rfl ?_
    refine KL.skipG rfl rfl rfl ?_
    refine KL.skipG rfl rfl rfl ?_
    refine KL.skipG rfl rfl rfl ?_
    refine KL.skipG rfl rfl rfl ?_
    refine KL.skipG rfl rfl rfl ?_
    refine KL.skipG rfl rfl rfl ?_
    (refine KL.v rfl (Val.pickT rfl rfl rfl) ?_)
    refine KL.nil ?_
    refine KE.next ?_
    refine K.condT rfl ?_
    refine K.seq ?_
    refine K.region ?_
    (refine KL.v rfl (Val.assign rfl) ?_)
    refine KL.nil ?_
    refine KE.next ?_
    refine K.ret ?_
    refine KE.passR ?_
    exact KE.fin byMarks rfl byRes byPart ⟨by rw [hc]; rfl, rfl⟩
  by_cases h8 : 8 < l.length
  · have hc : classP l = false := by simp [classP]; omega
    refine K.seq ?_
    refine K.region ?_
    (refine KL.v rfl (Val.assign rfl) ?_)
    refine KL.nil ?_
    refine KE.next ?_
    refine K.seq ?_
    refine K.seq ?_
    refine K.region ?_
    (refine KL.v rfl (Val.move rfl) ?_)
    (refine KL.v rfl (Val.lenSl rfl rfl bySli) ?_)
    (refine KL.v rfl (Val.isF (Val.lss rfl rfl) byLt) ?_)
    (refine KL.v rfl (Val.move rfl) ?_)
    (refine KL.yes rfl rfl ?_; refine KL.v rfl (Val.move rfl) ?_)
    (refine KL.yes rfl rfl ?_; refine KL.v rfl (Val.lenSl rfl rfl bySli) ?_)
    (refine KL.yes rfl rfl ?_; refine KL.v rfl (Val.isT (Val.gtr rfl rfl) byLt) ?_)
    (refine KL.v rfl (Val.pickF rfl rfl rfl) ?_)
    (refine KL.v rfl (Val.move rfl) ?_)
    refine KL.skipG rfl rfl rfl ?_
    refine KL.skipG rfl rfl rfl ?_
    refine KL.skipG rfl rfl rfl ?_
    refine KL.skipG rfl rfl rfl ?_
    refine KL.skipG rfl rfl rfl ?_
    refine KL.skipG rfl rfl rfl ?_
    refine KL.skipG rfl rfl rfl ?_
    (refine KL.v rfl (Val.pickT rfl rfl rfl) ?_)
    refine KL.nil ?_
    refine KE.next ?_
    refine K.condT rfl ?_
    refine K.seq ?_
    refine K.region ?_
    (refine KL.v rfl (Val.assign rfl) ?_)
    refine KL.nil ?_
    refine KE.next ?_
    refine K.ret ?_
    refine KE.passR ?_
    exact KE.fin byMarks rfl byRes byPart ⟨by rw [hc]; rfl, rfl⟩
  obtain ⟨z, hz⟩ := get_of_lt (l := l) (k := l.length - 1) (by omega)
  have hzl : l.getLast? = some z := by rw [List.getLast?_eq_getElem?]; exact hz
  have hz' : l[(((l.length : Nat) : Int) - 1).toNat]? = some z := by rw [show (((l.length : Nat) : Int) - 1).toNat = l.length - 1 by omega]; exact hz
  by_cases h64 : z > 64
  · have hc : classP l = false := by simp [classP, hzl]; omega
    refine K.seq ?_
    refine K.region ?_
    (refine KL.v rfl (Val.assign rfl) ?_)
    refine KL.nil ?_
    refine KE.next ?_
    refine K.seq ?_
    refine K.seq ?_
    refine K.region ?_
    (refine KL.v rfl (Val.move rfl) ?_)
    (refine KL.v rfl (Val.lenSl rfl rfl bySli) ?_)
    (refine KL.v rfl (Val.isF (Val.lss rfl rfl) byLt) ?_)
    (refine KL.v rfl (Val.move rfl) ?_)
    (refine KL.yes rfl rfl ?_; refine KL.v rfl (Val.move rfl) ?_)
    (refine KL.yes rfl rfl ?_; refine KL.v rfl (Val.lenSl rfl rfl bySli) ?_)
    (refine KL.yes rfl rfl ?_; refine KL.v rfl (Val.isF (Val.gtr rfl rfl) byLt) ?_)
    (refine KL.v rfl (Val.pickF rfl rfl rfl) ?_)
    (refine KL.v rfl (Val.move rfl) ?_)
    (refine KL.yes rfl rfl ?_; refine KL.v rfl (Val.move rfl) ?_)
    (refine KL.yes rfl rfl ?_; refine KL.v rfl (Val.move rfl) ?_)
    (refine KL.yes rfl rfl ?_; refine KL.v rfl (Val.lenSl rfl rfl bySli) ?_)
    (refine KL.yes rfl rfl ?_; refine KL.v rfl (Val.sub rfl rfl (by simp only [Go.Proofs.YthamkgghnjenhaaGreat.lo, Go.Proofs.YthamkgghnjenhaaGreat.hi]; omega)) ?_)
    (refine KL.yes rfl rfl ?_; refine KL.v rfl (Val.idxSlZ rfl rfl rfl bySli rfl (by omega)) ?_)
    (refine KL.yes rfl rfl ?_; refine KL.v rfl (Val.loadP rfl rfl bySee) ?_)
    (refine KL.yes rfl rfl ?_; refine KL.v rfl (Val.isT (Val.gtr rfl rfl) byLt) ?_)
    (refine KL.v rfl (Val.pickF rfl rfl rfl) ?_)
    refine KL.nil ?_
    refine KE.next ?_
    refine K.condT rfl ?_
    refine K.seq ?_
    refine K.region ?_
    (refine KL.v rfl (Val.assign rfl) ?_)
    refine KL.nil ?_
    refine KE.next ?_
    refine K.ret ?_
    refine KE.passR ?_
    exact KE.fin byMarks rfl byRes byPart ⟨by rw [hc]; rfl, rfl⟩
  have hcr : classP l = riseP 1 l := by simp [classP, hzl]; omega
  refine K.seq ?_
  refine K.region ?_
  (refine KL.v rfl (Val.assign rfl) ?_)
  refine KL.nil ?_
  refine KE.next ?_
  refine K.seq ?_
  refine K.seq ?_
  refine K.region ?_
  (refine KL.v rfl (Val.move rfl) ?_)
  (refine KL.v rfl (Val.lenSl rfl rfl bySli) ?_)
  (refine KL.v rfl (Val.isF (Val.lss rfl rfl) byLt) ?_)
  (refine KL.v rfl (Val.move rfl) ?_)
  (refine KL.yes rfl rfl ?_; refine KL.v rfl (Val.move rfl) ?_)
  (refine KL.yes rfl rfl ?_; refine KL.v rfl (Val.lenSl rfl rfl bySli) ?_)
  (refine KL.yes rfl rfl ?_; refine KL.v rfl (Val.isF (Val.gtr rfl rfl) byLt) ?_)
  (refine KL.v rfl (Val.pickF rfl rfl rfl) ?_)
  (refine KL.v rfl (Val.move rfl) ?_)
  (refine KL.yes rfl rfl ?_; refine KL.v rfl (Val.move rfl) ?_)
  (refine KL.yes rfl rfl ?_; refine KL.v rfl (Val.move rfl) ?_)
  (refine KL.yes rfl rfl ?_; refine KL.v rfl (Val.lenSl rfl rfl bySli) ?_)
  (refine KL.yes rfl rfl ?_; refine KL.v rfl (Val.sub rfl rfl (by simp only [Go.Proofs.YthamkgghnjenhaaGreat.lo, Go.Proofs.YthamkgghnjenhaaGreat.hi]; omega)) ?_)
  (refine KL.yes rfl rfl ?_; refine KL.v rfl (Val.idxSlZ rfl rfl rfl bySli rfl (by omega)) ?_)
  (refine KL.yes rfl rfl ?_; refine KL.v rfl (Val.loadP rfl rfl bySee) ?_)
  (refine KL.yes rfl rfl ?_; refine KL.v rfl (Val.isF (Val.gtr rfl rfl) byLt) ?_)
  (refine KL.v rfl (Val.pickF rfl rfl rfl) ?_)
  refine KL.nil ?_
  refine KE.next ?_
  refine K.condF rfl ?_
  refine K.skip ?_
  refine KE.next ?_
  refine K.seq ?_
  refine K.region ?_
  (refine KL.v rfl (Val.assign rfl) ?_)
  refine KL.nil ?_
  refine KE.next ?_
  refine K.seq ?_
  refine K.seq ?_
  refine K.region ?_
  (refine KL.v rfl (Val.move rfl) ?_)
  (refine KL.v rfl (Val.lenSl rfl rfl bySli) ?_)
  (refine KL.v rfl (Val.move rfl) ?_)
  refine KL.nil ?_
  refine KE.next ?_
  refine K.block ?_
  refine K.loopT (σ := CkS) [(23, _), (24, _)] (fun s kp_ => (25, .int .i64 (s.k : Nat)) :: (3, .int .i64 s.last) :: kp_) (fun s => H) (fun s => s.k ≤ l.length ∧ riseP 1 l = riseP s.last (l.drop s.k)) (fun s => l.length - s.k) (⟨0, 1⟩) bySub byPart (⟨by simp, by simp⟩) ?_
  rintro ⟨k, last⟩ ⟨hk, hr⟩
  dsimp only at hk hr ⊢
  by_cases hlt : k < l.length
  · obtain ⟨x, hx⟩ := get_of_lt hlt
    have hd : l.drop k = x :: l.drop (k + 1) := by
      obtain ⟨h1, e⟩ := List.getElem?_eq_some_iff.1 hx
      rw [List.drop_eq_getElem_cons h1, e]
    rw [hd] at hr
    simp only [riseP] at hr
    by_cases hxl : x ≤ last
    · have hc : classP l = false := by rw [hcr, hr]; simp; omega
      refine K.seq ?_
      refine K.region ?_
      (refine KL.v rfl (Val.isT (Val.lss rfl rfl) byLt) ?_)
      refine KL.nil ?_
      refine KE.next ?_
      refine K.seq ?_
      refine K.condT rfl ?_
      refine K.skip ?_
      refine KE.next ?_
      refine K.seq ?_
      refine K.block ?_
      refine K.seq ?_
      refine K.region ?_
      (refine KL.v rfl (Val.idxSl rfl rfl rfl bySli rfl byLt) ?_)
      (refine KL.v rfl (Val.loadP rfl rfl bySee) ?_)
      (refine KL.v rfl (Val.assign rfl) ?_)
      refine KL.nil ?_
      refine KE.next ?_
      refine K.seq ?_
      refine K.seq ?_
      refine K.region ?_
      (refine KL.v rfl (Val.move rfl) ?_)
      (refine KL.v rfl (Val.move rfl) ?_)
      (refine KL.v rfl (Val.isT (Val.leq rfl rfl) byLt) ?_)
      refine KL.nil ?_
      refine KE.next ?_
      refine K.condT rfl ?_
      refine K.seq ?_
      refine K.region ?_
      (refine KL.v rfl (Val.assign rfl) ?_)
      refine KL.nil ?_
      refine KE.next ?_
      refine K.ret ?_
      refine KE.passR ?_
      refine KE.blkR ?_
      refine KE.passR ?_
      refine KE.passR ?_
      refine KE.blkR ?_
      refine KE.passR ?_
      exact KE.fin byMarks rfl byRes byPart ⟨by rw [hc]; rfl, rfl⟩
    · rw [decide_eq_true (show last < x by omega), Bool.true_and] at hr
      refine K.seq ?_
      refine K.region ?_
      (refine KL.v rfl (Val.isT (Val.lss rfl rfl) byLt) ?_)
      refine KL.nil ?_
      refine KE.next ?_
      refine K.seq ?_
      refine K.condT rfl ?_
      refine K.skip ?_
      refine KE.next ?_
      refine K.seq ?_
      refine K.block ?_
      refine K.seq ?_
      refine K.region ?_
      (refine KL.v rfl (Val.idxSl rfl rfl rfl bySli rfl byLt) ?_)
      (refine KL.v rfl (Val.loadP rfl rfl bySee) ?_)
      (refine KL.v rfl (Val.assign rfl) ?_)
      refine KL.nil ?_
      refine KE.next ?_
      refine K.seq ?_
      refine K.seq ?_
      refine K.region ?_
      (refine KL.v rfl (Val.move rfl) ?_)
      (refine KL.v rfl (Val.move rfl) ?_)
      (refine KL.v rfl (Val.isF (Val.leq rfl rfl) byLt) ?_)
      refine KL.nil ?_
      refine KE.next ?_
      refine K.condF rfl ?_
      refine K.skip ?_
      refine KE.next ?_
      refine K.region ?_
      (refine KL.v rfl (Val.move rfl) ?_)
      (refine KL.v rfl (Val.assign rfl) ?_)
      refine KL.nil ?_
      refine KE.blkN ?_
      refine KE.next ?_
      refine K.region ?_
      (refine KL.v rfl (Val.add rfl rfl (by simp only [Go.Proofs.YthamkgghnjenhaaGreat.lo, Go.Proofs.YthamkgghnjenhaaGreat.hi]; omega)) ?_)
      (refine KL.v rfl (Val.move rfl) ?_)
      refine KL.nil ?_
      exact KE.again ⟨k + 1, x⟩ bySub byPart ⟨by show k + 1 ≤ _; omega, hr⟩ (by show l.length - (k + 1) < l.length - k; omega)
  · have hc : classP l = true := by rw [hcr, hr, List.drop_of_length_le (by omega)]; rfl
    refine K.seq ?_
    refine K.region ?_
    (refine KL.v rfl (Val.isF (Val.lss rfl rfl) byLt) ?_)
    refine KL.nil ?_
    refine KE.next ?_
    refine K.seq ?_
    refine K.condF rfl ?_
    refine K.exit ?_
    refine KE.passX ?_
    refine KE.passX ?_
    refine KE.blkX ?_
    refine KE.next ?_
    refine K.seq ?_
    refine K.region ?_
    (refine KL.v rfl (Val.assign rfl) ?_)
    refine KL.nil ?_
    refine KE.next ?_
    refine K.ret ?_
    exact KE.fin byMarks rfl byRes byPart ⟨by rw [hc]; rfl, rfl⟩

/-! ## head.may, head.Need -/
def mayP (c r w : Int) : Bool := decide (0 ≤ c ∧ c < 8 ∧ 0 ≤ r ∧ 0 ≤ w ∧ r ≤ 63 ∧ w ≤ 63 - r)
set_option maxRecDepth 10000 in
theorem may_K {w0 : World} {H : Heap} {c r w : Int} :
    Call Tryz.prog w0 73 [.agg [.int .i64 c, .int .i64 r, .int .i64 w].toArray] H (fun v H' => v = .bool (mayP c r w) ∧ H' = H) := by
  refine Call.enter1 (n := 34) (by kernel_rfl) Tryz.func73 rfl rfl rfl ?_
  by_cases h1 : c ≥ 0
  · by_cases h2 : c < 8
    · by_cases h3 : r ≥ 0
      · by_cases h4 : w ≥ 0
        · by_cases h5 : r ≤ 63
          · by_cases h6 : w ≤ 63 - r
            · have hm : mayP c r w = true := by simp [mayP]; omega
              refine K.seq ?_
              refine K.region ?_
              (refine KL.e rfl (Eff.box rfl rfl) ?_; rintro _ _ ⟨b1, rfl, rfl⟩)
              (refine KL.v rfl (Val.assign rfl) ?_)
              refine KL.nil ?_
              refine KE.next ?_
              refine K.seq ?_
              refine K.region ?_
              (refine KL.v rfl (Val.fieldAddr0 (k := 0) rfl rfl) ?_)
              (refine KL.v rfl (Val.loadP rfl rfl (Sees.cell byTake rfl)) ?_)
              (refine KL.v rfl (Val.isT (Val.geq rfl rfl) byLt) ?_)
              (refine KL.v rfl (Val.move rfl) ?_)
              (refine KL.yes rfl rfl ?_; refine KL.v rfl (Val.fieldAddr0 (k := 0) rfl rfl) ?_)
              (refine KL.yes rfl rfl ?_; refine KL.v rfl (Val.loadP rfl rfl (Sees.cell byTake rfl)) ?_)
              (refine KL.yes rfl rfl ?_; refine KL.v rfl (Val.isT (Val.lss rfl rfl) byLt) ?_)
              (refine KL.v rfl (Val.pickT rfl rfl rfl) ?_)
              (refine KL.v rfl (Val.move rfl) ?_)
              (refine KL.yes rfl rfl ?_; refine KL.v rfl (Val.fieldAddr0 (k := 1) rfl rfl) ?_)
              (refine KL.yes rfl rfl ?_; refine KL.v rfl (Val.loadP rfl rfl (Sees.cell byTake rfl)) ?_)
              (refine KL.yes rfl rfl ?_; refine KL.v rfl (Val.isT (Val.geq rfl rfl) byLt) ?_)
              (refine KL.v rfl (Val.pickT rfl rfl rfl) ?_)
              (refine KL.v rfl (Val.move rfl) ?_)
              (refine KL.yes rfl rfl ?_; refine KL.v rfl (Val.fieldAddr0 (k := 2) rfl rfl) ?_)
              (refine KL.yes rfl rfl ?_; refine KL.v rfl (Val.loadP rfl rfl (Sees.cell byTake rfl)) ?_)
              (refine KL.yes rfl rfl ?_; refine KL.v rfl (Val.isT (Val.geq rfl rfl) byLt) ?_)
              (refine KL.v rfl (Val.pickT rfl rfl rfl) ?_)
              (refine KL.v rfl (Val.move rfl) ?_)
              (refine KL.yes rfl rfl ?_; refine KL.v rfl (Val.fieldAddr0 (k := 1) rfl rfl) ?_)
              (refine KL.yes rfl rfl ?_; refine KL.v rfl (Val.loadP rfl rfl (Sees.cell byTake rfl)) ?_)
              (refine KL.yes rfl rfl ?_; refine KL.v rfl (Val.isT (Val.leq rfl rfl) byLt) ?_)
              (refine KL.v rfl (Val.pickT rfl rfl rfl) ?_)
              (refine KL.v rfl (Val.move rfl) ?_)
              (refine KL.yes rfl rfl ?_; refine KL.v rfl (Val.fieldAddr0 (k := 2) rfl rfl) ?_)
              (refine KL.yes rfl rfl ?_; refine KL.v rfl (Val.loadP rfl rfl (Sees.cell byTake rfl)) ?_)
              (refine KL.yes rfl rfl ?_; refine KL.v rfl (Val.fieldAddr0 (k := 1) rfl rfl) ?_)
              (refine KL.yes rfl rfl ?_; refine KL.v rfl (Val.loadP rfl rfl (Sees.cell byTake rfl)) ?_)
              (refine KL.yes rfl rfl ?_; refine KL.v rfl (Val.sub rfl rfl (by simp only [Go.Proofs.YthamkgghnjenhaaGreat.lo, Go.Proofs.YthamkgghnjenhaaGreat.hi]; omega)) ?_)
              (refine KL.yes rfl rfl ?_; refine KL.v rfl (Val.isT (Val.leq rfl rfl) byLt) ?_)
              (refine KL.v rfl (Val.pickT rfl rfl rfl) ?_)
              (refine KL.v rfl (Val.assign rfl) ?_)
              refine KL.nil ?_
              refine KE.next ?_
              refine K.ret ?_
              exact KE.fin byMarks rfl byRes byPart ⟨by rw [hm]; rfl, rfl⟩
            · have hm : mayP c r w = false := by simp [mayP]; omega
              refine K.seq ?_
              refine K.region ?_
              (refine KL.e rfl (Eff.box rfl rfl) ?_; rintro _ _ ⟨b1, rfl, rfl⟩)
              (refine KL.v rfl (Val.assign rfl) ?_)
              refine KL.nil ?_
              refine KE.next ?_
              refine K.seq ?_
              refine K.region ?_
              (refine KL.v rfl (Val.fieldAddr0 (k := 0) rfl rfl) ?_)
              (refine KL.v rfl (Val.loadP rfl rfl (Sees.cell byTake rfl)) ?_)
              (refine KL.v rfl (Val.isT (Val.geq rfl rfl) byLt) ?_)
              (refine KL.v rfl (Val.move rfl) ?_)
              (refine KL.yes rfl rfl ?_; refine KL.v rfl (Val.fieldAddr0 (k := 0) rfl rfl) ?_)
              (refine KL.yes rfl rfl ?_; refine KL.v rfl (Val.loadP rfl rfl (Sees.cell byTake rfl)) ?_)
              (refine KL.yes rfl rfl ?_; refine KL.v rfl (Val.isT (Val.lss rfl rfl) byLt) ?_)
              (refine KL.v rfl (Val.pickT rfl rfl rfl) ?_)
              (refine KL.v rfl (Val.move rfl) ?_)
              (refine KL.yes rfl rfl ?_; refine KL.v rfl (Val.fieldAddr0 (k := 1) rfl rfl) ?_)
              (refine KL.yes rfl rfl ?_; refine KL.v rfl (Val.loadP rfl rfl (Sees.cell byTake rfl)) ?_)
              (refine KL.yes rfl rfl ?_; refine KL.v rfl (Val.isT (Val.geq rfl rfl) byLt) ?_)
              (refine KL.v rfl (Val.pickT rfl rfl rfl) ?_)
              (refine KL.v rfl (Val.move rfl) ?_)
              (refine KL.yes rfl rfl ?_; refine KL.v rfl (Val.fieldAddr0 (k := 2) rfl rfl) ?_)
              (refine KL.yes rfl rfl ?_; refine KL.v rfl (Val.loadP rfl rfl (Sees.cell byTake rfl)) ?_)
              (refine KL.yes rfl rfl ?_; refine KL.v rfl (Val.isT (Val.geq rfl rfl) byLt) ?_)
              (refine KL.v rfl (Val.pickT rfl rfl rfl) ?_)
              (refine KL.v rfl (Val.move rfl) ?_)
              (refine KL.yes rfl rfl ?_; refine KL.v rfl (Val.fieldAddr0 (k := 1) rfl rfl) ?_)
              (refine KL.yes rfl rfl ?_; refine KL.v rfl (Val.loadP rfl rfl (Sees.cell byTake rfl)) ?_)
              (refine KL.yes rfl rfl ?_; refine KL.v rfl (Val.isT (Val.leq rfl rfl) byLt) ?_)
              (refine KL.v rfl (Val.pickT rfl rfl rfl) ?_)
              (refine KL.v rfl (Val.move rfl) ?_)
              (refine KL.yes rfl rfl ?_; refine KL.v rfl (Val.fieldAddr0 (k := 2) rfl rfl) ?_)
              (refine KL.yes rfl rfl ?_; refine KL.v rfl (Val.loadP rfl rfl (Sees.cell byTake rfl)) ?_)
              (refine KL.yes rfl rfl ?_; refine KL.v rfl (Val.fieldAddr0 (k := 1) rfl rfl) ?_)
              (refine KL.yes rfl rfl ?_; refine KL.v rfl (Val.loadP rfl rfl (Sees.cell byTake rfl)) ?_)
              (refine KL.yes rfl rfl ?_; refine KL.v rfl (Val.sub rfl rfl (by simp only [Go.Proofs.YthamkgghnjenhaaGreat.lo, Go.Proofs.YthamkgghnjenhaaGreat.hi]; omega)) ?_)
              (refine KL.yes rfl rfl ?_; refine KL.v rfl (Val.isF (Val.leq rfl rfl) byLt) ?_)
              (refine KL.v rfl (Val.pickT rfl rfl rfl) ?_)
              (refine KL.v rfl (Val.assign rfl) ?_)
              refine KL.nil ?_
              refine KE.next ?_
              refine K.ret ?_
              exact KE.fin byMarks rfl byRes byPart ⟨by rw [hm]; rfl, rfl⟩
          · have hm : mayP c r w = false := by simp [mayP]; omega
            refine K.seq ?_
            refine K.region ?_
            (refine KL.e rfl (Eff.box rfl rfl) ?_; rintro _ _ ⟨b1, rfl, rfl⟩)
            (refine KL.v rfl (Val.assign rfl) ?_)
            refine KL.nil ?_
            refine KE.next ?_
            refine K.seq ?_
            refine K.region ?_
            (refine KL.v rfl (Val.fieldAddr0 (k := 0) rfl rfl) ?_)
            (refine KL.v rfl (Val.loadP rfl rfl (Sees.cell byTake rfl)) ?_)
            (refine KL.v rfl (Val.isT (Val.geq rfl rfl) byLt) ?_)
            (refine KL.v rfl (Val.move rfl) ?_)
            (refine KL.yes rfl rfl ?_; refine KL.v rfl (Val.fieldAddr0 (k := 0) rfl rfl) ?_)
            (refine KL.yes rfl rfl ?_; refine KL.v rfl (Val.loadP rfl rfl (Sees.cell byTake rfl)) ?_)
            (refine KL.yes rfl rfl ?_; refine KL.v rfl (Val.isT (Val.lss rfl rfl) byLt) ?_)
            (refine KL.v rfl (Val.pickT rfl rfl rfl) ?_)
            (refine KL.v rfl (Val.move rfl) ?_)
            (refine KL.yes rfl rfl ?_; refine KL.v rfl (Val.fieldAddr0 (k := 1) rfl rfl) ?_)
            (refine KL.yes rfl rfl ?_; refine KL.v rfl (Val.loadP rfl rfl (Sees.cell byTake rfl)) ?_)
            (refine KL.yes rfl rfl ?_; refine KL.v rfl (Val.isT (Val.geq rfl rfl) byLt) ?_)
            (refine KL.v rfl (Val.pickT rfl rfl rfl) ?_)
            (refine KL.v rfl (Val.move rfl) ?_)
            (refine KL.yes rfl rfl ?_; refine KL.v rfl (Val.fieldAddr0 (k := 2) rfl rfl) ?_)
            (refine KL.yes rfl rfl ?_; refine KL.v rfl (Val.loadP rfl rfl (Sees.cell byTake rfl)) ?_)
            (refine KL.yes rfl rfl ?_; refine KL.v rfl (Val.isT (Val.geq rfl rfl) byLt) ?_)
            (refine KL.v rfl (Val.pickT rfl rfl rfl) ?_)
            (refine KL.v rfl (Val.move rfl) ?_)
            (refine KL.yes rfl rfl ?_; refine KL.v rfl (Val.fieldAddr0 (k := 1) rfl rfl) ?_)
            (refine KL.yes rfl rfl ?_; refine KL.v rfl (Val.loadP rfl rfl (Sees.cell byTake rfl)) ?_)
            (refine KL.yes rfl rfl ?_; refine KL.v rfl (Val.isF (Val.leq rfl rfl) byLt) ?_)
            (refine KL.v rfl (Val.pickT rfl rfl rfl) ?_)
            (refine KL.v rfl (Val.move rfl) ?_)
            refine KL.skipG rfl rfl rfl ?_
            refine KL.skipG rfl rfl rfl ?_
            refine KL.skipG rfl rfl rfl ?_
            refine KL.skipG rfl rfl rfl ?_
            refine KL.skipG rfl rfl rfl ?_
            refine KL.skipG rfl rfl rfl ?_
            (refine KL.v rfl (Val.pickF rfl rfl rfl) ?_)
            (refine KL.v rfl (Val.assign rfl) ?_)
            refine KL.nil ?_
            refine KE.next ?_
            refine K.ret ?_
            exact KE.fin byMarks rfl byRes byPart ⟨by rw [hm]; rfl, rfl⟩
        · have hm : mayP c r w = false := by simp [mayP]; omega
          refine K.seq ?_
          refine K.region ?_
          (refine KL.e rfl (Eff.box rfl rfl) ?_; rintro _ _ ⟨b1, rfl, rfl⟩)
          (refine KL.v rfl (Val.assign rfl) ?_)
          refine KL.nil ?_
          refine KE.next ?_
          refine K.seq ?_
          refine K.region ?_
          (refine KL.v rfl (Val.fieldAddr0 (k := 0) rfl rfl) ?_)
          (refine KL.v rfl (Val.loadP rfl rfl (Sees.cell byTake rfl)) ?_)
          (refine KL.v rfl (Val.isT (Val.geq rfl rfl) byLt) ?_)
          (refine KL.v rfl (Val.move rfl) ?_)
          (refine KL.yes rfl rfl ?_; refine KL.v rfl (Val.fieldAddr0 (k := 0) rfl rfl) ?_)
          (refine KL.yes rfl rfl ?_; refine KL.v rfl (Val.loadP rfl rfl (Sees.cell byTake rfl)) ?_)
          (refine KL.yes rfl rfl ?_; refine KL.v rfl (Val.isT (Val.lss rfl rfl) byLt) ?_)
          (refine KL.v rfl (Val.pickT rfl rfl rfl) ?_)
          (refine KL.v rfl (Val.move rfl) ?_)
          (refine KL.yes rfl rfl ?_; refine KL.v rfl (Val.fieldAddr0 (k := 1) rfl rfl) ?_)
          (refine KL.yes rfl rfl ?_; refine KL.v rfl (Val.loadP rfl rfl (Sees.cell byTake rfl)) ?_)
          (refine KL.yes rfl rfl ?_; refine KL.v rfl (Val.isT (Val.geq rfl rfl) byLt) ?_)
          (refine KL.v rfl (Val.pickT rfl rfl rfl) ?_)
          (refine KL.v rfl (Val.move rfl) ?_)
          (refine KL.yes rfl rfl ?_; refine KL.v rfl (Val.fieldAddr0 (k := 2) rfl rfl) ?_)
          (refine KL.yes rfl rfl ?_; refine KL.v rfl (Val.loadP rfl rfl (Sees.cell byTake rfl)) ?_)
          (refine KL.yes rfl rfl ?_; refine KL.v rfl (Val.isF (Val.geq rfl rfl) byLt) ?_)
          (refine KL.v rfl (Val.pickT rfl rfl rfl) ?_)
          (refine KL.v rfl (Val.move rfl) ?_)
          refine KL.skipG rfl rfl rfl ?_
          refine KL.skipG rfl rfl rfl ?_
          refine KL.skipG rfl rfl rfl ?_
          (refine KL.v rfl (Val.pickF rfl rfl rfl) ?_)
          (refine KL.v rfl (Val.move rfl) ?_)
          refine KL.skipG rfl rfl rfl ?_
          refine KL.skipG rfl rfl rfl ?_
          refine KL.skipG rfl rfl rfl ?_
          refine KL.skipG rfl rfl rfl ?_
          refine KL.skipG rfl rfl rfl ?_
          refine KL.skipG rfl rfl rfl ?_
          (refine KL.v rfl (Val.pickF rfl rfl rfl) ?_)
          (refine KL.v rfl (Val.assign rfl) ?_)
          refine KL.nil ?_
          refine KE.next ?_
          refine K.ret ?_
          exact KE.fin byMarks rfl byRes byPart ⟨by rw [hm]; rfl, rfl⟩
      · have hm : mayP c r w = false := by simp [mayP]; omega
        refine K.seq ?_
        refine K.region ?_
        (refine KL.e rfl (Eff.box rfl rfl) ?_; rintro _ _ ⟨b1, rfl, rfl⟩)
        (refine KL.v rfl (Val.assign rfl) ?_)
        refine KL.nil ?_
        refine KE.next ?_
        refine K.seq ?_
        refine K.region ?_
        (refine KL.v rfl (Val.fieldAddr0 (k := 0) rfl rfl) ?_)
        (refine KL.v rfl (Val.loadP rfl rfl (Sees.cell byTake rfl)) ?_)
        (refine KL.v rfl (Val.isT (Val.geq rfl rfl) byLt) ?_)
        (refine KL.v rfl (Val.move rfl) ?_)
        (refine KL.yes rfl rfl ?_; refine KL.v rfl (Val.fieldAddr0 (k := 0) rfl rfl) ?_)
        (refine KL.yes rfl rfl ?_; refine KL.v rfl (Val.loadP rfl rfl (Sees.cell byTake rfl)) ?_)
        (refine KL.yes rfl rfl ?_; refine KL.v rfl (Val.isT (Val.lss rfl rfl) byLt) ?_)
        (refine KL.v rfl (Val.pickT rfl rfl rfl) ?_)
        (refine KL.v rfl (Val.move rfl) ?_)
        (refine KL.yes rfl rfl ?_; refine KL.v rfl (Val.fieldAddr0 (k := 1) rfl rfl) ?_)
        (refine KL.yes rfl rfl ?_; refine KL.v rfl (Val.loadP rfl rfl (Sees.cell byTake rfl)) ?_)
        (refine KL.yes rfl rfl ?_; refine KL.v rfl (Val.isF (Val.geq rfl rfl) byLt) ?_)
        (refine KL.v rfl (Val.pickT rfl rfl rfl) ?_)
        (refine KL.v rfl (Val.move rfl) ?_)
        refine KL.skipG rfl rfl rfl ?_
        refine KL.skipG rfl rfl rfl ?_
        refine KL.skipG rfl rfl rfl ?_
        (refine KL.v rfl (Val.pickF rfl rfl rfl) ?_)
        (refine KL.v rfl (Val.move rfl) ?_)
        refine KL.skipG rfl rfl rfl ?_
        refine KL.skipG rfl rfl rfl ?_
        refine KL.skipG rfl rfl rfl ?_
        (refine KL.v rfl (Val.pickF rfl rfl rfl) ?_)
        (refine KL.v rfl (Val.move rfl) ?_)
        refine KL.skipG rfl rfl rfl ?_
        refine KL.skipG rfl rfl rfl ?_
        refine KL.skipG rfl rfl rfl ?_
        refine KL.skipG rfl rfl rfl ?_
        refine KL.skipG rfl rfl rfl ?_
        refine KL.skipG rfl rfl rfl ?_
        (refine KL.v rfl (Val.pickF rfl rfl rfl) ?_)
        (refine KL.v rfl (Val.assign rfl) ?_)
        refine KL.nil ?_
        refine KE.next ?_
        refine K.ret ?_
        exact KE.fin byMarks rfl byRes byPart ⟨by rw [hm]; rfl, rfl⟩
    · have hm : mayP c r w = false := by simp [mayP]; omega
      refine K.seq ?_
      refine K.region ?_
      (refine KL.e rfl (Eff.box rfl rfl) ?_; rintro _ _ ⟨b1, rfl, rfl⟩)
      (refine KL.v rfl (Val.assign rfl) ?_)
      refine KL.nil ?_
      refine KE.next ?_
      refine K.seq ?_
      refine K.region ?_
      (refine KL.v rfl (Val.fieldAddr0 (k := 0) rfl rfl) ?_)
      (refine KL.v rfl (Val.loadP rfl rfl (Sees.cell byTake rfl)) ?_)
      (refine KL.v rfl (Val.isT (Val.geq rfl rfl) byLt) ?_)
      (refine KL.v rfl (Val.move rfl) ?_)
      (refine KL.yes rfl rfl ?_; refine KL.v rfl (Val.fieldAddr0 (k := 0) rfl rfl) ?_)
      (refine KL.yes rfl rfl ?_; refine KL.v rfl (Val.loadP rfl rfl (Sees.cell byTake rfl)) ?_)
      (refine KL.yes rfl rfl ?_; refine KL.v rfl (Val.isF (Val.lss rfl rfl) byLt) ?_)
      (refine KL.v rfl (Val.pickT rfl rfl rfl) ?_)
      (refine KL.v rfl (Val.move rfl) ?_)
      refine KL.skipG rfl rfl rfl ?_
      refine KL.skipG rfl rfl rfl ?_
      refine KL.skipG rfl rfl rfl ?_
      (refine KL.v rfl (Val.pickF rfl rfl rfl) ?_)
      (refine KL.v rfl (Val.move rfl) ?_)
      refine KL.skipG rfl rfl rfl ?_
      refine KL.skipG rfl rfl rfl ?_
      refine KL.skipG rfl rfl rfl ?_
      (refine KL.v rfl (Val.pickF rfl rfl rfl) ?_)
      (refine KL.v rfl (Val.move rfl) ?_)
      refine KL.skipG rfl rfl rfl ?_
      refine KL.skipG rfl rfl rfl ?_
      refine KL.skipG rfl rfl rfl ?_
      (refine KL.v rfl (Val.pickF rfl rfl rfl) ?_)
      (refine KL.v rfl (Val.move rfl) ?_)
      refine KL.skipG rfl rfl rfl ?_
      refine KL.skipG rfl rfl rfl ?_
      refine KL.skipG rfl rfl rfl ?_
      refine KL.skipG rfl rfl rfl ?_
      refine KL.skipG rfl rfl rfl ?_
      refine KL.skipG rfl rfl rfl ?_
      (refine KL.v rfl (Val.pickF rfl rfl rfl) ?_)
      (refine KL.v rfl (Val.assign rfl) ?_)
      refine KL.nil ?_
      refine KE.next ?_
      refine K.ret ?_
      exact KE.fin byMarks rfl byRes byPart ⟨by rw [hm]; rfl, rfl⟩
  · have hm : mayP c r w = false := by simp [mayP]; omega
    refine K.seq ?_
    refine K.region ?_
    (refine KL.e rfl (Eff.box rfl rfl) ?_; rintro _ _ ⟨b1, rfl, rfl⟩)
    (refine KL.v rfl (Val.assign rfl) ?_)
    refine KL.nil ?_
    refine KE.next ?_
    refine K.seq ?_
    refine K.region ?_
    (refine KL.v rfl (Val.fieldAddr0 (k := 0) rfl rfl) ?_)
    (refine KL.v rfl (Val.loadP rfl rfl (Sees.cell byTake rfl)) ?_)
    (refine KL.v rfl (Val.isF (Val.geq rfl rfl) byLt) ?_)
    (refine KL.v rfl (Val.move rfl) ?_)
    refine KL.skipG rfl rfl rfl ?_
    refine KL.skipG rfl rfl rfl ?_
    refine KL.skipG rfl rfl rfl ?_
    (refine KL.v rfl (Val.pickF rfl rfl rfl) ?_)
    (refine KL.v rfl (Val.move rfl) ?_)
    refine KL.skipG rfl rfl rfl ?_
    refine KL.skipG rfl rfl rfl ?_
    refine KL.skipG rfl rfl rfl ?_
    (refine KL.v rfl (Val.pickF rfl rfl rfl) ?_)
    (refine KL.v rfl (Val.move rfl) ?_)
    refine KL.skipG rfl rfl rfl ?_
    refine KL.skipG rfl rfl rfl ?_
    refine KL.skipG rfl rfl rfl ?_
    (refine KL.v rfl (Val.pickF rfl rfl rfl) ?_)
    (refine KL.v rfl (Val.move rfl) ?_)
    refine KL.skipG rfl rfl rfl ?_
    refine KL.skipG rfl rfl rfl ?_
    refine KL.skipG rfl rfl rfl ?_
    (refine KL.v rfl (Val.pickF rfl rfl rfl) ?_)
    (refine KL.v rfl (Val.move rfl) ?_)
    refine KL.skipG rfl rfl rfl ?_
    refine KL.skipG rfl rfl rfl ?_
    refine KL.skipG rfl rfl rfl ?_
    refine KL.skipG rfl rfl rfl ?_
    refine KL.skipG rfl rfl rfl ?_
    refine KL.skipG rfl rfl rfl ?_
    (refine KL.v rfl (Val.pickF rfl rfl rfl) ?_)
    (refine KL.v rfl (Val.assign rfl) ?_)
    refine KL.nil ?_
    refine KE.next ?_
    refine K.ret ?_
    exact KE.fin byMarks rfl byRes byPart ⟨by rw [hm]; rfl, rfl⟩
set_option maxRecDepth 10000 in
theorem Need_K {w0 : World} {H : Heap} {c r w : Int} :
    Call Tryz.prog w0 60 [.agg [.int .i64 c, .int .i64 r, .int .i64 w].toArray] H (fun v H' => v = .tuple [.int .i64 (if mayP c r w then r + w + 1 else 0), .int .i64 (errB (mayP c r w) 2)].toArray ∧ H' = H) := by
  refine Call.enter1 (n := 13) (by kernel_rfl) Tryz.func60 rfl rfl rfl ?_
  refine K.seq ?_
  refine K.region ?_
  (refine KL.e rfl (Eff.box rfl rfl) ?_; rintro _ _ ⟨b1, rfl, rfl⟩)
  (refine KL.v rfl (Val.assign rfl) ?_)
  (refine KL.v rfl (Val.assign rfl) ?_)
  refine KL.nil ?_
  refine KE.next ?_
  refine K.seq ?_
  refine K.seq ?_
  refine K.region ?_
  (refine KL.v rfl (Val.loadA rfl rfl rfl bySeeN) ?_)
  (refine KL.callc rfl rfl byEvL fun T hT => ?_)
  refine (CallV.fn (may_K)).mono ?_
  rintro _ _ ⟨rfl, rfl⟩
  cases hm : mayP c r w with
  | true =>
    have hb : 0 ≤ r ∧ 0 ≤ w ∧ r ≤ 63 ∧ w ≤ 63 := by simp [mayP] at hm; omega
    refine hT _ _ ?_; clear hT; clear T
    (refine KL.v rfl (Val.notT rfl) ?_)
    refine KL.nil ?_
    refine KE.next ?_
    refine K.condF rfl ?_
    refine K.skip ?_
    refine KE.next ?_
    refine K.seq ?_
    refine K.region ?_
    (refine KL.v rfl (Val.fieldAddr0 (k := 1) rfl rfl) ?_)
    (refine KL.v rfl (Val.loadP rfl rfl (Sees.cell byTake rfl)) ?_)
    (refine KL.v rfl (Val.fieldAddr0 (k := 2) rfl rfl) ?_)
    (refine KL.v rfl (Val.loadP rfl rfl (Sees.cell byTake rfl)) ?_)
    (refine KL.v rfl (Val.add rfl rfl (by simp only [Go.Proofs.YthamkgghnjenhaaGreat.lo, Go.Proofs.YthamkgghnjenhaaGreat.hi]; omega)) ?_)
    (refine KL.v rfl (Val.add rfl rfl (by simp only [Go.Proofs.YthamkgghnjenhaaGreat.lo, Go.Proofs.YthamkgghnjenhaaGreat.hi]; omega)) ?_)
    (refine KL.v rfl (Val.assign rfl) ?_)
    (refine KL.v rfl (Val.assign rfl) ?_)
    refine KL.nil ?_
    refine KE.next ?_
    refine K.ret ?_
    exact KE.fin byMarks rfl byRes byPart ⟨by rw [hm]; rfl, rfl⟩
  | false =>
    refine hT _ _ ?_; clear hT; clear T
    (refine KL.v rfl (Val.notF rfl) ?_)
    refine KL.nil ?_
    refine KE.next ?_
    refine K.condT rfl ?_
    refine K.seq ?_
    refine K.region ?_
    (refine KL.v rfl (Val.assign rfl) ?_)
    (refine KL.v rfl (Val.assign rfl) ?_)
    refine KL.nil ?_
    refine KE.next ?_
    refine K.ret ?_
    refine KE.passR ?_
    exact KE.fin byMarks rfl byRes byPart ⟨by rw [hm]; rfl, rfl⟩
end Go.Proofs.YthamkgghnjenhaaGreat
namespace Go.Proofs.YthamkgghnjenhaaGreat
open Go.RowKit
set_option linter.unusedVariables false
set_option linter.unusedSimpArgs false

structure SeS where
  i : Nat
  j : Nat
set_option maxRecDepth 10000 in
theorem Search_K {w0 : World} {H : Heap} {fv : Value} {n : Nat} (p : Nat → Bool) (hn : n ≤ 1000000) (hmono : ∀ i j, i ≤ j → j < n → p i = true → p j = true)
    (hy : ∀ i, i < n → CallV Tryz.prog w0 fv [.int .i64 (i : Nat)] H (fun r H' => r = .bool (p i) ∧ H' = H)) :
    Call Tryz.prog w0 90 [.int .i64 (n : Nat), fv] H (fun r H' => ∃ i : Nat, i ≤ n ∧ (∀ j, j < i → p j = false) ∧ (∀ j, i ≤ j → j < n → p j = true) ∧ r = .int .i64 (i : Nat) ∧ H' = H) := by
  refine Call.enter2 (n := 26) (by kernel_rfl) Tryz.func90 rfl rfl rfl ?_
  refine K.seq ?_
  refine K.region ?_
  (refine KL.v rfl (Val.assign rfl) ?_)
  refine KL.nil ?_
  refine KE.next ?_
  refine K.seq ?_
  refine K.region ?_
  (refine KL.v rfl (Val.move rfl) ?_)
  (refine KL.v rfl (Val.assign rfl) ?_)
  (refine KL.v rfl (Val.assign rfl) ?_)
  refine KL.nil ?_
  refine KE.next ?_
  refine K.seq ?_
  refine K.block ?_
  refine K.loopT (σ := SeS) [(1, _)] (fun s kp_ => (5, .int .i64 (s.i : Nat)) :: (6, .int .i64 (s.j : Nat)) :: kp_) (fun s => H) (fun s => s.i ≤ s.j ∧ s.j ≤ n ∧ (∀ q, q < s.i → p q = false) ∧ (∀ q, s.j ≤ q → q < n → p q = true)) (fun s => s.j - s.i) (⟨0, n⟩) bySub byPart (⟨by simp, by simp, fun q hq => by simp at hq, fun q h1 h2 => by dsimp only at h1; omega⟩) ?_
  rintro ⟨i, j⟩ ⟨hij, hjn, hlo, hhi⟩
  dsimp only at hij hjn hlo hhi ⊢
  by_cases hlt : i < j
  · have hmid : IntKind.i64.wrap (((i : Int) + (j : Int)).fdiv (2 ^ min (Int.toNat 1) IntKind.u64.bits)) = (((i + j) / 2 : Nat) : Int) := by
      have e : (2 : Int) ^ min (Int.toNat 1) IntKind.u64.bits = 2 := by decide
      rw [e]
      have e2 : ((i : Int) + (j : Int)).fdiv 2 = (((i + j) / 2 : Nat) : Int) := by
        rw [Int.fdiv_eq_ediv_of_nonneg _ (by omega)]; omega
      rw [e2]
      exact wrap_in (by simp only [Go.Proofs.YthamkgghnjenhaaGreat.lo, Go.Proofs.YthamkgghnjenhaaGreat.hi]; omega)
    obtain ⟨h, hh⟩ : ∃ h, h = (i + j) / 2 := ⟨_, rfl⟩
    rw [← hh] at hmid
    have hih : i ≤ h := by omega
    have hhj : h < j := by omega
    refine K.seq ?_
    refine K.seq ?_
    refine K.region ?_
    (refine KL.v rfl (Val.move rfl) ?_)
    (refine KL.v rfl (Val.move rfl) ?_)
    (refine KL.v rfl (Val.isT (Val.lss rfl rfl) byLt) ?_)
    refine KL.nil ?_
    refine KE.next ?_
    refine K.condT rfl ?_
    refine K.skip ?_
    refine KE.next ?_
    refine K.block ?_
    refine K.seq ?_
    refine K.region ?_
    (refine KL.v rfl (Val.move rfl) ?_)
    (refine KL.v rfl (Val.move rfl) ?_)
    (refine KL.v rfl (Val.add rfl rfl (by simp only [Go.Proofs.YthamkgghnjenhaaGreat.lo, Go.Proofs.YthamkgghnjenhaaGreat.hi]; omega)) ?_)
    (refine KL.v rfl (Val.conv rfl rfl rfl (by simp only [Go.Proofs.YthamkgghnjenhaaGreat.lo, Go.Proofs.YthamkgghnjenhaaGreat.hi]; omega)) ?_)
    (refine KL.v rfl (Val.shr rfl rfl (by omega)) ?_)
    (refine KL.v rfl (Val.convW rfl rfl rfl) ?_)
    (refine KL.v rfl (Val.assign rfl) ?_)
    refine KL.nil ?_
    refine KE.next ?_
    refine K.seq ?_
    refine K.region ?_
    (refine KL.v rfl (Val.move rfl) ?_)
    (refine KL.v rfl (Val.move rfl) ?_)
    (refine KL.callc rfl rfl byEvL fun T hT => ?_)
    rw [hmid] at hT ⊢
    refine (hy h (by omega)).mono ?_
    rintro _ _ ⟨rfl, rfl⟩
    cases hp : p h with
    | true =>
      refine hT _ _ ?_; clear hT; clear T
      (refine KL.v rfl (Val.notT rfl) ?_)
      refine KL.nil ?_
      refine KE.next ?_
      refine K.condF rfl ?_
      refine K.region ?_
      (refine KL.v rfl (Val.move rfl) ?_)
      (refine KL.v rfl (Val.assign rfl) ?_)
      refine KL.nil ?_
      refine KE.blkN ?_
      exact KE.again ⟨i, h⟩ bySub byPart ⟨hih, by dsimp only; omega, hlo, fun q h1 h2 => hmono h q h1 h2 hp⟩ (by show h - i < j - i; omega)
    | false =>
      have hlo2 : ∀ q, q < h + 1 → p q = false := by
        intro q hq
        cases hpq : p q with
        | false => rfl
        | true =>
          have := hmono q h (by omega) (by omega) hpq
          rw [hp] at this
          cases this
      refine hT _ _ ?_; clear hT; clear T
      (refine KL.v rfl (Val.notF rfl) ?_)
      refine KL.nil ?_
      refine KE.next ?_
      refine K.condT rfl ?_
      refine K.region ?_
      (refine KL.v rfl (Val.move rfl) ?_)
      (refine KL.v rfl (Val.add rfl rfl (by simp only [Go.Proofs.YthamkgghnjenhaaGreat.lo, Go.Proofs.YthamkgghnjenhaaGreat.hi]; omega)) ?_)
      (refine KL.v rfl (Val.assign rfl) ?_)
      refine KL.nil ?_
      refine KE.blkN ?_
      exact KE.again ⟨h + 1, j⟩ bySub byPart ⟨by dsimp only; omega, hjn, hlo2, hhi⟩ (by show j - (h + 1) < j - i; omega)
  · have : i = j := by omega
    subst this
    refine K.seq ?_
    refine K.seq ?_
    refine K.region ?_
    (refine KL.v rfl (Val.move rfl) ?_)
    (refine KL.v rfl (Val.move rfl) ?_)
    (refine KL.v rfl (Val.isF (Val.lss rfl rfl) byLt) ?_)
    refine KL.nil ?_
    refine KE.next ?_
    refine K.condF rfl ?_
    refine K.exit ?_
    refine KE.passX ?_
    refine KE.passX ?_
    refine KE.blkX ?_
    refine KE.next ?_
    refine K.seq ?_
    refine K.region ?_
    (refine KL.v rfl (Val.move rfl) ?_)
    (refine KL.v rfl (Val.assign rfl) ?_)
    refine KL.nil ?_
    refine KE.next ?_
    refine K.ret ?_
    exact KE.fin byMarks rfl byRes byPart ⟨i, by omega, hlo, hhi, rfl, rfl⟩

set_option maxRecDepth 10000 in
theorem of1_K {w0 : World} {F : Heap} {v : Value} {l : List Int} {n : Int} {i b1 b2 : Nat} {x : Int} (hS : SlW w0 iE v l) (hx : l[i]? = some x) :
    Call Tryz.prog w0 91 [.int .i64 (i : Nat), .pointer (some ⟨b1, 0, none⟩), .pointer (some ⟨b2, 0, none⟩)] ((b1, cells [v] 22) :: (b2, cells [.int .i64 n] 3) :: F)
      (fun r H' => r = .bool (decide (n ≤ x)) ∧ H' = (b1, cells [v] 22) :: (b2, cells [.int .i64 n] 3) :: F) := by
  refine Call.enter3 (n := 11) (by kernel_rfl) Tryz.func91 rfl rfl rfl ?_
  have hi := lt_of_get hx
  refine K.seq ?_
  refine K.region ?_
  (refine KL.v rfl (Val.assign rfl) ?_)
  refine KL.nil ?_
  refine KE.next ?_
  refine K.seq ?_
  refine K.drawn _ [(0, 0), (1, 0), (2, 0), (3, 0), (4, 0), (5, 0), (6, 0)] (by kernel_rfl) (by kernel_rfl) (by kernel_rfl) (by kernel_rfl) (by kernel_rfl) (by kernel_rfl) Part.all ?_
  refine KD.v0 rfl rfl (Val.loadP rfl rfl (Sees.cell byTake rfl)) ?_
  refine KD.v0 rfl rfl (Val.move rfl) ?_
  refine KD.v0 rfl rfl (Val.idxSl rfl rfl rfl (Sli.old (by assumption)) rfl byLt) ?_
  refine KD.v0 rfl rfl (Val.loadP rfl rfl (Sees.sl0 (Sli.old (by assumption)) (by assumption) rfl)) ?_
  refine KD.v0 rfl rfl (Val.loadP rfl rfl (Sees.cell byTake rfl)) ?_
  refine KD.v0 rfl rfl (Val.geq rfl rfl) ?_
  refine KD.v0 rfl rfl (Val.assign rfl) ?_
  refine KD.nil ?_
  refine KE.next ?_
  refine K.ret ?_
  exact KE.fin byMarks rfl byRes byPart ⟨rfl, rfl⟩
/-- the place of the first class that has so many words; the length, if there is none -/
def firstP (n : Int) : List Int → Nat
  | [] => 0
  | x :: l => if n ≤ x then 0 else firstP n l + 1
theorem first_eq {n : Int} : ∀ {l : List Int} {i : Nat}, i ≤ l.length → (∀ j x, j < i → l[j]? = some x → ¬ n ≤ x) → (∀ x, l[i]? = some x → n ≤ x) → firstP n l = i
  | [], i, h, _, _ => by simp at h; subst h; rfl
  | x :: l, 0, _, _, h3 => by simp [firstP, h3 x rfl]
  | x :: l, i + 1, h1, h2, h3 => by
    have := h2 0 x (by omega) rfl
    simp only [firstP, if_neg this]
    rw [first_eq (by simpa using h1) (fun j y hj hy => h2 (j + 1) y (by omega) (by simpa using hy)) (fun y hy => h3 y (by simpa using hy))]
theorem rise_pair : ∀ {l : List Int} {a : Int}, riseP a l = true → (∀ x ∈ l, a < x) ∧ l.Pairwise (· < ·)
  | [], a, _ => ⟨by simp, List.Pairwise.nil⟩
  | x :: l, a, h => by
    simp only [riseP, Bool.and_eq_true, decide_eq_true_eq] at h
    obtain ⟨h1, h2⟩ := rise_pair h.2
    refine ⟨fun y hy => ?_, List.pairwise_cons.2 ⟨h1, h2⟩⟩
    rcases List.mem_cons.1 hy with rfl | hy
    · exact h.1
    · have := h1 y hy; omega
theorem class_mono {l : List Int} (h : classP l = true) {i j : Nat} {x y : Int} (hij : i ≤ j) (hx : l[i]? = some x) (hy : l[j]? = some y) : x ≤ y := by
  simp only [classP, Bool.and_eq_true] at h
  have hp := (rise_pair h.2).2
  rcases Nat.lt_or_ge i j with h1 | h1
  · obtain ⟨g1, e1⟩ := List.getElem?_eq_some_iff.1 hx
    obtain ⟨g2, e2⟩ := List.getElem?_eq_some_iff.1 hy
    have := List.pairwise_iff_getElem.1 hp i j g1 g2 h1
    rw [e1, e2] at this
    omega
  · have : i = j := by omega
    subst this
    rw [hx] at hy; cases hy; omega
/-- place, error -/
def ofP (l : List Int) (n : Int) : Int × Int := if classP l then (if firstP n l = l.length ∨ n < 1 then (0, 50) else ((firstP n l : Nat), 0)) else (0, 2)
set_option maxRecDepth 10000 in
theorem Of_K {w0 : World} {v : Value} {l : List Int} {n : Int} (hS : SlW w0 iE v l) (hl : l.length ≤ 1000000) :
    Call Tryz.prog w0 74 [v, .int .i64 n] [] (fun r H' => r = .tuple [.int .i64 (ofP l n).1, .int .i64 (ofP l n).2].toArray ∧ H' = []) := by
  refine Call.enter2 (n := 26) (by kernel_rfl) Tryz.func74 rfl rfl rfl ?_
  have hvc : v.cells = [v].toArray := by obtain ⟨a, c, rfl, _⟩ := hS.shape; rfl
  refine K.seq ?_
  refine K.region ?_
  (refine KL.e rfl (Eff.box rfl (by assumption)) ?_; rintro _ _ ⟨b2, rfl, rfl⟩)
  (refine KL.e rfl (Eff.box rfl rfl) ?_; rintro _ _ ⟨b3, rfl, rfl⟩)
  (refine KL.v rfl (Val.assign rfl) ?_)
  (refine KL.v rfl (Val.assign rfl) ?_)
  refine KL.nil ?_
  refine KE.next ?_
  refine K.seq ?_
  refine K.seq ?_
  refine K.region ?_
  (refine KL.v rfl (Val.loadP rfl rfl (Sees.cell byTake rfl)) ?_)
  (refine KL.callc rfl rfl byEvL fun T hT => ?_)
  refine (CallV.fn (Check_K (Sli.old hS) hl)).mono ?_
  rintro _ _ ⟨rfl, rfl⟩
  cases hc : classP l with
  | false =>
    have ho : ofP l n = (0, 2) := by simp [ofP, hc]
    simp only [errB, Bool.false_eq_true, if_false]
    refine hT _ _ ?_; clear hT; clear T
    (refine KL.v rfl (Val.assign rfl) ?_)
    refine KL.nil ?_
    refine KE.next ?_
    refine K.seq ?_
    refine K.region ?_
    (refine KL.v rfl (Val.move rfl) ?_)
    (refine KL.v rfl (Val.isT (Val.neq rfl rfl) byLt) ?_)
    refine KL.nil ?_
    refine KE.next ?_
    refine K.condT rfl ?_
    refine K.seq ?_
    refine K.region ?_
    (refine KL.v rfl (Val.move rfl) ?_)
    (refine KL.v rfl (Val.assign rfl) ?_)
    (refine KL.v rfl (Val.assign rfl) ?_)
    refine KL.nil ?_
    refine KE.next ?_
    refine K.ret ?_
    refine KE.passR ?_
    exact KE.fin byMarks rfl byRes byPart ⟨by rw [ho]; rfl, rfl⟩
  | true =>
    simp only [errB, if_true]
    refine hT _ _ ?_; clear hT; clear T
    (refine KL.v rfl (Val.assign rfl) ?_)
    refine KL.nil ?_
    refine KE.next ?_
    refine K.seq ?_
    refine K.region ?_
    (refine KL.v rfl (Val.move rfl) ?_)
    (refine KL.v rfl (Val.isF (Val.neq rfl rfl) byLt) ?_)
    refine KL.nil ?_
    refine KE.next ?_
    refine K.condF rfl ?_
    refine K.skip ?_
    refine KE.next ?_
    refine K.seq ?_
    refine K.region ?_
    (refine KL.v rfl (Val.loadP rfl rfl (Sees.cell byTake rfl)) ?_)
    (refine KL.v rfl (Val.lenSl rfl rfl (Sli.old (by assumption))) ?_)
    (refine KL.v rfl (Val.makeFunc byEvL byEvL) ?_)
    (refine KL.callc rfl rfl byEvL fun T hT => ?_)
    refine (CallV.part (CallV.fn (Search_K (H := (b2, cells [v] 22) :: (b3, cells [.int .i64 n] 3) :: []) (n := l.length) (fun i => decide (n ≤ (l[i]?).getD 0)) hl ?_ ?_)) byPart).mono ?_
    · intro i j hij hj hp
      obtain ⟨x, hx⟩ := get_of_lt (l := l) (k := i) (by omega)
      obtain ⟨y, hy⟩ := get_of_lt hj
      have := class_mono hc hij hx hy
      simp only [hx, hy, Option.getD_some, decide_eq_true_eq] at hp ⊢
      omega
    · intro i hi
      obtain ⟨x, hx⟩ := get_of_lt hi
      refine (CallV.clo (cap := [_, _]) (of1_K (F := []) (n := n) hS hx)).mono ?_
      rintro _ _ ⟨rfl, rfl⟩
      exact ⟨by simp [hx], rfl⟩
    · rintro _ _ ⟨i, hi, hlo, hhi, rfl, rfl⟩
      have hf : firstP n l = i := first_eq hi (fun j x hj hx => by have := hlo j hj; simpa [hx] using this) (fun x hx => by have := hhi i (Nat.le_refl _) (lt_of_get hx); simpa [hx] using this)
      by_cases hil : i = l.length
      · have ho : ofP l n = (0, 50) := by simp [ofP, hc, hf, hil]
        have hil' : (i : Int) = (l.length : Nat) := by omega
        refine hT _ _ ?_; clear hT; clear T
        (refine KL.v rfl (Val.assign rfl) ?_)
        refine KL.nil ?_
        refine KE.next ?_
        refine K.seq ?_
        refine K.seq ?_
        refine K.region ?_
        (refine KL.v rfl (Val.move rfl) ?_)
        (refine KL.v rfl (Val.loadP rfl rfl (Sees.cell byTake rfl)) ?_)
        (refine KL.v rfl (Val.lenSl rfl rfl (Sli.old (by assumption))) ?_)
        (refine KL.v rfl (Val.isT (Val.eql rfl rfl) byLt) ?_)
        (refine KL.v rfl (Val.move rfl) ?_)
        refine KL.skipG rfl rfl rfl ?_
        refine KL.skipG rfl rfl rfl ?_
        (refine KL.v rfl (Val.pickT rfl rfl rfl) ?_)
        refine KL.nil ?_
        refine KE.next ?_
        refine K.condT rfl ?_
        refine K.seq ?_
        refine K.region ?_
        (refine KL.v rfl (Val.assign rfl) ?_)
        (refine KL.v rfl (Val.assign rfl) ?_)
        refine KL.nil ?_
        refine KE.next ?_
        refine K.ret ?_
        refine KE.passR ?_
        exact KE.fin byMarks rfl byRes byPart ⟨by rw [ho]; rfl, rfl⟩
      · have hil' : ¬ (i : Int) = (l.length : Nat) := by omega
        by_cases hn1 : n < 1
        · have ho : ofP l n = (0, 50) := by simp [ofP, hc, hn1]
          refine hT _ _ ?_; clear hT; clear T
          (refine KL.v rfl (Val.assign rfl) ?_)
          refine KL.nil ?_
          refine KE.next ?_
          refine K.seq ?_
          refine K.seq ?_
          refine K.region ?_
          (refine KL.v rfl (Val.move rfl) ?_)
          (refine KL.v rfl (Val.loadP rfl rfl (Sees.cell byTake rfl)) ?_)
          (refine KL.v rfl (Val.lenSl rfl rfl (Sli.old (by assumption))) ?_)
          (refine KL.v rfl (Val.isF (Val.eql rfl rfl) byLt) ?_)
          (refine KL.v rfl (Val.move rfl) ?_)
          (refine KL.yes rfl rfl ?_; refine KL.v rfl (Val.loadP rfl rfl (Sees.cell byTake rfl)) ?_)
          (refine KL.yes rfl rfl ?_; refine KL.v rfl (Val.isT (Val.lss rfl rfl) byLt) ?_)
          (refine KL.v rfl (Val.pickF rfl rfl rfl) ?_)
          refine KL.nil ?_
          refine KE.next ?_
          refine K.condT rfl ?_
          refine K.seq ?_
          refine K.region ?_
          (refine KL.v rfl (Val.assign rfl) ?_)
          (refine KL.v rfl (Val.assign rfl) ?_)
          refine KL.nil ?_
          refine KE.next ?_
          refine K.ret ?_
          refine KE.passR ?_
          exact KE.fin byMarks rfl byRes byPart ⟨by rw [ho]; rfl, rfl⟩
        · have ho : ofP l n = ((i : Int), 0) := by simp [ofP, hc, hf, hil, hn1]
          refine hT _ _ ?_; clear hT; clear T
          (refine KL.v rfl (Val.assign rfl) ?_)
          refine KL.nil ?_
          refine KE.next ?_
          refine K.seq ?_
          refine K.seq ?_
          refine K.region ?_
          (refine KL.v rfl (Val.move rfl) ?_)
          (refine KL.v rfl (Val.loadP rfl rfl (Sees.cell byTake rfl)) ?_)
          (refine KL.v rfl (Val.lenSl rfl rfl (Sli.old (by assumption))) ?_)
          (refine KL.v rfl (Val.isF (Val.eql rfl rfl) byLt) ?_)
          (refine KL.v rfl (Val.move rfl) ?_)
          (refine KL.yes rfl rfl ?_; refine KL.v rfl (Val.loadP rfl rfl (Sees.cell byTake rfl)) ?_)
          (refine KL.yes rfl rfl ?_; refine KL.v rfl (Val.isF (Val.lss rfl rfl) byLt) ?_)
          (refine KL.v rfl (Val.pickF rfl rfl rfl) ?_)
          refine KL.nil ?_
          refine KE.next ?_
          refine K.condF rfl ?_
          refine K.skip ?_
          refine KE.next ?_
          refine K.seq ?_
          refine K.region ?_
          (refine KL.v rfl (Val.move rfl) ?_)
          (refine KL.v rfl (Val.assign rfl) ?_)
          (refine KL.v rfl (Val.assign rfl) ?_)
          refine KL.nil ?_
          refine KE.next ?_
          refine K.ret ?_
          exact KE.fin byMarks rfl byRes byPart ⟨by rw [ho]; rfl, rfl⟩
/-- words, error -/
def roundP (l : List Int) (n : Int) : Int × Int := if (ofP l n).2 = 0 then ((l[firstP n l]?).getD 0, 0) else (0, (ofP l n).2)
theorem first_le (n : Int) : ∀ l : List Int, firstP n l ≤ l.length
  | [] => by simp [firstP]
  | x :: l => by
    have := first_le n l
    simp only [firstP]; split <;> simp; omega
set_option maxRecDepth 10000 in
theorem Round_K {w0 : World} {v : Value} {l : List Int} {n : Int} (hS : SlW w0 iE v l) (hl : l.length ≤ 1000000) :
    Call Tryz.prog w0 61 [v, .int .i64 n] [] (fun r H' => r = .tuple [.int .i64 (roundP l n).1, .int .i64 (roundP l n).2].toArray ∧ H' = []) := by
  refine Call.enter2 (n := 21) (by kernel_rfl) Tryz.func61 rfl rfl rfl ?_
  refine K.seq ?_
  refine K.region ?_
  (refine KL.v rfl (Val.assign rfl) ?_)
  (refine KL.v rfl (Val.assign rfl) ?_)
  refine KL.nil ?_
  refine KE.next ?_
  refine K.seq ?_
  refine K.region ?_
  (refine KL.v rfl (Val.move rfl) ?_)
  (refine KL.v rfl (Val.move rfl) ?_)
  (refine KL.callc rfl rfl byEvL fun T hT => ?_)
  refine (CallV.fn (Of_K (n := n) hS hl)).mono ?_
  rintro _ _ ⟨rfl, rfl⟩
  obtain ⟨a, ha⟩ : ∃ a, (ofP l n).1 = a := ⟨_, rfl⟩
  obtain ⟨e, he⟩ : ∃ e, (ofP l n).2 = e := ⟨_, rfl⟩
  rw [ha, he]
  by_cases h0 : e = 0
  · have hfl : firstP n l < l.length ∧ a = (firstP n l : Nat) := by
      rw [← ha]
      rw [← he] at h0
      have hle := first_le n l
      unfold ofP at h0 ⊢
      split at h0
      · split at h0
        · simp at h0
        · rename_i h1 h2
          rw [if_pos h1, if_neg h2]
          exact ⟨by omega, rfl⟩
      · simp at h0
    obtain ⟨hfl, rfl⟩ := hfl
    obtain ⟨x, hx⟩ := get_of_lt hfl
    have hr : roundP l n = (x, 0) := by simp [roundP, he, h0, hx]
    have h0' : ¬ e ≠ 0 := by omega
    refine hT _ _ ?_; clear hT; clear T
    (refine KL.v rfl (Val.move rfl) ?_)
    (refine KL.v rfl (Val.extract rfl rfl) ?_)
    (refine KL.v rfl (Val.extract rfl rfl) ?_)
    (refine KL.v rfl (Val.assign rfl) ?_)
    (refine KL.v rfl (Val.assign rfl) ?_)
    refine KL.nil ?_
    refine KE.next ?_
    refine K.seq ?_
    refine K.seq ?_
    refine K.region ?_
    (refine KL.v rfl (Val.move rfl) ?_)
    (refine KL.v rfl (Val.isF (Val.neq rfl rfl) byLt) ?_)
    refine KL.nil ?_
    refine KE.next ?_
    refine K.condF rfl ?_
    refine K.skip ?_
    refine KE.next ?_
    refine K.seq ?_
    refine K.region ?_
    (refine KL.v rfl (Val.move rfl) ?_)
    (refine KL.v rfl (Val.move rfl) ?_)
    (refine KL.v rfl (Val.idxSl rfl rfl rfl (Sli.old (by assumption)) rfl byLt) ?_)
    (refine KL.v rfl (Val.loadP rfl rfl (Sees.sl0 (Sli.old (by assumption)) (by assumption) rfl)) ?_)
    (refine KL.v rfl (Val.assign rfl) ?_)
    (refine KL.v rfl (Val.assign rfl) ?_)
    refine KL.nil ?_
    refine KE.next ?_
    refine K.ret ?_
    exact KE.fin byMarks rfl byRes byPart ⟨by rw [hr]; rfl, rfl⟩
  · have hr : roundP l n = (0, e) := by simp [roundP, he, h0]
    refine hT _ _ ?_; clear hT; clear T
    (refine KL.v rfl (Val.move rfl) ?_)
    (refine KL.v rfl (Val.extract rfl rfl) ?_)
    (refine KL.v rfl (Val.extract rfl rfl) ?_)
    (refine KL.v rfl (Val.assign rfl) ?_)
    (refine KL.v rfl (Val.assign rfl) ?_)
    refine KL.nil ?_
    refine KE.next ?_
    refine K.seq ?_
    refine K.seq ?_
    refine K.region ?_
    (refine KL.v rfl (Val.move rfl) ?_)
    (refine KL.v rfl (Val.isT (Val.neq rfl rfl) byLt) ?_)
    refine KL.nil ?_
    refine KE.next ?_
    refine K.condT rfl ?_
    refine K.seq ?_
    refine K.region ?_
    (refine KL.v rfl (Val.move rfl) ?_)
    (refine KL.v rfl (Val.assign rfl) ?_)
    (refine KL.v rfl (Val.assign rfl) ?_)
    refine KL.nil ?_
    refine KE.next ?_
    refine K.ret ?_
    refine KE.passR ?_
    exact KE.fin byMarks rfl byRes byPart ⟨by rw [hr]; rfl, rfl⟩
end Go.Proofs.YthamkgghnjenhaaGreat
namespace Go.Proofs.YthamkgghnjenhaaGreat
open Go.RowKit
set_option linter.unusedVariables false
set_option linter.unusedSimpArgs false
set_option maxRecDepth 10000 in
theorem noneN_K {w0 : World} {H : Heap} : Call Tryz.prog w0 19 [.pointer none] H (fun r H' => r = .bool true ∧ H' = H) := by
  refine Call.enter1 (n := 12) (by kernel_rfl) Tryz.func19 rfl rfl rfl ?_
  refine K.seq ?_
  refine K.region ?_
  (refine KL.v rfl (Val.assign rfl) ?_)
  refine KL.nil ?_
  refine KE.next ?_
  refine K.seq ?_
  refine K.region ?_
  (refine KL.v rfl (Val.move rfl) ?_)
  (refine KL.v rfl (Val.eqlPN rfl rfl rfl) ?_)
  (refine KL.v rfl (Val.move rfl) ?_)
  refine KL.skipG rfl rfl rfl ?_
  refine KL.skipG rfl rfl rfl ?_
  refine KL.skipG rfl rfl rfl ?_
  refine KL.skipG rfl rfl rfl ?_
  refine KL.skipG rfl rfl rfl ?_
  (refine KL.v rfl (Val.pickT rfl rfl rfl) ?_)
  (refine KL.v rfl (Val.assign rfl) ?_)
  refine KL.nil ?_
  refine KE.next ?_
  refine K.ret ?_
  exact KE.fin byMarks rfl byRes byPart ⟨rfl, rfl⟩
/-- a store's block -/
def stO (vc : Value) (quota caps : Int) (bt bh : Option Nat) (made minted : Int) : Obj := cells [vc, .int .i64 quota, .int .i64 caps, .map bt, .map bh, .int .i64 made, .int .i64 minted] 57
set_option maxRecDepth 10000 in
theorem none_K {w0 : World} {F : Heap} {b : Nat} {vc : Value} {quota caps made minted : Int} {bt bh : Option Nat} :
    Call Tryz.prog w0 19 [.pointer (some ⟨b, 0, none⟩)] ((b, stO vc quota caps bt bh made minted) :: F) (fun r H' => r = .bool bt.isNone ∧ H' = (b, stO vc quota caps bt bh made minted) :: F) := by
  refine Call.enter1 (n := 12) (by kernel_rfl) Tryz.func19 rfl rfl rfl ?_
  unfold stO
  refine K.seq ?_
  refine K.region ?_
  (refine KL.v rfl (Val.assign rfl) ?_)
  refine KL.nil ?_
  refine KE.next ?_
  refine K.seq ?_
  refine K.region ?_
  (refine KL.v rfl (Val.move rfl) ?_)
  (refine KL.v rfl (Val.eqlPN rfl rfl rfl) ?_)
  (refine KL.v rfl (Val.move rfl) ?_)
  (refine KL.yes rfl rfl ?_; refine KL.v rfl (Val.move rfl) ?_)
  (refine KL.yes rfl rfl ?_; refine KL.v rfl (Val.nilCheck rfl) ?_)
  (refine KL.yes rfl rfl ?_; refine KL.v rfl (Val.fieldAddr0 (k := 3) rfl rfl) ?_)
  (refine KL.yes rfl rfl ?_; refine KL.v rfl (Val.loadP rfl rfl (Sees.cell byTake rfl)) ?_)
  (refine KL.yes rfl rfl ?_; refine KL.v rfl (Val.eqlMN rfl rfl rfl) ?_)
  (refine KL.v rfl (Val.pickF rfl rfl rfl) ?_)
  (refine KL.v rfl (Val.assign rfl) ?_)
  refine KL.nil ?_
  refine KE.next ?_
  refine K.ret ?_
  exact KE.fin byMarks rfl byRes byPart ⟨rfl, rfl⟩
set_option maxRecDepth 10000 in
theorem Names_K {w0 : World} {F : Heap} {b : Nat} {vc : Value} {quota caps made minted h : Int} {bt bh c : Nat} {ms : List ME} (hv : ∀ e ∈ ms, ∃ z, e.v = .int .i64 z) :
    Call Tryz.prog w0 29 [.pointer (some ⟨b, 0, none⟩), .int .i64 h] ((b, stO vc quota caps (some bt) (some bh) made minted) :: (bh, mobj ms c) :: F)
      (fun r H' => r = .tuple (match mget ms h with | some v => [v, .int .i64 0] | none => [.int .i64 0, .int .i64 130]).toArray ∧ H' = (b, stO vc quota caps (some bt) (some bh) made minted) :: (bh, mobj ms c) :: F) := by
  refine Call.enter2 (n := 22) (by kernel_rfl) Tryz.func29 rfl rfl rfl ?_
  refine K.seq ?_
  refine K.region ?_
  (refine KL.v rfl (Val.assign rfl) ?_)
  (refine KL.v rfl (Val.assign rfl) ?_)
  refine KL.nil ?_
  refine KE.next ?_
  refine K.seq ?_
  refine K.seq ?_
  refine K.region ?_
  (refine KL.v rfl (Val.move rfl) ?_)
  (refine KL.callc rfl rfl byEvL fun T hT => ?_)
  refine (CallV.fn none_K).mono ?_
  rintro _ _ ⟨rfl, rfl⟩
  cases hg : mget ms h with
  | some v =>
    refine hT _ _ ?_; clear hT; clear T
    unfold stO
    refine KL.nil ?_
    refine KE.next ?_
    refine K.condF rfl ?_
    refine K.skip ?_
    refine KE.next ?_
    refine K.seq ?_
    refine K.region ?_
    (refine KL.v rfl (Val.move rfl) ?_)
    (refine KL.v rfl (Val.nilCheck rfl) ?_)
    (refine KL.v rfl (Val.fieldAddr0 (k := 4) rfl rfl) ?_)
    (refine KL.v rfl (Val.loadP rfl rfl (Sees.cell byTake rfl)) ?_)
    (refine KL.v rfl (Val.move rfl) ?_)
    (refine KL.v rfl (Val.lookOS rfl rfl rfl byTake (by assumption)) ?_)
    (refine KL.v rfl (Val.move rfl) ?_)
    (refine KL.v rfl (Val.extract rfl rfl) ?_)
    (refine KL.v rfl (Val.extract rfl rfl) ?_)
    (refine KL.v rfl (Val.assign rfl) ?_)
    (refine KL.v rfl (Val.assign rfl) ?_)
    refine KL.nil ?_
    refine KE.next ?_
    refine K.seq ?_
    refine K.seq ?_
    refine K.region ?_
    (refine KL.v rfl (Val.move rfl) ?_)
    (refine KL.v rfl (Val.notT rfl) ?_)
    refine KL.nil ?_
    refine KE.next ?_
    refine K.condF rfl ?_
    refine K.skip ?_
    refine KE.next ?_
    refine K.seq ?_
    refine K.region ?_
    (refine KL.v rfl (Val.move rfl) ?_)
    (refine KL.v rfl (Val.assign rfl) ?_)
    (refine KL.v rfl (Val.assign rfl) ?_)
    refine KL.nil ?_
    refine KE.next ?_
    refine K.ret ?_
    exact KE.fin byMarks rfl byRes byPart ⟨by rw [hg]; rfl, rfl⟩
  | none =>
    refine hT _ _ ?_; clear hT; clear T
    unfold stO
    refine KL.nil ?_
    refine KE.next ?_
    refine K.condF rfl ?_
    refine K.skip ?_
    refine KE.next ?_
    refine K.seq ?_
    refine K.region ?_
    (refine KL.v rfl (Val.move rfl) ?_)
    (refine KL.v rfl (Val.nilCheck rfl) ?_)
    (refine KL.v rfl (Val.fieldAddr0 (k := 4) rfl rfl) ?_)
    (refine KL.v rfl (Val.loadP rfl rfl (Sees.cell byTake rfl)) ?_)
    (refine KL.v rfl (Val.move rfl) ?_)
    (refine KL.v rfl (Val.lookO0 rfl rfl rfl rfl byTake (by assumption)) ?_)
    (refine KL.v rfl (Val.move rfl) ?_)
    (refine KL.v rfl (Val.extract rfl rfl) ?_)
    (refine KL.v rfl (Val.extract rfl rfl) ?_)
    (refine KL.v rfl (Val.assign rfl) ?_)
    (refine KL.v rfl (Val.assign rfl) ?_)
    refine KL.nil ?_
    refine KE.next ?_
    refine K.seq ?_
    refine K.seq ?_
    refine K.region ?_
    (refine KL.v rfl (Val.move rfl) ?_)
    (refine KL.v rfl (Val.notF rfl) ?_)
    refine KL.nil ?_
    refine KE.next ?_
    refine K.condT rfl ?_
    refine K.seq ?_
    refine K.region ?_
    (refine KL.v rfl (Val.assign rfl) ?_)
    (refine KL.v rfl (Val.assign rfl) ?_)
    refine KL.nil ?_
    refine KE.next ?_
    refine K.ret ?_
    refine KE.passR ?_
    exact KE.fin byMarks rfl byRes byPart ⟨by rw [hg]; rfl, rfl⟩
end Go.Proofs.YthamkgghnjenhaaGreat
namespace Go.Proofs.YthamkgghnjenhaaGreat
open Go.RowKit
set_option linter.unusedVariables false
set_option linter.unusedSimpArgs false
set_option maxRecDepth 10000 in
theorem Clone_K {w0 : World} {v : Value} {l : List Int} (hS : SlW w0 iE v l) (hl : l.length ≤ 4294967296) :
    Call Tryz.prog w0 16 [v] [] (fun r H' => ∃ o, oOk iE l o ∧ r = oV o l.length ∧ H' = oH iE 3 l o) := by
  refine Call.enter1 (n := 8) (by kernel_rfl) Tryz.func16 rfl rfl rfl ?_
  have hS0 := hS
  obtain ⟨a, c, rfl, h1, h2, h3⟩ := hS.shape
  cases a with
  | none =>
    have hn : l = [] := by
      cases l with
      | nil => rfl
      | cons x r => obtain ⟨b, o, h⟩ := h3 (by simp); cases h
    subst hn
    refine K.seq ?_
    refine K.region ?_
    (refine KL.v rfl (Val.assign rfl) ?_)
    refine KL.nil ?_
    refine KE.next ?_
    refine K.seq ?_
    refine K.seq ?_
    refine K.region ?_
    (refine KL.v rfl (Val.move rfl) ?_)
    (refine KL.v rfl (Val.eqlSN rfl rfl rfl) ?_)
    refine KL.nil ?_
    refine KE.next ?_
    refine K.condT rfl ?_
    refine K.seq ?_
    refine K.region ?_
    (refine KL.v rfl (Val.assign rfl) ?_)
    refine KL.nil ?_
    refine KE.next ?_
    refine K.ret ?_
    refine KE.passR ?_
    exact KE.fin byMarks rfl byRes byPart ⟨none, rfl, rfl, rfl⟩
  | some a =>
    refine K.seq ?_
    refine K.region ?_
    (refine KL.v rfl (Val.assign rfl) ?_)
    refine KL.nil ?_
    refine KE.next ?_
    refine K.seq ?_
    refine K.seq ?_
    refine K.region ?_
    (refine KL.v rfl (Val.move rfl) ?_)
    (refine KL.v rfl (Val.eqlSN rfl rfl rfl) ?_)
    refine KL.nil ?_
    refine KE.next ?_
    refine K.condF rfl ?_
    refine K.skip ?_
    refine KE.next ?_
    refine K.seq ?_
    refine K.region ?_
    (refine KL.e rfl (Eff.buildS byParts rfl rfl rfl rfl rfl byFill) ?_; rintro _ _ ⟨b5, rfl, rfl⟩)
    (refine KL.v rfl (Val.move rfl) ?_)
    (refine KL.e rfl (Eff.appLit (E := iE) (ys := l) rfl rfl rfl rfl rfl rfl rfl byTake (by first | exact Sli.blk byTake rfl (by first | decide | simp) (by first | decide | (unfold maxLen; omega)) rfl | exact Sli.old (by assumption) | exact Sli.own byTakeL (by assumption) byLen | assumption | exact Sli.part (by assumption) byPart) (by first | assumption | omega | (simp <;> fail) | (simp; omega)) rfl) ?_; rintro _ _ ⟨o', ok', rfl, rfl⟩)
    (refine KL.v rfl (Val.assign rfl) ?_)
    refine KL.nil ?_
    refine KE.next ?_
    refine K.ret ?_
    exact KE.fin byMarks rfl byRes byPart ⟨o', ok', rfl, rfl⟩
def uE : Enc Int := ⟨fun z => [.int .u64 z], 1, fun _ => rfl, by intro x v hv; simp at hv; subst hv; rfl⟩
set_option maxRecDepth 10000 in
theorem CloneU_K {w0 : World} {v : Value} {l : List Int} (hS : SlW w0 uE v l) (hl : l.length ≤ 4294967296) :
    Call Tryz.prog w0 41 [v] [] (fun r H' => ∃ o, oOk uE l o ∧ r = oV o l.length ∧ H' = oH uE 40 l o) := by
  refine Call.enter1 (n := 8) (by kernel_rfl) Tryz.func41 rfl rfl rfl ?_
  have hS0 := hS
  obtain ⟨a, c, rfl, h1, h2, h3⟩ := hS.shape
  cases a with
  | none =>
    have hn : l = [] := by
      cases l with
      | nil => rfl
      | cons x r => obtain ⟨b, o, h⟩ := h3 (by simp); cases h
    subst hn
    refine K.seq ?_
    refine K.region ?_
    (refine KL.v rfl (Val.assign rfl) ?_)
    refine KL.nil ?_
    refine KE.next ?_
    refine K.seq ?_
    refine K.seq ?_
    refine K.region ?_
    (refine KL.v rfl (Val.move rfl) ?_)
    (refine KL.v rfl (Val.eqlSN rfl rfl rfl) ?_)
    refine KL.nil ?_
    refine KE.next ?_
    refine K.condT rfl ?_
    refine K.seq ?_
    refine K.region ?_
    (refine KL.v rfl (Val.assign rfl) ?_)
    refine KL.nil ?_
    refine KE.next ?_
    refine K.ret ?_
    refine KE.passR ?_
    exact KE.fin byMarks rfl byRes byPart ⟨none, rfl, rfl, rfl⟩
  | some a =>
    refine K.seq ?_
    refine K.region ?_
    (refine KL.v rfl (Val.assign rfl) ?_)
    refine KL.nil ?_
    refine KE.next ?_
    refine K.seq ?_
    refine K.seq ?_
    refine K.region ?_
    (refine KL.v rfl (Val.move rfl) ?_)
    (refine KL.v rfl (Val.eqlSN rfl rfl rfl) ?_)
    refine KL.nil ?_
    refine KE.next ?_
    refine K.condF rfl ?_
    refine K.skip ?_
    refine KE.next ?_
    refine K.seq ?_
    refine K.region ?_
    (refine KL.e rfl (Eff.buildS byParts rfl rfl rfl rfl rfl byFill) ?_; rintro _ _ ⟨b5, rfl, rfl⟩)
    (refine KL.v rfl (Val.move rfl) ?_)
    (refine KL.e rfl (Eff.appLit (E := uE) (ys := l) rfl rfl rfl rfl rfl rfl rfl byTake (by first | exact Sli.blk byTake rfl (by first | decide | simp) (by first | decide | (unfold maxLen; omega)) rfl | exact Sli.old (by assumption) | exact Sli.own byTakeL (by assumption) byLen | assumption | exact Sli.part (by assumption) byPart) (by first | assumption | omega | (simp <;> fail) | (simp; omega)) rfl) ?_; rintro _ _ ⟨o', ok', rfl, rfl⟩)
    (refine KL.v rfl (Val.assign rfl) ?_)
    refine KL.nil ?_
    refine KE.next ?_
    refine K.ret ?_
    exact KE.fin byMarks rfl byRes byPart ⟨o', ok', rfl, rfl⟩
end Go.Proofs.YthamkgghnjenhaaGreat
namespace Go.Proofs.YthamkgghnjenhaaGreat
open Go.RowKit
set_option linter.unusedVariables false
set_option linter.unusedSimpArgs false
set_option maxRecDepth 10000 in
theorem own_K {w0 : World} {vr vw : Value} {rs ws : List Int} {size pins : Int} (hR : SlW w0 iE vr rs) (hW : SlW w0 uE vw ws) (hr : rs.length ≤ 100000) (hw : ws.length ≤ 100000) :
    Call Tryz.prog w0 21 [.agg [vr, vw, .int .i64 size, .int .i64 pins].toArray] [] (fun r H' => ∃ o1 o2, oOk iE rs o1 ∧ oOk uE ws o2 ∧ r = .agg [oV o1 rs.length, oV o2 ws.length, .int .i64 size, .int .i64 pins].toArray ∧ H' = oH iE 3 rs o1 ++ oH uE 40 ws o2) := by
  refine Call.enter1 (n := 12) (by kernel_rfl) Tryz.func21 rfl rfl rfl ?_
  have hr1 := hR.one
  have hw1 := hW.one
  refine K.seq ?_
  refine K.region ?_
  (refine KL.e rfl (Eff.box rfl rfl) ?_; rintro _ _ ⟨b1, rfl, rfl⟩)
  (refine KL.e rfl (Eff.alloc rfl) ?_; rintro _ _ ⟨b2, rfl, rfl⟩)
  refine KL.nil ?_
  refine KE.next ?_
  refine byCodeD ?_
  (first | refine K.seq (K.drawn ((b2, cells [.slice none 0 0, .slice none 0 0, .int .i64 0, .int .i64 0] 63) :: (b1, cells [vr, vw, .int .i64 size, .int .i64 pins] 63) :: []) [(0, 0), (1, 0), (3, 1), (4, 1), (2, 2), (6, 1), (5, 2), (7, 4), (8, 0), (9, 4)] (by kernel_rfl) (by kernel_rfl) (by kernel_rfl) (by kernel_rfl) (by kernel_rfl) (by kernel_rfl) byPart ?_) | refine K.seq (K.seq (K.drawn ((b2, cells [.slice none 0 0, .slice none 0 0, .int .i64 0, .int .i64 0] 63) :: (b1, cells [vr, vw, .int .i64 size, .int .i64 pins] 63) :: []) [(0, 0), (1, 0), (3, 1), (4, 1), (2, 2), (6, 1), (5, 2), (7, 4), (8, 0), (9, 4)] (by kernel_rfl) (by kernel_rfl) (by kernel_rfl) (by kernel_rfl) (by kernel_rfl) (by kernel_rfl) byPart ?_)) | refine K.drawn ((b2, cells [.slice none 0 0, .slice none 0 0, .int .i64 0, .int .i64 0] 63) :: (b1, cells [vr, vw, .int .i64 size, .int .i64 pins] 63) :: []) [(0, 0), (1, 0), (3, 1), (4, 1), (2, 2), (6, 1), (5, 2), (7, 4), (8, 0), (9, 4)] (by kernel_rfl) (by kernel_rfl) (by kernel_rfl) (by kernel_rfl) (by kernel_rfl) (by kernel_rfl) byPart ?_)
  (first | refine KD.v0 rfl rfl (Val.fieldSl (k := 0) rfl rfl) ?_ | refine KD.v0 rfl rfl (Val.fieldAddr0 (k := 0) rfl rfl) ?_ | refine KD.v0 rfl rfl (Val.fieldAddrZ rfl rfl) ?_ | refine KD.v0 rfl rfl (Val.fieldAddr (k := 0) rfl rfl) ?_)
  refine KD.v0 rfl rfl (Val.loadP rfl rfl bySee) ?_
  (first | refine KD.v1 rfl rfl (Val.fieldSl (k := 1) rfl rfl) ?_ | refine KD.v1 rfl rfl (Val.fieldAddr0 (k := 1) rfl rfl) ?_ | refine KD.v1 rfl rfl (Val.fieldAddrZ rfl rfl) ?_ | refine KD.v1 rfl rfl (Val.fieldAddr (k := 1) rfl rfl) ?_)
  refine KD.v1 rfl rfl (Val.loadP rfl rfl bySee) ?_
  refine KD.callc rfl rfl rfl byEvL fun T hT => ?_
  refine (CallV.pure fun w hw' => CallV.fn (Clone_K (hR.only hw'.old) (by omega))).mono ?_
  rintro _ _ ⟨_, ⟨o1, ok1, rfl, rfl⟩, rfl⟩
  refine hT _ _ byPart ?_; clear hT; clear T
  (first | refine KD.v1 rfl rfl (Val.fieldSl (k := 0) rfl rfl) ?_ | refine KD.v1 rfl rfl (Val.fieldAddr0 (k := 0) rfl rfl) ?_ | refine KD.v1 rfl rfl (Val.fieldAddrZ rfl rfl) ?_ | refine KD.v1 rfl rfl (Val.fieldAddr (k := 0) rfl rfl) ?_)
  refine KD.callc rfl rfl rfl byEvL fun T hT => ?_
  refine (CallV.pure fun w hw' => CallV.fn (CloneU_K (hW.only hw'.old) (by omega))).mono ?_
  rintro _ _ ⟨_, ⟨o2, ok2, rfl, rfl⟩, rfl⟩
  refine hT _ _ byPart ?_; clear hT; clear T
  (first | (refine KD.eNX rfl (Eff.storeL rfl rfl byOne rfl byTake bySetAt) ?_; rintro _ _ rfl) | (refine KD.eNX rfl (Eff.stSl rfl rfl rfl rfl byTakeL (by assumption) (by assumption) rfl rfl) ?_; rintro _ _ rfl) | (refine KD.eNX rfl (Eff.stSl0 rfl rfl rfl rfl byTakeL (by assumption) (by assumption) rfl rfl) ?_; rintro _ _ rfl))
  (first | refine KD.v0 rfl rfl (Val.fieldSl (k := 1) rfl rfl) ?_ | refine KD.v0 rfl rfl (Val.fieldAddr0 (k := 1) rfl rfl) ?_ | refine KD.v0 rfl rfl (Val.fieldAddrZ rfl rfl) ?_ | refine KD.v0 rfl rfl (Val.fieldAddr (k := 1) rfl rfl) ?_)
  (first | (refine KD.eNX rfl (Eff.storeL rfl rfl byOne rfl byTake bySetAt) ?_; rintro _ _ rfl) | (refine KD.eNX rfl (Eff.stSl rfl rfl rfl rfl byTakeL (by assumption) (by assumption) rfl rfl) ?_; rintro _ _ rfl) | (refine KD.eNX rfl (Eff.stSl0 rfl rfl rfl rfl byTakeL (by assumption) (by assumption) rfl rfl) ?_; rintro _ _ rfl))
  refine KD.nil ?_
  refine KE.next ?_
  refine K.seq ?_
  refine K.region ?_
  (refine KL.v rfl (Val.loadA rfl rfl rfl bySeeN) ?_)
  (refine KL.eN (Eff.storeAL rfl rfl rfl byTake byLay byOnes) ?_; rintro _ _ rfl)
  refine KL.nil ?_
  refine KE.next ?_
  refine K.ret ?_
  exact KE.fin byMarks rfl byRes byPart ⟨o1, o2, ok1, ok2, rfl, rfl⟩
end Go.Proofs.YthamkgghnjenhaaGreat
