/- Trace: the document's tenants; lists that are the same. -/
import Derived.Test.YtdkanfjpdnjhcaaTrW3
namespace Go.Proofs.Ytdkanfjpdnjhcaa
open Go.RowKit
set_option linter.unusedVariables false
set_option linter.unusedSimpArgs false

theorem eq_of_prefix {α : Type} {a b : List α} (hl : a.length = b.length) (h : ∀ j, j < a.length → a[j]? = b[j]?) : a = b := by
  apply List.ext_getElem?
  intro j
  rcases Nat.lt_or_ge j a.length with hj | hj
  · exact h j hj
  · rw [List.getElem?_eq_none hj, List.getElem?_eq_none (by omega)]

set_option maxRecDepth 10000 in
theorem SameInts_K {w0 : World} {H : Heap} {va vb : Value} {a b : List Int} (hA : SlW w0 iE va a) (hB : SlW w0 iE vb b) :
    Call Try.prog w0 15 [va, vb] H (fun r H' => r = .bool (decide (a = b)) ∧ H' = H) := by
  refine Call.enter (n := 26) [(0, va), (1, vb)] (by kernel_rfl) Try.func15 rfl rfl rfl ⟨rfl, rfl, trivial⟩ ?_
  have la := hA.le
  have lb := hB.le
  unfold maxLen at la lb
  by_cases hab : a.length = b.length
  · refine byCode ?_
    (refine KL.v rfl (Val.assign rfl) ?_)
    refine KL.nil ?_
    refine byCode ?_
    (refine KL.v rfl (Val.move rfl) ?_)
    (first | (refine KL.v rfl (Val.lenSl rfl rfl bySli) ?_) | (refine KL.v rfl (Val.lenS rfl rfl) ?_))
    (refine KL.v rfl (Val.move rfl) ?_)
    (first | (refine KL.v rfl (Val.lenSl rfl rfl bySli) ?_) | (refine KL.v rfl (Val.lenS rfl rfl) ?_))
    (first | (refine KL.v rfl (Val.isT (Val.neq rfl rfl) byLt) ?_) | (refine KL.v rfl (Val.isF (Val.neq rfl rfl) byLt) ?_) | (refine KL.v rfl (Val.neq rfl rfl) ?_))
    refine KL.nil ?_
    refine byCode ?_
    (refine KL.v rfl (Val.assign rfl) ?_)
    refine KL.nil ?_
    refine byBlk ?_
    refine K.loop (σ := Nat) (fun k => [(5, .int .i64 (k : Nat)), (0, va), (1, vb)]) (fun _ => H) (fun k => k ≤ a.length ∧ ∀ j, j < k → a[j]? = b[j]?) (fun k => a.length - k) 0 bySub byPart ⟨by omega, fun j hj => by omega⟩ ?_
    rintro k ⟨hk, hs⟩
    by_cases hlt : k < a.length
    · obtain ⟨x, hx⟩ := get_of_lt hlt
      have hlb : k < b.length := by omega
      obtain ⟨y, hy⟩ := get_of_lt hlb
      refine byCode ?_
      (refine KL.v rfl (Val.move rfl) ?_)
      (refine KL.v rfl (Val.move rfl) ?_)
      (first | (refine KL.v rfl (Val.lenSl rfl rfl bySli) ?_) | (refine KL.v rfl (Val.lenS rfl rfl) ?_))
      (first | (refine KL.v rfl (Val.isT (Val.lss rfl rfl) byLt) ?_) | (refine KL.v rfl (Val.isF (Val.lss rfl rfl) byLt) ?_) | (refine KL.v rfl (Val.lss rfl rfl) ?_))
      refine KL.nil ?_
      refine byCode ?_
      refine K.seq (K.block ?_)
      by_cases hxy : x = y
      · have hxy' : ¬ (x ≠ y) := fun h => h hxy
        refine byCodeD ?_
        (first | refine K.seq (K.drawn _ [(0, 0), (1, 0), (2, 0), (3, 0), (4, 0), (5, 0), (6, 0), (7, 0), (8, 0)] (by kernel_rfl) (by kernel_rfl) (by kernel_rfl) (by kernel_rfl) (by kernel_rfl) (by kernel_rfl) Part.all ?_) | refine K.seq (K.seq (K.drawn _ [(0, 0), (1, 0), (2, 0), (3, 0), (4, 0), (5, 0), (6, 0), (7, 0), (8, 0)] (by kernel_rfl) (by kernel_rfl) (by kernel_rfl) (by kernel_rfl) (by kernel_rfl) (by kernel_rfl) Part.all ?_)) | refine K.drawn _ [(0, 0), (1, 0), (2, 0), (3, 0), (4, 0), (5, 0), (6, 0), (7, 0), (8, 0)] (by kernel_rfl) (by kernel_rfl) (by kernel_rfl) (by kernel_rfl) (by kernel_rfl) (by kernel_rfl) Part.all ?_)
        refine KD.v0 rfl rfl (Val.move rfl) ?_
        refine KD.v0 rfl rfl (Val.move rfl) ?_
        (first | refine KD.v0 rfl rfl (Val.idxSl rfl rfl rfl bySli rfl byLt) ?_ | refine KD.v0 rfl rfl (Val.idxSlZ rfl rfl rfl bySli rfl (by omega)) ?_ | refine KD.v0 rfl rfl (Val.indexS1 rfl rfl rfl rfl (by omega)) ?_ | refine KD.v0 rfl rfl (Val.indexS rfl rfl rfl rfl (by omega)) ?_ | refine KD.v0 rfl rfl (Val.indexSO rfl rfl rfl rfl (by omega)) ?_ | refine KD.v0 rfl rfl (Val.indexSG rfl rfl rfl rfl (by omega)) ?_)
        refine KD.v0 rfl rfl (Val.loadP rfl rfl bySee) ?_
        refine KD.v0 rfl rfl (Val.move rfl) ?_
        refine KD.v0 rfl rfl (Val.move rfl) ?_
        (first | refine KD.v0 rfl rfl (Val.idxSl rfl rfl rfl bySli rfl byLt) ?_ | refine KD.v0 rfl rfl (Val.idxSlZ rfl rfl rfl bySli rfl (by omega)) ?_ | refine KD.v0 rfl rfl (Val.indexS1 rfl rfl rfl rfl (by omega)) ?_ | refine KD.v0 rfl rfl (Val.indexS rfl rfl rfl rfl (by omega)) ?_ | refine KD.v0 rfl rfl (Val.indexSO rfl rfl rfl rfl (by omega)) ?_ | refine KD.v0 rfl rfl (Val.indexSG rfl rfl rfl rfl (by omega)) ?_)
        refine KD.v0 rfl rfl (Val.loadP rfl rfl bySee) ?_
        (first | refine KD.v0 rfl rfl (Val.isT (Val.neq rfl rfl) byLt) ?_ | refine KD.v0 rfl rfl (Val.isF (Val.neq rfl rfl) byLt) ?_ | refine KD.v0 rfl rfl (Val.neq rfl rfl) ?_)
        refine KD.nil ?_
        refine byCode ?_
        (refine KL.v rfl (Val.move rfl) ?_)
        (first | (refine KL.v rfl (Val.add rfl rfl (by simp only [Go.Proofs.Ytdkanfjpdnjhcaa.lo, Go.Proofs.Ytdkanfjpdnjhcaa.hi]; omega)) ?_) | (refine KL.v rfl (Val.addW rfl rfl) ?_))
        (refine KL.v rfl (Val.assign rfl) ?_)
        refine KL.nil ?_
        exact KE.again (k + 1) bySub byPart ⟨by omega, fun j hj => by
          rcases Nat.lt_or_ge j k with h | h
          · exact hs j h
          · have : j = k := by omega
            subst this
            rw [hx, hy, hxy]⟩ (by omega)
      · have hne : a ≠ b := by intro h; subst h; rw [hx] at hy; cases hy; exact hxy rfl
        have hxy' : x ≠ y := hxy
        refine byCodeD ?_
        (first | refine K.seq (K.drawn _ [(0, 0), (1, 0), (2, 0), (3, 0), (4, 0), (5, 0), (6, 0), (7, 0), (8, 0)] (by kernel_rfl) (by kernel_rfl) (by kernel_rfl) (by kernel_rfl) (by kernel_rfl) (by kernel_rfl) Part.all ?_) | refine K.seq (K.seq (K.drawn _ [(0, 0), (1, 0), (2, 0), (3, 0), (4, 0), (5, 0), (6, 0), (7, 0), (8, 0)] (by kernel_rfl) (by kernel_rfl) (by kernel_rfl) (by kernel_rfl) (by kernel_rfl) (by kernel_rfl) Part.all ?_)) | refine K.drawn _ [(0, 0), (1, 0), (2, 0), (3, 0), (4, 0), (5, 0), (6, 0), (7, 0), (8, 0)] (by kernel_rfl) (by kernel_rfl) (by kernel_rfl) (by kernel_rfl) (by kernel_rfl) (by kernel_rfl) Part.all ?_)
        refine KD.v0 rfl rfl (Val.move rfl) ?_
        refine KD.v0 rfl rfl (Val.move rfl) ?_
        (first | refine KD.v0 rfl rfl (Val.idxSl rfl rfl rfl bySli rfl byLt) ?_ | refine KD.v0 rfl rfl (Val.idxSlZ rfl rfl rfl bySli rfl (by omega)) ?_ | refine KD.v0 rfl rfl (Val.indexS1 rfl rfl rfl rfl (by omega)) ?_ | refine KD.v0 rfl rfl (Val.indexS rfl rfl rfl rfl (by omega)) ?_ | refine KD.v0 rfl rfl (Val.indexSO rfl rfl rfl rfl (by omega)) ?_ | refine KD.v0 rfl rfl (Val.indexSG rfl rfl rfl rfl (by omega)) ?_)
        refine KD.v0 rfl rfl (Val.loadP rfl rfl bySee) ?_
        refine KD.v0 rfl rfl (Val.move rfl) ?_
        refine KD.v0 rfl rfl (Val.move rfl) ?_
        (first | refine KD.v0 rfl rfl (Val.idxSl rfl rfl rfl bySli rfl byLt) ?_ | refine KD.v0 rfl rfl (Val.idxSlZ rfl rfl rfl bySli rfl (by omega)) ?_ | refine KD.v0 rfl rfl (Val.indexS1 rfl rfl rfl rfl (by omega)) ?_ | refine KD.v0 rfl rfl (Val.indexS rfl rfl rfl rfl (by omega)) ?_ | refine KD.v0 rfl rfl (Val.indexSO rfl rfl rfl rfl (by omega)) ?_ | refine KD.v0 rfl rfl (Val.indexSG rfl rfl rfl rfl (by omega)) ?_)
        refine KD.v0 rfl rfl (Val.loadP rfl rfl bySee) ?_
        (first | refine KD.v0 rfl rfl (Val.isT (Val.neq rfl rfl) byLt) ?_ | refine KD.v0 rfl rfl (Val.isF (Val.neq rfl rfl) byLt) ?_ | refine KD.v0 rfl rfl (Val.neq rfl rfl) ?_)
        refine KD.nil ?_
        refine byCode ?_
        (refine KL.v rfl (Val.assign rfl) ?_)
        refine KL.nil ?_
        refine byCode ?_
        exact KE.fin byMarks rfl byRes byPart ⟨by rw [decide_eq_false hne]; rfl, rfl⟩
    · have he : a = b := eq_of_prefix hab (fun j hj => hs j (by omega))
      refine byCode ?_
      (refine KL.v rfl (Val.move rfl) ?_)
      (refine KL.v rfl (Val.move rfl) ?_)
      (first | (refine KL.v rfl (Val.lenSl rfl rfl bySli) ?_) | (refine KL.v rfl (Val.lenS rfl rfl) ?_))
      (first | (refine KL.v rfl (Val.isT (Val.lss rfl rfl) byLt) ?_) | (refine KL.v rfl (Val.isF (Val.lss rfl rfl) byLt) ?_) | (refine KL.v rfl (Val.lss rfl rfl) ?_))
      refine KL.nil ?_
      refine byCode ?_
      (refine KL.v rfl (Val.assign rfl) ?_)
      refine KL.nil ?_
      refine byCode ?_
      exact KE.fin byMarks rfl byRes byPart ⟨by rw [decide_eq_true he]; rfl, rfl⟩
  · have hne : a ≠ b := by intro h; subst h; exact hab rfl
    refine byCode ?_
    (refine KL.v rfl (Val.assign rfl) ?_)
    refine KL.nil ?_
    refine byCode ?_
    (refine KL.v rfl (Val.move rfl) ?_)
    (first | (refine KL.v rfl (Val.lenSl rfl rfl bySli) ?_) | (refine KL.v rfl (Val.lenS rfl rfl) ?_))
    (refine KL.v rfl (Val.move rfl) ?_)
    (first | (refine KL.v rfl (Val.lenSl rfl rfl bySli) ?_) | (refine KL.v rfl (Val.lenS rfl rfl) ?_))
    (first | (refine KL.v rfl (Val.isT (Val.neq rfl rfl) byLt) ?_) | (refine KL.v rfl (Val.isF (Val.neq rfl rfl) byLt) ?_) | (refine KL.v rfl (Val.neq rfl rfl) ?_))
    refine KL.nil ?_
    refine byCode ?_
    (refine KL.v rfl (Val.assign rfl) ?_)
    refine KL.nil ?_
    refine byCode ?_
    exact KE.fin byMarks rfl byRes byPart ⟨by rw [decide_eq_false hne]; rfl, rfl⟩

set_option maxRecDepth 10000 in
theorem SameWatched_K {w0 : World} {H : Heap} {va vb : Value} {a b : List Wat} (hA : SlW w0 wE va a) (hB : SlW w0 wE vb b) :
    Call Try.prog w0 21 [va, vb] H (fun r H' => r = .bool (decide (a = b)) ∧ H' = H) := by
  refine Call.enter (n := 26) [(0, va), (1, vb)] (by kernel_rfl) Try.func21 rfl rfl rfl ⟨rfl, rfl, trivial⟩ ?_
  have la := hA.le
  have lb := hB.le
  unfold maxLen at la lb
  by_cases hab : a.length = b.length
  · refine byCode ?_
    (refine KL.v rfl (Val.assign rfl) ?_)
    refine KL.nil ?_
    refine byCode ?_
    (refine KL.v rfl (Val.move rfl) ?_)
    (first | (refine KL.v rfl (Val.lenSl rfl rfl bySli) ?_) | (refine KL.v rfl (Val.lenS rfl rfl) ?_))
    (refine KL.v rfl (Val.move rfl) ?_)
    (first | (refine KL.v rfl (Val.lenSl rfl rfl bySli) ?_) | (refine KL.v rfl (Val.lenS rfl rfl) ?_))
    (first | (refine KL.v rfl (Val.isT (Val.neq rfl rfl) byLt) ?_) | (refine KL.v rfl (Val.isF (Val.neq rfl rfl) byLt) ?_) | (refine KL.v rfl (Val.neq rfl rfl) ?_))
    refine KL.nil ?_
    refine byCode ?_
    (refine KL.v rfl (Val.assign rfl) ?_)
    refine KL.nil ?_
    refine byBlk ?_
    refine K.loop (σ := Nat) (fun k => [(5, .int .i64 (k : Nat)), (0, va), (1, vb)]) (fun _ => H) (fun k => k ≤ a.length ∧ ∀ j, j < k → a[j]? = b[j]?) (fun k => a.length - k) 0 bySub byPart ⟨by omega, fun j hj => by omega⟩ ?_
    rintro k ⟨hk, hs⟩
    by_cases hlt : k < a.length
    · obtain ⟨x, hx⟩ := get_of_lt hlt
      have hlb : k < b.length := by omega
      obtain ⟨y, hy⟩ := get_of_lt hlb
      refine byCode ?_
      (refine KL.v rfl (Val.move rfl) ?_)
      (refine KL.v rfl (Val.move rfl) ?_)
      (first | (refine KL.v rfl (Val.lenSl rfl rfl bySli) ?_) | (refine KL.v rfl (Val.lenS rfl rfl) ?_))
      (first | (refine KL.v rfl (Val.isT (Val.lss rfl rfl) byLt) ?_) | (refine KL.v rfl (Val.isF (Val.lss rfl rfl) byLt) ?_) | (refine KL.v rfl (Val.lss rfl rfl) ?_))
      refine KL.nil ?_
      refine byCode ?_
      refine K.seq (K.block ?_)
      by_cases hxy : x = y
      · have hb := (weqB_iff x y).2 hxy
        refine byCodeD ?_
        (first | refine K.seq (K.drawn _ [(0, 0), (1, 0), (2, 0), (3, 0), (4, 0), (5, 0), (6, 0), (7, 0), (8, 0)] (by kernel_rfl) (by kernel_rfl) (by kernel_rfl) (by kernel_rfl) (by kernel_rfl) (by kernel_rfl) Part.all ?_) | refine K.seq (K.seq (K.drawn _ [(0, 0), (1, 0), (2, 0), (3, 0), (4, 0), (5, 0), (6, 0), (7, 0), (8, 0)] (by kernel_rfl) (by kernel_rfl) (by kernel_rfl) (by kernel_rfl) (by kernel_rfl) (by kernel_rfl) Part.all ?_)) | refine K.drawn _ [(0, 0), (1, 0), (2, 0), (3, 0), (4, 0), (5, 0), (6, 0), (7, 0), (8, 0)] (by kernel_rfl) (by kernel_rfl) (by kernel_rfl) (by kernel_rfl) (by kernel_rfl) (by kernel_rfl) Part.all ?_)
        refine KD.v0 rfl rfl (Val.move rfl) ?_
        refine KD.v0 rfl rfl (Val.move rfl) ?_
        (first | refine KD.v0 rfl rfl (Val.idxSl rfl rfl rfl bySli rfl byLt) ?_ | refine KD.v0 rfl rfl (Val.idxSlZ rfl rfl rfl bySli rfl (by omega)) ?_ | refine KD.v0 rfl rfl (Val.indexS1 rfl rfl rfl rfl (by omega)) ?_ | refine KD.v0 rfl rfl (Val.indexS rfl rfl rfl rfl (by omega)) ?_ | refine KD.v0 rfl rfl (Val.indexSO rfl rfl rfl rfl (by omega)) ?_ | refine KD.v0 rfl rfl (Val.indexSG rfl rfl rfl rfl (by omega)) ?_)
        (first | refine KD.v0 rfl rfl (Val.loadAP rfl rfl rfl bySeeA) ?_ | refine KD.v0 rfl rfl (Val.loadA rfl rfl rfl bySeeN) ?_)
        refine KD.v0 rfl rfl (Val.move rfl) ?_
        refine KD.v0 rfl rfl (Val.move rfl) ?_
        (first | refine KD.v0 rfl rfl (Val.idxSl rfl rfl rfl bySli rfl byLt) ?_ | refine KD.v0 rfl rfl (Val.idxSlZ rfl rfl rfl bySli rfl (by omega)) ?_ | refine KD.v0 rfl rfl (Val.indexS1 rfl rfl rfl rfl (by omega)) ?_ | refine KD.v0 rfl rfl (Val.indexS rfl rfl rfl rfl (by omega)) ?_ | refine KD.v0 rfl rfl (Val.indexSO rfl rfl rfl rfl (by omega)) ?_ | refine KD.v0 rfl rfl (Val.indexSG rfl rfl rfl rfl (by omega)) ?_)
        (first | refine KD.v0 rfl rfl (Val.loadAP rfl rfl rfl bySeeA) ?_ | refine KD.v0 rfl rfl (Val.loadA rfl rfl rfl bySeeN) ?_)
        (first | refine KD.v0 rfl rfl (Val.neqAE rfl rfl (by kernel_rfl) byEqv (by first | assumption | rfl)) ?_ | refine KD.v0 rfl rfl (Val.neqAN rfl rfl (by kernel_rfl) byEqv (by first | assumption | rfl)) ?_ | refine KD.v0 rfl rfl (Val.neqA rfl rfl (by kernel_rfl) byEqv) ?_)
        refine KD.nil ?_
        refine byCode ?_
        (refine KL.v rfl (Val.move rfl) ?_)
        (first | (refine KL.v rfl (Val.add rfl rfl (by simp only [Go.Proofs.Ytdkanfjpdnjhcaa.lo, Go.Proofs.Ytdkanfjpdnjhcaa.hi]; omega)) ?_) | (refine KL.v rfl (Val.addW rfl rfl) ?_))
        (refine KL.v rfl (Val.assign rfl) ?_)
        refine KL.nil ?_
        exact KE.again (k + 1) bySub byPart ⟨by omega, fun j hj => by
          rcases Nat.lt_or_ge j k with h | h
          · exact hs j h
          · have : j = k := by omega
            subst this
            rw [hx, hy, hxy]⟩ (by omega)
      · have hne : a ≠ b := by intro h; subst h; rw [hx] at hy; cases hy; exact hxy rfl
        have hb := weqB_ne hxy
        refine byCodeD ?_
        (first | refine K.seq (K.drawn _ [(0, 0), (1, 0), (2, 0), (3, 0), (4, 0), (5, 0), (6, 0), (7, 0), (8, 0)] (by kernel_rfl) (by kernel_rfl) (by kernel_rfl) (by kernel_rfl) (by kernel_rfl) (by kernel_rfl) Part.all ?_) | refine K.seq (K.seq (K.drawn _ [(0, 0), (1, 0), (2, 0), (3, 0), (4, 0), (5, 0), (6, 0), (7, 0), (8, 0)] (by kernel_rfl) (by kernel_rfl) (by kernel_rfl) (by kernel_rfl) (by kernel_rfl) (by kernel_rfl) Part.all ?_)) | refine K.drawn _ [(0, 0), (1, 0), (2, 0), (3, 0), (4, 0), (5, 0), (6, 0), (7, 0), (8, 0)] (by kernel_rfl) (by kernel_rfl) (by kernel_rfl) (by kernel_rfl) (by kernel_rfl) (by kernel_rfl) Part.all ?_)
        refine KD.v0 rfl rfl (Val.move rfl) ?_
        refine KD.v0 rfl rfl (Val.move rfl) ?_
        (first | refine KD.v0 rfl rfl (Val.idxSl rfl rfl rfl bySli rfl byLt) ?_ | refine KD.v0 rfl rfl (Val.idxSlZ rfl rfl rfl bySli rfl (by omega)) ?_ | refine KD.v0 rfl rfl (Val.indexS1 rfl rfl rfl rfl (by omega)) ?_ | refine KD.v0 rfl rfl (Val.indexS rfl rfl rfl rfl (by omega)) ?_ | refine KD.v0 rfl rfl (Val.indexSO rfl rfl rfl rfl (by omega)) ?_ | refine KD.v0 rfl rfl (Val.indexSG rfl rfl rfl rfl (by omega)) ?_)
        (first | refine KD.v0 rfl rfl (Val.loadAP rfl rfl rfl bySeeA) ?_ | refine KD.v0 rfl rfl (Val.loadA rfl rfl rfl bySeeN) ?_)
        refine KD.v0 rfl rfl (Val.move rfl) ?_
        refine KD.v0 rfl rfl (Val.move rfl) ?_
        (first | refine KD.v0 rfl rfl (Val.idxSl rfl rfl rfl bySli rfl byLt) ?_ | refine KD.v0 rfl rfl (Val.idxSlZ rfl rfl rfl bySli rfl (by omega)) ?_ | refine KD.v0 rfl rfl (Val.indexS1 rfl rfl rfl rfl (by omega)) ?_ | refine KD.v0 rfl rfl (Val.indexS rfl rfl rfl rfl (by omega)) ?_ | refine KD.v0 rfl rfl (Val.indexSO rfl rfl rfl rfl (by omega)) ?_ | refine KD.v0 rfl rfl (Val.indexSG rfl rfl rfl rfl (by omega)) ?_)
        (first | refine KD.v0 rfl rfl (Val.loadAP rfl rfl rfl bySeeA) ?_ | refine KD.v0 rfl rfl (Val.loadA rfl rfl rfl bySeeN) ?_)
        (first | refine KD.v0 rfl rfl (Val.neqAE rfl rfl (by kernel_rfl) byEqv (by first | assumption | rfl)) ?_ | refine KD.v0 rfl rfl (Val.neqAN rfl rfl (by kernel_rfl) byEqv (by first | assumption | rfl)) ?_ | refine KD.v0 rfl rfl (Val.neqA rfl rfl (by kernel_rfl) byEqv) ?_)
        refine KD.nil ?_
        refine byCode ?_
        (refine KL.v rfl (Val.assign rfl) ?_)
        refine KL.nil ?_
        refine byCode ?_
        exact KE.fin byMarks rfl byRes byPart ⟨by rw [decide_eq_false hne]; rfl, rfl⟩
    · have he : a = b := eq_of_prefix hab (fun j hj => hs j (by omega))
      refine byCode ?_
      (refine KL.v rfl (Val.move rfl) ?_)
      (refine KL.v rfl (Val.move rfl) ?_)
      (first | (refine KL.v rfl (Val.lenSl rfl rfl bySli) ?_) | (refine KL.v rfl (Val.lenS rfl rfl) ?_))
      (first | (refine KL.v rfl (Val.isT (Val.lss rfl rfl) byLt) ?_) | (refine KL.v rfl (Val.isF (Val.lss rfl rfl) byLt) ?_) | (refine KL.v rfl (Val.lss rfl rfl) ?_))
      refine KL.nil ?_
      refine byCode ?_
      (refine KL.v rfl (Val.assign rfl) ?_)
      refine KL.nil ?_
      refine byCode ?_
      exact KE.fin byMarks rfl byRes byPart ⟨by rw [decide_eq_true he]; rfl, rfl⟩
  · have hne : a ≠ b := by intro h; subst h; exact hab rfl
    refine byCode ?_
    (refine KL.v rfl (Val.assign rfl) ?_)
    refine KL.nil ?_
    refine byCode ?_
    (refine KL.v rfl (Val.move rfl) ?_)
    (first | (refine KL.v rfl (Val.lenSl rfl rfl bySli) ?_) | (refine KL.v rfl (Val.lenS rfl rfl) ?_))
    (refine KL.v rfl (Val.move rfl) ?_)
    (first | (refine KL.v rfl (Val.lenSl rfl rfl bySli) ?_) | (refine KL.v rfl (Val.lenS rfl rfl) ?_))
    (first | (refine KL.v rfl (Val.isT (Val.neq rfl rfl) byLt) ?_) | (refine KL.v rfl (Val.isF (Val.neq rfl rfl) byLt) ?_) | (refine KL.v rfl (Val.neq rfl rfl) ?_))
    refine KL.nil ?_
    refine byCode ?_
    (refine KL.v rfl (Val.assign rfl) ?_)
    refine KL.nil ?_
    refine byCode ?_
    exact KE.fin byMarks rfl byRes byPart ⟨by rw [decide_eq_false hne]; rfl, rfl⟩

/-! ## the document's tenants -/
structure TS where
  i : Nat
  ts : List Int
  o : Own
def TenInv (l : List Wat) (s : TS) : Prop := s.i ≤ l.length ∧ s.ts.Pairwise (· < ·) ∧ (∀ x, x ∈ s.ts ↔ x ∈ (l.take s.i).map (·.t)) ∧ s.ts.length ≤ s.i ∧ oOk iE s.ts s.o

theorem ten_insert {ts : List Int} {t : Int} {k : Nat} (hs : ts.Pairwise (· < ·)) (hk : k ≤ ts.length) (h1 : ∀ j x, j < k → ts[j]? = some x → x < t) (h2 : ∀ x, ts[k]? = some x → t < x) :
    (ts.take k ++ [t] ++ ts.drop k).Pairwise (· < ·) := by
  have hd : ∀ x ∈ ts.drop k, t < x := by
    intro x hx
    obtain ⟨j, hj⟩ := List.getElem?_of_mem hx
    rw [List.getElem?_drop] at hj
    have hkl : k < ts.length := by have := lt_of_get hj; omega
    obtain ⟨y, hy⟩ := get_of_lt hkl
    have hty := h2 y hy
    rcases Nat.eq_zero_or_pos j with h | h
    · subst h; rw [Nat.add_zero, hy] at hj; cases hj; exact hty
    · have := List.pairwise_iff_getElem.1 hs k (k + j) hkl (lt_of_get hj) (by omega)
      rw [(List.getElem?_eq_some_iff.1 hy).2, (List.getElem?_eq_some_iff.1 hj).2] at this
      omega
  have ht : ∀ x ∈ ts.take k, x < t := by
    intro x hx
    obtain ⟨j, hj⟩ := List.getElem?_of_mem hx
    rw [List.getElem?_take] at hj
    split at hj
    · exact h1 j x (by assumption) hj
    · cases hj
  rw [List.append_assoc, List.pairwise_append]
  refine ⟨hs.sublist (List.take_sublist _ _), ?_, ?_⟩
  · rw [List.singleton_append, List.pairwise_cons]
    exact ⟨hd, hs.sublist (List.drop_sublist _ _)⟩
  · intro a ha b hb
    rcases List.mem_append.1 hb with hb | hb
    · simp at hb; subst hb; exact ht a ha
    · have := ht a ha; have := hd b hb; omega

set_option maxRecDepth 10000 in
set_option maxHeartbeats 1000000 in
theorem rTenants_K {w0 : World} {v : Value} {l : List Wat} (hS : SlW w0 wE v l) (hl : l.length ≤ 100000) :
    Call Try.prog w0 16 [v] [] (fun r H' => ∃ o, oOk iE (tenP l) o ∧ r = oV o (tenP l).length ∧ H' = oH iE 3 (tenP l) o) := by
  refine Call.enter (n := 66) [(0, v)] (by kernel_rfl) Try.func16 rfl rfl rfl ⟨rfl, trivial⟩ ?_
  refine byCode ?_
  (refine KL.v rfl (Val.assign rfl) ?_)
  refine KL.nil ?_
  refine byCode ?_
  (refine KL.v rfl (Val.assign rfl) ?_)
  refine KL.nil ?_
  refine byCode ?_
  (refine KL.v rfl (Val.assign rfl) ?_)
  refine KL.nil ?_
  refine byBlk ?_
  refine K.loop (σ := TS) (fun s => [(4, .int .i64 (s.i : Nat)), (0, v), (3, oV s.o s.ts.length)]) (fun s => oH iE 3 s.ts s.o ++ [])
    (TenInv l) (fun s => l.length - s.i) ⟨0, [], none⟩ bySub byPart ⟨by simp, .nil, by simp, by simp, rfl⟩ ?_
  rintro ⟨i, ts, o⟩ ⟨hi, hsort, hmem, hlen, ok⟩
  dsimp only at hi hsort hmem hlen ok ⊢
  by_cases hlt : i < l.length
  · obtain ⟨x, hx⟩ := get_of_lt hlt
    have hmem' : ∀ y, y ∈ (l.take (i + 1)).map (·.t) ↔ y ∈ ts ∨ y = x.t := by
      intro y
      rw [take_snoc hx, List.map_append, List.mem_append, hmem y]
      simp
    refine byCode ?_
    (refine KL.v rfl (Val.move rfl) ?_)
    (refine KL.v rfl (Val.move rfl) ?_)
    (first | (refine KL.v rfl (Val.lenSl rfl rfl bySli) ?_) | (refine KL.v rfl (Val.lenS rfl rfl) ?_))
    (first | (refine KL.v rfl (Val.isT (Val.lss rfl rfl) byLt) ?_) | (refine KL.v rfl (Val.isF (Val.lss rfl rfl) byLt) ?_) | (refine KL.v rfl (Val.lss rfl rfl) ?_))
    refine KL.nil ?_
    refine byCode ?_
    refine K.seq (K.block ?_)
    refine byCode ?_
    (refine KL.v rfl (Val.assign rfl) ?_)
    refine KL.nil ?_
    refine byBlk ?_
    refine K.loop (σ := Nat) (fun k => [(5, .int .i64 (k : Nat)), (4, .int .i64 (i : Nat)), (0, v), (3, oV o ts.length)]) (fun _ => oH iE 3 ts o ++ [])
      (fun k => k ≤ ts.length ∧ ∀ j x', j < k → ts[j]? = some x' → x' < x.t) (fun k => ts.length - k) 0 bySub byPart ⟨by omega, fun j x' hj => by omega⟩ ?_
    rintro k ⟨hk, hless⟩
    by_cases hkl : k < ts.length
    · obtain ⟨y, hy⟩ := get_of_lt hkl
      by_cases hyx : y < x.t
      · refine byCodeD ?_
        (first | refine K.seq (K.drawn _ [(0, 0), (1, 0), (2, 0), (3, 0), (4, 0), (5, 0), (6, 0), (7, 0), (8, 0), (9, 0), (10, 0), (11, 0), (12, 0), (13, 0), (14, 0), (15, 0)] (by kernel_rfl) (by kernel_rfl) (by kernel_rfl) (by kernel_rfl) (by kernel_rfl) (by kernel_rfl) Part.all ?_) | refine K.seq (K.seq (K.drawn _ [(0, 0), (1, 0), (2, 0), (3, 0), (4, 0), (5, 0), (6, 0), (7, 0), (8, 0), (9, 0), (10, 0), (11, 0), (12, 0), (13, 0), (14, 0), (15, 0)] (by kernel_rfl) (by kernel_rfl) (by kernel_rfl) (by kernel_rfl) (by kernel_rfl) (by kernel_rfl) Part.all ?_)) | refine K.drawn _ [(0, 0), (1, 0), (2, 0), (3, 0), (4, 0), (5, 0), (6, 0), (7, 0), (8, 0), (9, 0), (10, 0), (11, 0), (12, 0), (13, 0), (14, 0), (15, 0)] (by kernel_rfl) (by kernel_rfl) (by kernel_rfl) (by kernel_rfl) (by kernel_rfl) (by kernel_rfl) Part.all ?_)
        refine KD.v0 rfl rfl (Val.move rfl) ?_
        refine KD.v0 rfl rfl (Val.move rfl) ?_
        (first | refine KD.v0 rfl rfl (Val.lenSl rfl rfl bySli) ?_ | refine KD.v0 rfl rfl (Val.lenS rfl rfl) ?_)
        (first | refine KD.v0 rfl rfl (Val.isT (Val.lss rfl rfl) byLt) ?_ | refine KD.v0 rfl rfl (Val.isF (Val.lss rfl rfl) byLt) ?_ | refine KD.v0 rfl rfl (Val.lss rfl rfl) ?_)
        refine KD.v0 rfl rfl (Val.move rfl) ?_
        (first | refine KD.no rfl rfl rfl rfl rfl ?_ | refine KD.noU rfl rfl rfl rfl rfl ?_ | refine KD.y0 rfl rfl rfl rfl (Val.move rfl) ?_)
        (first | refine KD.no rfl rfl rfl rfl rfl ?_ | refine KD.noU rfl rfl rfl rfl rfl ?_ | refine KD.y0 rfl rfl rfl rfl (Val.move rfl) ?_)
        (first | refine KD.no rfl rfl rfl rfl rfl ?_ | refine KD.noU rfl rfl rfl rfl rfl ?_ | refine KD.y0 rfl rfl rfl rfl (Val.idxSl rfl rfl rfl bySli rfl byLt) ?_ | refine KD.y0 rfl rfl rfl rfl (Val.idxSlZ rfl rfl rfl bySli rfl (by omega)) ?_ | refine KD.y0 rfl rfl rfl rfl (Val.indexS1 rfl rfl rfl rfl (by omega)) ?_ | refine KD.y0 rfl rfl rfl rfl (Val.indexS rfl rfl rfl rfl (by omega)) ?_ | refine KD.y0 rfl rfl rfl rfl (Val.indexSO rfl rfl rfl rfl (by omega)) ?_ | refine KD.y0 rfl rfl rfl rfl (Val.indexSG rfl rfl rfl rfl (by omega)) ?_)
        (first | refine KD.no rfl rfl rfl rfl rfl ?_ | refine KD.noU rfl rfl rfl rfl rfl ?_ | refine KD.y0 rfl rfl rfl rfl (Val.loadP rfl rfl bySee) ?_)
        (first | refine KD.no rfl rfl rfl rfl rfl ?_ | refine KD.noU rfl rfl rfl rfl rfl ?_ | refine KD.y0 rfl rfl rfl rfl (Val.move rfl) ?_)
        (first | refine KD.no rfl rfl rfl rfl rfl ?_ | refine KD.noU rfl rfl rfl rfl rfl ?_ | refine KD.y0 rfl rfl rfl rfl (Val.move rfl) ?_)
        (first | refine KD.no rfl rfl rfl rfl rfl ?_ | refine KD.noU rfl rfl rfl rfl rfl ?_ | refine KD.y0 rfl rfl rfl rfl (Val.idxSl rfl rfl rfl bySli rfl byLt) ?_ | refine KD.y0 rfl rfl rfl rfl (Val.idxSlZ rfl rfl rfl bySli rfl (by omega)) ?_ | refine KD.y0 rfl rfl rfl rfl (Val.indexS1 rfl rfl rfl rfl (by omega)) ?_ | refine KD.y0 rfl rfl rfl rfl (Val.indexS rfl rfl rfl rfl (by omega)) ?_ | refine KD.y0 rfl rfl rfl rfl (Val.indexSO rfl rfl rfl rfl (by omega)) ?_ | refine KD.y0 rfl rfl rfl rfl (Val.indexSG rfl rfl rfl rfl (by omega)) ?_)
        (first | refine KD.no rfl rfl rfl rfl rfl ?_ | refine KD.noU rfl rfl rfl rfl rfl ?_ | refine KD.y0 rfl rfl rfl rfl (Val.fieldSl rfl rfl) ?_ | refine KD.y0 rfl rfl rfl rfl (Val.fieldAddr0 rfl rfl) ?_ | refine KD.y0 rfl rfl rfl rfl (Val.fieldAddrZ rfl rfl) ?_ | refine KD.y0 rfl rfl rfl rfl (Val.fieldAddr rfl rfl) ?_)
        (first | refine KD.no rfl rfl rfl rfl rfl ?_ | refine KD.noU rfl rfl rfl rfl rfl ?_ | refine KD.y0 rfl rfl rfl rfl (Val.loadP rfl rfl bySee) ?_)
        (first | refine KD.no rfl rfl rfl rfl rfl ?_ | refine KD.noU rfl rfl rfl rfl rfl ?_ | refine KD.y0 rfl rfl rfl rfl (Val.isT (Val.lss rfl rfl) byLt) ?_ | refine KD.y0 rfl rfl rfl rfl (Val.isF (Val.lss rfl rfl) byLt) ?_ | refine KD.y0 rfl rfl rfl rfl (Val.lss rfl rfl) ?_)
        (first | refine KD.v0 rfl rfl (Val.pickT rfl rfl rfl) ?_ | refine KD.v0 rfl rfl (Val.pickF rfl rfl rfl) ?_ | refine KD.v0 rfl rfl (Val.pickB rfl rfl rfl) ?_)
        refine KD.nil ?_
        refine byCode ?_
        refine K.block ?_
        refine byCode ?_
        (refine KL.v rfl (Val.move rfl) ?_)
        (first | (refine KL.v rfl (Val.add rfl rfl (by simp only [Go.Proofs.Ytdkanfjpdnjhcaa.lo, Go.Proofs.Ytdkanfjpdnjhcaa.hi]; omega)) ?_) | (refine KL.v rfl (Val.addW rfl rfl) ?_))
        (refine KL.v rfl (Val.assign rfl) ?_)
        refine KL.nil ?_
        refine byCode ?_
        exact KE.again (k + 1) bySub byPart ⟨by omega, fun j x' hj hx' => by
          rcases Nat.lt_or_ge j k with h | h
          · exact hless j x' h hx'
          · have : j = k := by omega
            subst this
            rw [hy] at hx'; cases hx'; exact hyx⟩ (by omega)
      · by_cases heq : y = x.t
        · have hin : x.t ∈ ts := heq ▸ List.mem_of_getElem? hy
          have hmem2 : ∀ z, z ∈ ts ↔ z ∈ (l.take (i + 1)).map (·.t) := fun z => by
            rw [hmem' z]
            constructor
            · exact .inl
            · rintro (h | rfl)
              · exact h
              · exact hin
          refine byCodeD ?_
          (first | refine K.seq (K.drawn _ [(0, 0), (1, 0), (2, 0), (3, 0), (4, 0), (5, 0), (6, 0), (7, 0), (8, 0), (9, 0), (10, 0), (11, 0), (12, 0), (13, 0), (14, 0), (15, 0)] (by kernel_rfl) (by kernel_rfl) (by kernel_rfl) (by kernel_rfl) (by kernel_rfl) (by kernel_rfl) Part.all ?_) | refine K.seq (K.seq (K.drawn _ [(0, 0), (1, 0), (2, 0), (3, 0), (4, 0), (5, 0), (6, 0), (7, 0), (8, 0), (9, 0), (10, 0), (11, 0), (12, 0), (13, 0), (14, 0), (15, 0)] (by kernel_rfl) (by kernel_rfl) (by kernel_rfl) (by kernel_rfl) (by kernel_rfl) (by kernel_rfl) Part.all ?_)) | refine K.drawn _ [(0, 0), (1, 0), (2, 0), (3, 0), (4, 0), (5, 0), (6, 0), (7, 0), (8, 0), (9, 0), (10, 0), (11, 0), (12, 0), (13, 0), (14, 0), (15, 0)] (by kernel_rfl) (by kernel_rfl) (by kernel_rfl) (by kernel_rfl) (by kernel_rfl) (by kernel_rfl) Part.all ?_)
          refine KD.v0 rfl rfl (Val.move rfl) ?_
          refine KD.v0 rfl rfl (Val.move rfl) ?_
          (first | refine KD.v0 rfl rfl (Val.lenSl rfl rfl bySli) ?_ | refine KD.v0 rfl rfl (Val.lenS rfl rfl) ?_)
          (first | refine KD.v0 rfl rfl (Val.isT (Val.lss rfl rfl) byLt) ?_ | refine KD.v0 rfl rfl (Val.isF (Val.lss rfl rfl) byLt) ?_ | refine KD.v0 rfl rfl (Val.lss rfl rfl) ?_)
          refine KD.v0 rfl rfl (Val.move rfl) ?_
          (first | refine KD.no rfl rfl rfl rfl rfl ?_ | refine KD.noU rfl rfl rfl rfl rfl ?_ | refine KD.y0 rfl rfl rfl rfl (Val.move rfl) ?_)
          (first | refine KD.no rfl rfl rfl rfl rfl ?_ | refine KD.noU rfl rfl rfl rfl rfl ?_ | refine KD.y0 rfl rfl rfl rfl (Val.move rfl) ?_)
          (first | refine KD.no rfl rfl rfl rfl rfl ?_ | refine KD.noU rfl rfl rfl rfl rfl ?_ | refine KD.y0 rfl rfl rfl rfl (Val.idxSl rfl rfl rfl bySli rfl byLt) ?_ | refine KD.y0 rfl rfl rfl rfl (Val.idxSlZ rfl rfl rfl bySli rfl (by omega)) ?_ | refine KD.y0 rfl rfl rfl rfl (Val.indexS1 rfl rfl rfl rfl (by omega)) ?_ | refine KD.y0 rfl rfl rfl rfl (Val.indexS rfl rfl rfl rfl (by omega)) ?_ | refine KD.y0 rfl rfl rfl rfl (Val.indexSO rfl rfl rfl rfl (by omega)) ?_ | refine KD.y0 rfl rfl rfl rfl (Val.indexSG rfl rfl rfl rfl (by omega)) ?_)
          (first | refine KD.no rfl rfl rfl rfl rfl ?_ | refine KD.noU rfl rfl rfl rfl rfl ?_ | refine KD.y0 rfl rfl rfl rfl (Val.loadP rfl rfl bySee) ?_)
          (first | refine KD.no rfl rfl rfl rfl rfl ?_ | refine KD.noU rfl rfl rfl rfl rfl ?_ | refine KD.y0 rfl rfl rfl rfl (Val.move rfl) ?_)
          (first | refine KD.no rfl rfl rfl rfl rfl ?_ | refine KD.noU rfl rfl rfl rfl rfl ?_ | refine KD.y0 rfl rfl rfl rfl (Val.move rfl) ?_)
          (first | refine KD.no rfl rfl rfl rfl rfl ?_ | refine KD.noU rfl rfl rfl rfl rfl ?_ | refine KD.y0 rfl rfl rfl rfl (Val.idxSl rfl rfl rfl bySli rfl byLt) ?_ | refine KD.y0 rfl rfl rfl rfl (Val.idxSlZ rfl rfl rfl bySli rfl (by omega)) ?_ | refine KD.y0 rfl rfl rfl rfl (Val.indexS1 rfl rfl rfl rfl (by omega)) ?_ | refine KD.y0 rfl rfl rfl rfl (Val.indexS rfl rfl rfl rfl (by omega)) ?_ | refine KD.y0 rfl rfl rfl rfl (Val.indexSO rfl rfl rfl rfl (by omega)) ?_ | refine KD.y0 rfl rfl rfl rfl (Val.indexSG rfl rfl rfl rfl (by omega)) ?_)
          (first | refine KD.no rfl rfl rfl rfl rfl ?_ | refine KD.noU rfl rfl rfl rfl rfl ?_ | refine KD.y0 rfl rfl rfl rfl (Val.fieldSl rfl rfl) ?_ | refine KD.y0 rfl rfl rfl rfl (Val.fieldAddr0 rfl rfl) ?_ | refine KD.y0 rfl rfl rfl rfl (Val.fieldAddrZ rfl rfl) ?_ | refine KD.y0 rfl rfl rfl rfl (Val.fieldAddr rfl rfl) ?_)
          (first | refine KD.no rfl rfl rfl rfl rfl ?_ | refine KD.noU rfl rfl rfl rfl rfl ?_ | refine KD.y0 rfl rfl rfl rfl (Val.loadP rfl rfl bySee) ?_)
          (first | refine KD.no rfl rfl rfl rfl rfl ?_ | refine KD.noU rfl rfl rfl rfl rfl ?_ | refine KD.y0 rfl rfl rfl rfl (Val.isT (Val.lss rfl rfl) byLt) ?_ | refine KD.y0 rfl rfl rfl rfl (Val.isF (Val.lss rfl rfl) byLt) ?_ | refine KD.y0 rfl rfl rfl rfl (Val.lss rfl rfl) ?_)
          (first | refine KD.v0 rfl rfl (Val.pickT rfl rfl rfl) ?_ | refine KD.v0 rfl rfl (Val.pickF rfl rfl rfl) ?_ | refine KD.v0 rfl rfl (Val.pickB rfl rfl rfl) ?_)
          refine KD.nil ?_
          refine byCodeD ?_
          (first | refine K.seq (K.drawn _ [(0, 0), (1, 0), (2, 0), (3, 0), (4, 0), (5, 0), (6, 0), (7, 0), (8, 0), (9, 0), (10, 0), (11, 0), (12, 0), (13, 0), (14, 0), (15, 0)] (by kernel_rfl) (by kernel_rfl) (by kernel_rfl) (by kernel_rfl) (by kernel_rfl) (by kernel_rfl) Part.all ?_) | refine K.seq (K.seq (K.drawn _ [(0, 0), (1, 0), (2, 0), (3, 0), (4, 0), (5, 0), (6, 0), (7, 0), (8, 0), (9, 0), (10, 0), (11, 0), (12, 0), (13, 0), (14, 0), (15, 0)] (by kernel_rfl) (by kernel_rfl) (by kernel_rfl) (by kernel_rfl) (by kernel_rfl) (by kernel_rfl) Part.all ?_)) | refine K.drawn _ [(0, 0), (1, 0), (2, 0), (3, 0), (4, 0), (5, 0), (6, 0), (7, 0), (8, 0), (9, 0), (10, 0), (11, 0), (12, 0), (13, 0), (14, 0), (15, 0)] (by kernel_rfl) (by kernel_rfl) (by kernel_rfl) (by kernel_rfl) (by kernel_rfl) (by kernel_rfl) Part.all ?_)
          refine KD.v0 rfl rfl (Val.move rfl) ?_
          refine KD.v0 rfl rfl (Val.move rfl) ?_
          (first | refine KD.v0 rfl rfl (Val.lenSl rfl rfl bySli) ?_ | refine KD.v0 rfl rfl (Val.lenS rfl rfl) ?_)
          (first | refine KD.v0 rfl rfl (Val.isT (Val.lss rfl rfl) byLt) ?_ | refine KD.v0 rfl rfl (Val.isF (Val.lss rfl rfl) byLt) ?_ | refine KD.v0 rfl rfl (Val.lss rfl rfl) ?_)
          refine KD.v0 rfl rfl (Val.move rfl) ?_
          (first | refine KD.no rfl rfl rfl rfl rfl ?_ | refine KD.noU rfl rfl rfl rfl rfl ?_ | refine KD.y0 rfl rfl rfl rfl (Val.move rfl) ?_)
          (first | refine KD.no rfl rfl rfl rfl rfl ?_ | refine KD.noU rfl rfl rfl rfl rfl ?_ | refine KD.y0 rfl rfl rfl rfl (Val.move rfl) ?_)
          (first | refine KD.no rfl rfl rfl rfl rfl ?_ | refine KD.noU rfl rfl rfl rfl rfl ?_ | refine KD.y0 rfl rfl rfl rfl (Val.idxSl rfl rfl rfl bySli rfl byLt) ?_ | refine KD.y0 rfl rfl rfl rfl (Val.idxSlZ rfl rfl rfl bySli rfl (by omega)) ?_ | refine KD.y0 rfl rfl rfl rfl (Val.indexS1 rfl rfl rfl rfl (by omega)) ?_ | refine KD.y0 rfl rfl rfl rfl (Val.indexS rfl rfl rfl rfl (by omega)) ?_ | refine KD.y0 rfl rfl rfl rfl (Val.indexSO rfl rfl rfl rfl (by omega)) ?_ | refine KD.y0 rfl rfl rfl rfl (Val.indexSG rfl rfl rfl rfl (by omega)) ?_)
          (first | refine KD.no rfl rfl rfl rfl rfl ?_ | refine KD.noU rfl rfl rfl rfl rfl ?_ | refine KD.y0 rfl rfl rfl rfl (Val.loadP rfl rfl bySee) ?_)
          (first | refine KD.no rfl rfl rfl rfl rfl ?_ | refine KD.noU rfl rfl rfl rfl rfl ?_ | refine KD.y0 rfl rfl rfl rfl (Val.move rfl) ?_)
          (first | refine KD.no rfl rfl rfl rfl rfl ?_ | refine KD.noU rfl rfl rfl rfl rfl ?_ | refine KD.y0 rfl rfl rfl rfl (Val.move rfl) ?_)
          (first | refine KD.no rfl rfl rfl rfl rfl ?_ | refine KD.noU rfl rfl rfl rfl rfl ?_ | refine KD.y0 rfl rfl rfl rfl (Val.idxSl rfl rfl rfl bySli rfl byLt) ?_ | refine KD.y0 rfl rfl rfl rfl (Val.idxSlZ rfl rfl rfl bySli rfl (by omega)) ?_ | refine KD.y0 rfl rfl rfl rfl (Val.indexS1 rfl rfl rfl rfl (by omega)) ?_ | refine KD.y0 rfl rfl rfl rfl (Val.indexS rfl rfl rfl rfl (by omega)) ?_ | refine KD.y0 rfl rfl rfl rfl (Val.indexSO rfl rfl rfl rfl (by omega)) ?_ | refine KD.y0 rfl rfl rfl rfl (Val.indexSG rfl rfl rfl rfl (by omega)) ?_)
          (first | refine KD.no rfl rfl rfl rfl rfl ?_ | refine KD.noU rfl rfl rfl rfl rfl ?_ | refine KD.y0 rfl rfl rfl rfl (Val.fieldSl rfl rfl) ?_ | refine KD.y0 rfl rfl rfl rfl (Val.fieldAddr0 rfl rfl) ?_ | refine KD.y0 rfl rfl rfl rfl (Val.fieldAddrZ rfl rfl) ?_ | refine KD.y0 rfl rfl rfl rfl (Val.fieldAddr rfl rfl) ?_)
          (first | refine KD.no rfl rfl rfl rfl rfl ?_ | refine KD.noU rfl rfl rfl rfl rfl ?_ | refine KD.y0 rfl rfl rfl rfl (Val.loadP rfl rfl bySee) ?_)
          (first | refine KD.no rfl rfl rfl rfl rfl ?_ | refine KD.noU rfl rfl rfl rfl rfl ?_ | refine KD.y0 rfl rfl rfl rfl (Val.isT (Val.eql rfl rfl) byLt) ?_ | refine KD.y0 rfl rfl rfl rfl (Val.isF (Val.eql rfl rfl) byLt) ?_ | refine KD.y0 rfl rfl rfl rfl (Val.eql rfl rfl) ?_)
          (first | refine KD.v0 rfl rfl (Val.pickT rfl rfl rfl) ?_ | refine KD.v0 rfl rfl (Val.pickF rfl rfl rfl) ?_ | refine KD.v0 rfl rfl (Val.pickB rfl rfl rfl) ?_)
          refine KD.nil ?_
          refine byCode ?_
          (refine KL.v rfl (Val.move rfl) ?_)
          (first | (refine KL.v rfl (Val.add rfl rfl (by simp only [Go.Proofs.Ytdkanfjpdnjhcaa.lo, Go.Proofs.Ytdkanfjpdnjhcaa.hi]; omega)) ?_) | (refine KL.v rfl (Val.addW rfl rfl) ?_))
          (refine KL.v rfl (Val.assign rfl) ?_)
          refine KL.nil ?_
          exact KE.again ⟨i + 1, ts, o⟩ bySub byPart ⟨by show i + 1 ≤ _; omega, hsort, hmem2, by show ts.length ≤ i + 1; omega, ok⟩ (by show l.length - (i + 1) < l.length - i; omega)
        · have hins := ten_insert hsort hk hless (fun z hz => by rw [hy] at hz; cases hz; omega)
          have hmem2 : ∀ z, z ∈ ts.take k ++ [x.t] ++ ts.drop k ↔ z ∈ (l.take (i + 1)).map (·.t) := fun z => by
            rw [hmem' z]
            conv => rhs; rw [← List.take_append_drop k ts]
            simp only [List.mem_append, List.mem_singleton]
            constructor <;> (intro h; rcases h with (h | h) | h <;> simp [h])
          have hs1 : Sli w0 (oH iE 3 ts o ++ []) iE (subV (oV o ts.length) 0 k iE.sz) (ts.take k) := by
            have := (Sli.own (w0 := w0) (H := oH iE 3 ts o ++ []) (F := []) TakeL.head ok rfl).sub (l := 0) (h := k) (by omega) hk
            simpa using this
          have hs2 : Sli w0 (oH iE 3 ts o ++ []) iE (subV (oV o ts.length) k ts.length iE.sz) (ts.drop k) := by
            have := (Sli.own (w0 := w0) (H := oH iE 3 ts o ++ []) (F := []) TakeL.head ok rfl).sub (l := k) (h := ts.length) hk (Nat.le_refl _)
            simpa using this
          have q1 : (ts.take k).length ≤ 4294967296 := by simp; omega
          have q2 : (ts.take k ++ [x.t]).length ≤ 4294967296 := by simp; omega
          have q3 : (ts.take k ++ [x.t] ++ ts.drop k).length ≤ i + 1 := by simp; omega
          have q4 : (ts.take k ++ [x.t] ++ ts.drop k).length ≤ 4294967296 := by omega
          refine byCodeD ?_
          (first | refine K.seq (K.drawn _ [(0, 0), (1, 0), (2, 0), (3, 0), (4, 0), (5, 0), (6, 0), (7, 0), (8, 0), (9, 0), (10, 0), (11, 0), (12, 0), (13, 0), (14, 0), (15, 0)] (by kernel_rfl) (by kernel_rfl) (by kernel_rfl) (by kernel_rfl) (by kernel_rfl) (by kernel_rfl) Part.all ?_) | refine K.seq (K.seq (K.drawn _ [(0, 0), (1, 0), (2, 0), (3, 0), (4, 0), (5, 0), (6, 0), (7, 0), (8, 0), (9, 0), (10, 0), (11, 0), (12, 0), (13, 0), (14, 0), (15, 0)] (by kernel_rfl) (by kernel_rfl) (by kernel_rfl) (by kernel_rfl) (by kernel_rfl) (by kernel_rfl) Part.all ?_)) | refine K.drawn _ [(0, 0), (1, 0), (2, 0), (3, 0), (4, 0), (5, 0), (6, 0), (7, 0), (8, 0), (9, 0), (10, 0), (11, 0), (12, 0), (13, 0), (14, 0), (15, 0)] (by kernel_rfl) (by kernel_rfl) (by kernel_rfl) (by kernel_rfl) (by kernel_rfl) (by kernel_rfl) Part.all ?_)
          refine KD.v0 rfl rfl (Val.move rfl) ?_
          refine KD.v0 rfl rfl (Val.move rfl) ?_
          (first | refine KD.v0 rfl rfl (Val.lenSl rfl rfl bySli) ?_ | refine KD.v0 rfl rfl (Val.lenS rfl rfl) ?_)
          (first | refine KD.v0 rfl rfl (Val.isT (Val.lss rfl rfl) byLt) ?_ | refine KD.v0 rfl rfl (Val.isF (Val.lss rfl rfl) byLt) ?_ | refine KD.v0 rfl rfl (Val.lss rfl rfl) ?_)
          refine KD.v0 rfl rfl (Val.move rfl) ?_
          (first | refine KD.no rfl rfl rfl rfl rfl ?_ | refine KD.noU rfl rfl rfl rfl rfl ?_ | refine KD.y0 rfl rfl rfl rfl (Val.move rfl) ?_)
          (first | refine KD.no rfl rfl rfl rfl rfl ?_ | refine KD.noU rfl rfl rfl rfl rfl ?_ | refine KD.y0 rfl rfl rfl rfl (Val.move rfl) ?_)
          (first | refine KD.no rfl rfl rfl rfl rfl ?_ | refine KD.noU rfl rfl rfl rfl rfl ?_ | refine KD.y0 rfl rfl rfl rfl (Val.idxSl rfl rfl rfl bySli rfl byLt) ?_ | refine KD.y0 rfl rfl rfl rfl (Val.idxSlZ rfl rfl rfl bySli rfl (by omega)) ?_ | refine KD.y0 rfl rfl rfl rfl (Val.indexS1 rfl rfl rfl rfl (by omega)) ?_ | refine KD.y0 rfl rfl rfl rfl (Val.indexS rfl rfl rfl rfl (by omega)) ?_ | refine KD.y0 rfl rfl rfl rfl (Val.indexSO rfl rfl rfl rfl (by omega)) ?_ | refine KD.y0 rfl rfl rfl rfl (Val.indexSG rfl rfl rfl rfl (by omega)) ?_)
          (first | refine KD.no rfl rfl rfl rfl rfl ?_ | refine KD.noU rfl rfl rfl rfl rfl ?_ | refine KD.y0 rfl rfl rfl rfl (Val.loadP rfl rfl bySee) ?_)
          (first | refine KD.no rfl rfl rfl rfl rfl ?_ | refine KD.noU rfl rfl rfl rfl rfl ?_ | refine KD.y0 rfl rfl rfl rfl (Val.move rfl) ?_)
          (first | refine KD.no rfl rfl rfl rfl rfl ?_ | refine KD.noU rfl rfl rfl rfl rfl ?_ | refine KD.y0 rfl rfl rfl rfl (Val.move rfl) ?_)
          (first | refine KD.no rfl rfl rfl rfl rfl ?_ | refine KD.noU rfl rfl rfl rfl rfl ?_ | refine KD.y0 rfl rfl rfl rfl (Val.idxSl rfl rfl rfl bySli rfl byLt) ?_ | refine KD.y0 rfl rfl rfl rfl (Val.idxSlZ rfl rfl rfl bySli rfl (by omega)) ?_ | refine KD.y0 rfl rfl rfl rfl (Val.indexS1 rfl rfl rfl rfl (by omega)) ?_ | refine KD.y0 rfl rfl rfl rfl (Val.indexS rfl rfl rfl rfl (by omega)) ?_ | refine KD.y0 rfl rfl rfl rfl (Val.indexSO rfl rfl rfl rfl (by omega)) ?_ | refine KD.y0 rfl rfl rfl rfl (Val.indexSG rfl rfl rfl rfl (by omega)) ?_)
          (first | refine KD.no rfl rfl rfl rfl rfl ?_ | refine KD.noU rfl rfl rfl rfl rfl ?_ | refine KD.y0 rfl rfl rfl rfl (Val.fieldSl rfl rfl) ?_ | refine KD.y0 rfl rfl rfl rfl (Val.fieldAddr0 rfl rfl) ?_ | refine KD.y0 rfl rfl rfl rfl (Val.fieldAddrZ rfl rfl) ?_ | refine KD.y0 rfl rfl rfl rfl (Val.fieldAddr rfl rfl) ?_)
          (first | refine KD.no rfl rfl rfl rfl rfl ?_ | refine KD.noU rfl rfl rfl rfl rfl ?_ | refine KD.y0 rfl rfl rfl rfl (Val.loadP rfl rfl bySee) ?_)
          (first | refine KD.no rfl rfl rfl rfl rfl ?_ | refine KD.noU rfl rfl rfl rfl rfl ?_ | refine KD.y0 rfl rfl rfl rfl (Val.isT (Val.lss rfl rfl) byLt) ?_ | refine KD.y0 rfl rfl rfl rfl (Val.isF (Val.lss rfl rfl) byLt) ?_ | refine KD.y0 rfl rfl rfl rfl (Val.lss rfl rfl) ?_)
          (first | refine KD.v0 rfl rfl (Val.pickT rfl rfl rfl) ?_ | refine KD.v0 rfl rfl (Val.pickF rfl rfl rfl) ?_ | refine KD.v0 rfl rfl (Val.pickB rfl rfl rfl) ?_)
          refine KD.nil ?_
          refine byCodeD ?_
          (first | refine K.seq (K.drawn _ [(0, 0), (1, 0), (2, 0), (3, 0), (4, 0), (5, 0), (6, 0), (7, 0), (8, 0), (9, 0), (10, 0), (11, 0), (12, 0), (13, 0), (14, 0), (15, 0)] (by kernel_rfl) (by kernel_rfl) (by kernel_rfl) (by kernel_rfl) (by kernel_rfl) (by kernel_rfl) Part.all ?_) | refine K.seq (K.seq (K.drawn _ [(0, 0), (1, 0), (2, 0), (3, 0), (4, 0), (5, 0), (6, 0), (7, 0), (8, 0), (9, 0), (10, 0), (11, 0), (12, 0), (13, 0), (14, 0), (15, 0)] (by kernel_rfl) (by kernel_rfl) (by kernel_rfl) (by kernel_rfl) (by kernel_rfl) (by kernel_rfl) Part.all ?_)) | refine K.drawn _ [(0, 0), (1, 0), (2, 0), (3, 0), (4, 0), (5, 0), (6, 0), (7, 0), (8, 0), (9, 0), (10, 0), (11, 0), (12, 0), (13, 0), (14, 0), (15, 0)] (by kernel_rfl) (by kernel_rfl) (by kernel_rfl) (by kernel_rfl) (by kernel_rfl) (by kernel_rfl) Part.all ?_)
          refine KD.v0 rfl rfl (Val.move rfl) ?_
          refine KD.v0 rfl rfl (Val.move rfl) ?_
          (first | refine KD.v0 rfl rfl (Val.lenSl rfl rfl bySli) ?_ | refine KD.v0 rfl rfl (Val.lenS rfl rfl) ?_)
          (first | refine KD.v0 rfl rfl (Val.isT (Val.lss rfl rfl) byLt) ?_ | refine KD.v0 rfl rfl (Val.isF (Val.lss rfl rfl) byLt) ?_ | refine KD.v0 rfl rfl (Val.lss rfl rfl) ?_)
          refine KD.v0 rfl rfl (Val.move rfl) ?_
          (first | refine KD.no rfl rfl rfl rfl rfl ?_ | refine KD.noU rfl rfl rfl rfl rfl ?_ | refine KD.y0 rfl rfl rfl rfl (Val.move rfl) ?_)
          (first | refine KD.no rfl rfl rfl rfl rfl ?_ | refine KD.noU rfl rfl rfl rfl rfl ?_ | refine KD.y0 rfl rfl rfl rfl (Val.move rfl) ?_)
          (first | refine KD.no rfl rfl rfl rfl rfl ?_ | refine KD.noU rfl rfl rfl rfl rfl ?_ | refine KD.y0 rfl rfl rfl rfl (Val.idxSl rfl rfl rfl bySli rfl byLt) ?_ | refine KD.y0 rfl rfl rfl rfl (Val.idxSlZ rfl rfl rfl bySli rfl (by omega)) ?_ | refine KD.y0 rfl rfl rfl rfl (Val.indexS1 rfl rfl rfl rfl (by omega)) ?_ | refine KD.y0 rfl rfl rfl rfl (Val.indexS rfl rfl rfl rfl (by omega)) ?_ | refine KD.y0 rfl rfl rfl rfl (Val.indexSO rfl rfl rfl rfl (by omega)) ?_ | refine KD.y0 rfl rfl rfl rfl (Val.indexSG rfl rfl rfl rfl (by omega)) ?_)
          (first | refine KD.no rfl rfl rfl rfl rfl ?_ | refine KD.noU rfl rfl rfl rfl rfl ?_ | refine KD.y0 rfl rfl rfl rfl (Val.loadP rfl rfl bySee) ?_)
          (first | refine KD.no rfl rfl rfl rfl rfl ?_ | refine KD.noU rfl rfl rfl rfl rfl ?_ | refine KD.y0 rfl rfl rfl rfl (Val.move rfl) ?_)
          (first | refine KD.no rfl rfl rfl rfl rfl ?_ | refine KD.noU rfl rfl rfl rfl rfl ?_ | refine KD.y0 rfl rfl rfl rfl (Val.move rfl) ?_)
          (first | refine KD.no rfl rfl rfl rfl rfl ?_ | refine KD.noU rfl rfl rfl rfl rfl ?_ | refine KD.y0 rfl rfl rfl rfl (Val.idxSl rfl rfl rfl bySli rfl byLt) ?_ | refine KD.y0 rfl rfl rfl rfl (Val.idxSlZ rfl rfl rfl bySli rfl (by omega)) ?_ | refine KD.y0 rfl rfl rfl rfl (Val.indexS1 rfl rfl rfl rfl (by omega)) ?_ | refine KD.y0 rfl rfl rfl rfl (Val.indexS rfl rfl rfl rfl (by omega)) ?_ | refine KD.y0 rfl rfl rfl rfl (Val.indexSO rfl rfl rfl rfl (by omega)) ?_ | refine KD.y0 rfl rfl rfl rfl (Val.indexSG rfl rfl rfl rfl (by omega)) ?_)
          (first | refine KD.no rfl rfl rfl rfl rfl ?_ | refine KD.noU rfl rfl rfl rfl rfl ?_ | refine KD.y0 rfl rfl rfl rfl (Val.fieldSl rfl rfl) ?_ | refine KD.y0 rfl rfl rfl rfl (Val.fieldAddr0 rfl rfl) ?_ | refine KD.y0 rfl rfl rfl rfl (Val.fieldAddrZ rfl rfl) ?_ | refine KD.y0 rfl rfl rfl rfl (Val.fieldAddr rfl rfl) ?_)
          (first | refine KD.no rfl rfl rfl rfl rfl ?_ | refine KD.noU rfl rfl rfl rfl rfl ?_ | refine KD.y0 rfl rfl rfl rfl (Val.loadP rfl rfl bySee) ?_)
          (first | refine KD.no rfl rfl rfl rfl rfl ?_ | refine KD.noU rfl rfl rfl rfl rfl ?_ | refine KD.y0 rfl rfl rfl rfl (Val.isT (Val.eql rfl rfl) byLt) ?_ | refine KD.y0 rfl rfl rfl rfl (Val.isF (Val.eql rfl rfl) byLt) ?_ | refine KD.y0 rfl rfl rfl rfl (Val.eql rfl rfl) ?_)
          (first | refine KD.v0 rfl rfl (Val.pickT rfl rfl rfl) ?_ | refine KD.v0 rfl rfl (Val.pickF rfl rfl rfl) ?_ | refine KD.v0 rfl rfl (Val.pickB rfl rfl rfl) ?_)
          refine KD.nil ?_
          refine byCode ?_
          (refine KL.e rfl (Eff.buildS byParts rfl rfl rfl rfl rfl byFill) ?_; rintro _ _ ⟨b47, rfl, rfl⟩)
          (refine KL.v rfl (Val.move rfl) ?_)
          (refine KL.v rfl (Val.move rfl) ?_)
          (refine KL.v rfl (Val.sliceH rfl rfl rfl bySli rfl byLt) ?_)
          -- STOP at region 9 op 4: {"h": "Op.call", "a": [{"callee": {"h": "Callee.builtin", "a": ["Builtin.append"]}, "args": [{"h": "Operand.tmp", "a": [47]}, {"h": "Operand.tmp", "a": [50]}], "argTypes": [33, 33]}]}
          (refine KL.e rfl (Eff.appLit (E := iE) (ys := ts.take k) rfl rfl rfl rfl rfl rfl rfl byTake (by first | exact Sli.blk byTake rfl (by first | decide | simp) (by first | decide | (unfold maxLen; omega)) rfl | exact Sli.old (by assumption) | exact Sli.own byTakeL (by assumption) byLen | assumption | exact Sli.part (by assumption) byPart) (by first | assumption | omega | (simp <;> fail) | (simp; omega)) rfl) ?_; rintro _ _ ⟨o', ok', rfl, rfl⟩)
          (refine KL.v rfl (Val.assign rfl) ?_)
          refine KL.nil ?_
          refine byCode ?_
          (refine KL.v rfl (Val.move rfl) ?_)
          (refine KL.v rfl (Val.move rfl) ?_)
          (refine KL.v rfl (Val.move rfl) ?_)
          (first | (refine KL.v rfl (Val.idxSl rfl rfl rfl bySli rfl byLt) ?_) | (refine KL.v rfl (Val.idxSlZ rfl rfl rfl bySli rfl (by omega)) ?_) | (refine KL.v rfl (Val.indexS1 rfl rfl rfl rfl (by omega)) ?_) | (refine KL.v rfl (Val.indexS rfl rfl rfl rfl (by omega)) ?_) | (refine KL.v rfl (Val.indexSO rfl rfl rfl rfl (by omega)) ?_) | (refine KL.v rfl (Val.indexSG rfl rfl rfl rfl (by omega)) ?_))
          (first | (refine KL.v rfl (Val.fieldSl rfl rfl) ?_) | (refine KL.v rfl (Val.fieldAddr0 rfl rfl) ?_) | (refine KL.v rfl (Val.fieldAddrZ rfl rfl) ?_) | (refine KL.v rfl (Val.fieldAddr rfl rfl) ?_))
          (refine KL.v rfl (Val.loadP rfl rfl bySee) ?_)
          (refine KL.e rfl (Eff.buildS byParts rfl rfl rfl rfl rfl byFill) ?_; rintro _ _ ⟨b58, rfl, rfl⟩)
          -- STOP at region 10 op 7: {"h": "Op.call", "a": [{"callee": {"h": "Callee.builtin", "a": ["Builtin.append"]}, "args": [{"h": "Operand.tmp", "a": [52]}, {"h": "Operand.tmp", "a": [58]}], "argTypes": [33, 33]}]}
          (refine KL.e rfl (Eff.appZ (E := iE) (xs := ts.take k) (o := o') (ys := [x.t]) (zs := ts.take k ++ [x.t]) rfl rfl rfl rfl rfl rfl byTakeL (by assumption) (by first | exact Sli.blk byTake rfl (by first | decide | simp) (by first | decide | (unfold maxLen; omega)) rfl | exact Sli.old (by assumption) | exact Sli.own byTakeL (by assumption) byLen | assumption | exact Sli.part (by assumption) byPart) (rfl) (by first | assumption | omega | (simp <;> fail) | (simp; omega)) rfl) ?_; rintro _ _ ⟨o', ok', rfl, rfl⟩)
          (refine KL.v rfl (Val.assign rfl) ?_)
          refine KL.nil ?_
          refine byCode ?_
          (refine KL.v rfl (Val.move rfl) ?_)
          (refine KL.v rfl (Val.move rfl) ?_)
          (refine KL.v rfl (Val.move rfl) ?_)
          (first | (refine KL.v rfl (Val.sliceL rfl rfl rfl bySli rfl byLt) ?_) | (refine KL.v rfl (Val.sliceLZ rfl rfl rfl bySli rfl (by omega)) ?_))
          -- STOP at region 11 op 4: {"h": "Op.call", "a": [{"callee": {"h": "Callee.builtin", "a": ["Builtin.append"]}, "args": [{"h": "Operand.tmp", "a": [60]}, {"h": "Operand.tmp", "a": [63]}], "argTypes": [33, 33]}]}
          (refine KL.e rfl (Eff.appZ (E := iE) (xs := ts.take k ++ [x.t]) (o := o') (ys := ts.drop k) (zs := ts.take k ++ [x.t] ++ ts.drop k) rfl rfl rfl rfl rfl rfl byTakeL (by assumption) (by first | exact Sli.blk byTake rfl (by first | decide | simp) (by first | decide | (unfold maxLen; omega)) rfl | exact Sli.old (by assumption) | exact Sli.own byTakeL (by assumption) byLen | assumption | exact Sli.part (by assumption) byPart) (rfl) (by first | assumption | omega | (simp <;> fail) | (simp; omega)) rfl) ?_; rintro _ _ ⟨o', ok', rfl, rfl⟩)
          (refine KL.v rfl (Val.assign rfl) ?_)
          refine KL.nil ?_
          refine byCode ?_
          (refine KL.v rfl (Val.move rfl) ?_)
          (first | (refine KL.v rfl (Val.add rfl rfl (by simp only [Go.Proofs.Ytdkanfjpdnjhcaa.lo, Go.Proofs.Ytdkanfjpdnjhcaa.hi]; omega)) ?_) | (refine KL.v rfl (Val.addW rfl rfl) ?_))
          (refine KL.v rfl (Val.assign rfl) ?_)
          refine KL.nil ?_
          exact KE.again ⟨i + 1, ts.take k ++ [x.t] ++ ts.drop k, o'⟩ bySub byPart ⟨by show i + 1 ≤ _; omega, hins, hmem2, q3, ok'⟩ (by show l.length - (i + 1) < l.length - i; omega)
    · have hins := ten_insert hsort hk hless (fun z hz => by rw [List.getElem?_eq_none (by omega)] at hz; cases hz)
      have hmem2 : ∀ z, z ∈ ts.take k ++ [x.t] ++ ts.drop k ↔ z ∈ (l.take (i + 1)).map (·.t) := fun z => by
        rw [hmem' z]
        conv => rhs; rw [← List.take_append_drop k ts]
        simp only [List.mem_append, List.mem_singleton]
        constructor <;> (intro h; rcases h with (h | h) | h <;> simp [h])
      have hs1 : Sli w0 (oH iE 3 ts o ++ []) iE (subV (oV o ts.length) 0 k iE.sz) (ts.take k) := by
        have := (Sli.own (w0 := w0) (H := oH iE 3 ts o ++ []) (F := []) TakeL.head ok rfl).sub (l := 0) (h := k) (by omega) hk
        simpa using this
      have hs2 : Sli w0 (oH iE 3 ts o ++ []) iE (subV (oV o ts.length) k ts.length iE.sz) (ts.drop k) := by
        have := (Sli.own (w0 := w0) (H := oH iE 3 ts o ++ []) (F := []) TakeL.head ok rfl).sub (l := k) (h := ts.length) hk (Nat.le_refl _)
        simpa using this
      have q1 : (ts.take k).length ≤ 4294967296 := by simp; omega
      have q2 : (ts.take k ++ [x.t]).length ≤ 4294967296 := by simp; omega
      have q3 : (ts.take k ++ [x.t] ++ ts.drop k).length ≤ i + 1 := by simp; omega
      have q4 : (ts.take k ++ [x.t] ++ ts.drop k).length ≤ 4294967296 := by omega
      refine byCodeD ?_
      (first | refine K.seq (K.drawn _ [(0, 0), (1, 0), (2, 0), (3, 0), (4, 0), (5, 0), (6, 0), (7, 0), (8, 0), (9, 0), (10, 0), (11, 0), (12, 0), (13, 0), (14, 0), (15, 0)] (by kernel_rfl) (by kernel_rfl) (by kernel_rfl) (by kernel_rfl) (by kernel_rfl) (by kernel_rfl) Part.all ?_) | refine K.seq (K.seq (K.drawn _ [(0, 0), (1, 0), (2, 0), (3, 0), (4, 0), (5, 0), (6, 0), (7, 0), (8, 0), (9, 0), (10, 0), (11, 0), (12, 0), (13, 0), (14, 0), (15, 0)] (by kernel_rfl) (by kernel_rfl) (by kernel_rfl) (by kernel_rfl) (by kernel_rfl) (by kernel_rfl) Part.all ?_)) | refine K.drawn _ [(0, 0), (1, 0), (2, 0), (3, 0), (4, 0), (5, 0), (6, 0), (7, 0), (8, 0), (9, 0), (10, 0), (11, 0), (12, 0), (13, 0), (14, 0), (15, 0)] (by kernel_rfl) (by kernel_rfl) (by kernel_rfl) (by kernel_rfl) (by kernel_rfl) (by kernel_rfl) Part.all ?_)
      refine KD.v0 rfl rfl (Val.move rfl) ?_
      refine KD.v0 rfl rfl (Val.move rfl) ?_
      (first | refine KD.v0 rfl rfl (Val.lenSl rfl rfl bySli) ?_ | refine KD.v0 rfl rfl (Val.lenS rfl rfl) ?_)
      (first | refine KD.v0 rfl rfl (Val.isT (Val.lss rfl rfl) byLt) ?_ | refine KD.v0 rfl rfl (Val.isF (Val.lss rfl rfl) byLt) ?_ | refine KD.v0 rfl rfl (Val.lss rfl rfl) ?_)
      refine KD.v0 rfl rfl (Val.move rfl) ?_
      (first | refine KD.no rfl rfl rfl rfl rfl ?_ | refine KD.noU rfl rfl rfl rfl rfl ?_ | refine KD.y0 rfl rfl rfl rfl (Val.move rfl) ?_)
      (first | refine KD.no rfl rfl rfl rfl rfl ?_ | refine KD.noU rfl rfl rfl rfl rfl ?_ | refine KD.y0 rfl rfl rfl rfl (Val.move rfl) ?_)
      (first | refine KD.no rfl rfl rfl rfl rfl ?_ | refine KD.noU rfl rfl rfl rfl rfl ?_ | refine KD.y0 rfl rfl rfl rfl (Val.idxSl rfl rfl rfl bySli rfl byLt) ?_ | refine KD.y0 rfl rfl rfl rfl (Val.idxSlZ rfl rfl rfl bySli rfl (by omega)) ?_ | refine KD.y0 rfl rfl rfl rfl (Val.indexS1 rfl rfl rfl rfl (by omega)) ?_ | refine KD.y0 rfl rfl rfl rfl (Val.indexS rfl rfl rfl rfl (by omega)) ?_ | refine KD.y0 rfl rfl rfl rfl (Val.indexSO rfl rfl rfl rfl (by omega)) ?_ | refine KD.y0 rfl rfl rfl rfl (Val.indexSG rfl rfl rfl rfl (by omega)) ?_)
      (first | refine KD.no rfl rfl rfl rfl rfl ?_ | refine KD.noU rfl rfl rfl rfl rfl ?_ | refine KD.y0 rfl rfl rfl rfl (Val.loadP rfl rfl bySee) ?_)
      (first | refine KD.no rfl rfl rfl rfl rfl ?_ | refine KD.noU rfl rfl rfl rfl rfl ?_ | refine KD.y0 rfl rfl rfl rfl (Val.move rfl) ?_)
      (first | refine KD.no rfl rfl rfl rfl rfl ?_ | refine KD.noU rfl rfl rfl rfl rfl ?_ | refine KD.y0 rfl rfl rfl rfl (Val.move rfl) ?_)
      (first | refine KD.no rfl rfl rfl rfl rfl ?_ | refine KD.noU rfl rfl rfl rfl rfl ?_ | refine KD.y0 rfl rfl rfl rfl (Val.idxSl rfl rfl rfl bySli rfl byLt) ?_ | refine KD.y0 rfl rfl rfl rfl (Val.idxSlZ rfl rfl rfl bySli rfl (by omega)) ?_ | refine KD.y0 rfl rfl rfl rfl (Val.indexS1 rfl rfl rfl rfl (by omega)) ?_ | refine KD.y0 rfl rfl rfl rfl (Val.indexS rfl rfl rfl rfl (by omega)) ?_ | refine KD.y0 rfl rfl rfl rfl (Val.indexSO rfl rfl rfl rfl (by omega)) ?_ | refine KD.y0 rfl rfl rfl rfl (Val.indexSG rfl rfl rfl rfl (by omega)) ?_)
      (first | refine KD.no rfl rfl rfl rfl rfl ?_ | refine KD.noU rfl rfl rfl rfl rfl ?_ | refine KD.y0 rfl rfl rfl rfl (Val.fieldSl rfl rfl) ?_ | refine KD.y0 rfl rfl rfl rfl (Val.fieldAddr0 rfl rfl) ?_ | refine KD.y0 rfl rfl rfl rfl (Val.fieldAddrZ rfl rfl) ?_ | refine KD.y0 rfl rfl rfl rfl (Val.fieldAddr rfl rfl) ?_)
      (first | refine KD.no rfl rfl rfl rfl rfl ?_ | refine KD.noU rfl rfl rfl rfl rfl ?_ | refine KD.y0 rfl rfl rfl rfl (Val.loadP rfl rfl bySee) ?_)
      (first | refine KD.no rfl rfl rfl rfl rfl ?_ | refine KD.noU rfl rfl rfl rfl rfl ?_ | refine KD.y0 rfl rfl rfl rfl (Val.isT (Val.lss rfl rfl) byLt) ?_ | refine KD.y0 rfl rfl rfl rfl (Val.isF (Val.lss rfl rfl) byLt) ?_ | refine KD.y0 rfl rfl rfl rfl (Val.lss rfl rfl) ?_)
      (first | refine KD.v0 rfl rfl (Val.pickT rfl rfl rfl) ?_ | refine KD.v0 rfl rfl (Val.pickF rfl rfl rfl) ?_ | refine KD.v0 rfl rfl (Val.pickB rfl rfl rfl) ?_)
      refine KD.nil ?_
      refine byCodeD ?_
      (first | refine K.seq (K.drawn _ [(0, 0), (1, 0), (2, 0), (3, 0), (4, 0), (5, 0), (6, 0), (7, 0), (8, 0), (9, 0), (10, 0), (11, 0), (12, 0), (13, 0), (14, 0), (15, 0)] (by kernel_rfl) (by kernel_rfl) (by kernel_rfl) (by kernel_rfl) (by kernel_rfl) (by kernel_rfl) Part.all ?_) | refine K.seq (K.seq (K.drawn _ [(0, 0), (1, 0), (2, 0), (3, 0), (4, 0), (5, 0), (6, 0), (7, 0), (8, 0), (9, 0), (10, 0), (11, 0), (12, 0), (13, 0), (14, 0), (15, 0)] (by kernel_rfl) (by kernel_rfl) (by kernel_rfl) (by kernel_rfl) (by kernel_rfl) (by kernel_rfl) Part.all ?_)) | refine K.drawn _ [(0, 0), (1, 0), (2, 0), (3, 0), (4, 0), (5, 0), (6, 0), (7, 0), (8, 0), (9, 0), (10, 0), (11, 0), (12, 0), (13, 0), (14, 0), (15, 0)] (by kernel_rfl) (by kernel_rfl) (by kernel_rfl) (by kernel_rfl) (by kernel_rfl) (by kernel_rfl) Part.all ?_)
      refine KD.v0 rfl rfl (Val.move rfl) ?_
      refine KD.v0 rfl rfl (Val.move rfl) ?_
      (first | refine KD.v0 rfl rfl (Val.lenSl rfl rfl bySli) ?_ | refine KD.v0 rfl rfl (Val.lenS rfl rfl) ?_)
      (first | refine KD.v0 rfl rfl (Val.isT (Val.lss rfl rfl) byLt) ?_ | refine KD.v0 rfl rfl (Val.isF (Val.lss rfl rfl) byLt) ?_ | refine KD.v0 rfl rfl (Val.lss rfl rfl) ?_)
      refine KD.v0 rfl rfl (Val.move rfl) ?_
      (first | refine KD.no rfl rfl rfl rfl rfl ?_ | refine KD.noU rfl rfl rfl rfl rfl ?_ | refine KD.y0 rfl rfl rfl rfl (Val.move rfl) ?_)
      (first | refine KD.no rfl rfl rfl rfl rfl ?_ | refine KD.noU rfl rfl rfl rfl rfl ?_ | refine KD.y0 rfl rfl rfl rfl (Val.move rfl) ?_)
      (first | refine KD.no rfl rfl rfl rfl rfl ?_ | refine KD.noU rfl rfl rfl rfl rfl ?_ | refine KD.y0 rfl rfl rfl rfl (Val.idxSl rfl rfl rfl bySli rfl byLt) ?_ | refine KD.y0 rfl rfl rfl rfl (Val.idxSlZ rfl rfl rfl bySli rfl (by omega)) ?_ | refine KD.y0 rfl rfl rfl rfl (Val.indexS1 rfl rfl rfl rfl (by omega)) ?_ | refine KD.y0 rfl rfl rfl rfl (Val.indexS rfl rfl rfl rfl (by omega)) ?_ | refine KD.y0 rfl rfl rfl rfl (Val.indexSO rfl rfl rfl rfl (by omega)) ?_ | refine KD.y0 rfl rfl rfl rfl (Val.indexSG rfl rfl rfl rfl (by omega)) ?_)
      (first | refine KD.no rfl rfl rfl rfl rfl ?_ | refine KD.noU rfl rfl rfl rfl rfl ?_ | refine KD.y0 rfl rfl rfl rfl (Val.loadP rfl rfl bySee) ?_)
      (first | refine KD.no rfl rfl rfl rfl rfl ?_ | refine KD.noU rfl rfl rfl rfl rfl ?_ | refine KD.y0 rfl rfl rfl rfl (Val.move rfl) ?_)
      (first | refine KD.no rfl rfl rfl rfl rfl ?_ | refine KD.noU rfl rfl rfl rfl rfl ?_ | refine KD.y0 rfl rfl rfl rfl (Val.move rfl) ?_)
      (first | refine KD.no rfl rfl rfl rfl rfl ?_ | refine KD.noU rfl rfl rfl rfl rfl ?_ | refine KD.y0 rfl rfl rfl rfl (Val.idxSl rfl rfl rfl bySli rfl byLt) ?_ | refine KD.y0 rfl rfl rfl rfl (Val.idxSlZ rfl rfl rfl bySli rfl (by omega)) ?_ | refine KD.y0 rfl rfl rfl rfl (Val.indexS1 rfl rfl rfl rfl (by omega)) ?_ | refine KD.y0 rfl rfl rfl rfl (Val.indexS rfl rfl rfl rfl (by omega)) ?_ | refine KD.y0 rfl rfl rfl rfl (Val.indexSO rfl rfl rfl rfl (by omega)) ?_ | refine KD.y0 rfl rfl rfl rfl (Val.indexSG rfl rfl rfl rfl (by omega)) ?_)
      (first | refine KD.no rfl rfl rfl rfl rfl ?_ | refine KD.noU rfl rfl rfl rfl rfl ?_ | refine KD.y0 rfl rfl rfl rfl (Val.fieldSl rfl rfl) ?_ | refine KD.y0 rfl rfl rfl rfl (Val.fieldAddr0 rfl rfl) ?_ | refine KD.y0 rfl rfl rfl rfl (Val.fieldAddrZ rfl rfl) ?_ | refine KD.y0 rfl rfl rfl rfl (Val.fieldAddr rfl rfl) ?_)
      (first | refine KD.no rfl rfl rfl rfl rfl ?_ | refine KD.noU rfl rfl rfl rfl rfl ?_ | refine KD.y0 rfl rfl rfl rfl (Val.loadP rfl rfl bySee) ?_)
      (first | refine KD.no rfl rfl rfl rfl rfl ?_ | refine KD.noU rfl rfl rfl rfl rfl ?_ | refine KD.y0 rfl rfl rfl rfl (Val.isT (Val.eql rfl rfl) byLt) ?_ | refine KD.y0 rfl rfl rfl rfl (Val.isF (Val.eql rfl rfl) byLt) ?_ | refine KD.y0 rfl rfl rfl rfl (Val.eql rfl rfl) ?_)
      (first | refine KD.v0 rfl rfl (Val.pickT rfl rfl rfl) ?_ | refine KD.v0 rfl rfl (Val.pickF rfl rfl rfl) ?_ | refine KD.v0 rfl rfl (Val.pickB rfl rfl rfl) ?_)
      refine KD.nil ?_
      refine byCode ?_
      (refine KL.e rfl (Eff.buildS byParts rfl rfl rfl rfl rfl byFill) ?_; rintro _ _ ⟨b47, rfl, rfl⟩)
      (refine KL.v rfl (Val.move rfl) ?_)
      (refine KL.v rfl (Val.move rfl) ?_)
      (refine KL.v rfl (Val.sliceH rfl rfl rfl bySli rfl byLt) ?_)
      -- STOP at region 9 op 4: {"h": "Op.call", "a": [{"callee": {"h": "Callee.builtin", "a": ["Builtin.append"]}, "args": [{"h": "Operand.tmp", "a": [47]}, {"h": "Operand.tmp", "a": [50]}], "argTypes": [33, 33]}]}
      (refine KL.e rfl (Eff.appLit (E := iE) (ys := ts.take k) rfl rfl rfl rfl rfl rfl rfl byTake (by first | exact Sli.blk byTake rfl (by first | decide | simp) (by first | decide | (unfold maxLen; omega)) rfl | exact Sli.old (by assumption) | exact Sli.own byTakeL (by assumption) byLen | assumption | exact Sli.part (by assumption) byPart) (by first | assumption | omega | (simp <;> fail) | (simp; omega)) rfl) ?_; rintro _ _ ⟨o', ok', rfl, rfl⟩)
      (refine KL.v rfl (Val.assign rfl) ?_)
      refine KL.nil ?_
      refine byCode ?_
      (refine KL.v rfl (Val.move rfl) ?_)
      (refine KL.v rfl (Val.move rfl) ?_)
      (refine KL.v rfl (Val.move rfl) ?_)
      (first | (refine KL.v rfl (Val.idxSl rfl rfl rfl bySli rfl byLt) ?_) | (refine KL.v rfl (Val.idxSlZ rfl rfl rfl bySli rfl (by omega)) ?_) | (refine KL.v rfl (Val.indexS1 rfl rfl rfl rfl (by omega)) ?_) | (refine KL.v rfl (Val.indexS rfl rfl rfl rfl (by omega)) ?_) | (refine KL.v rfl (Val.indexSO rfl rfl rfl rfl (by omega)) ?_) | (refine KL.v rfl (Val.indexSG rfl rfl rfl rfl (by omega)) ?_))
      (first | (refine KL.v rfl (Val.fieldSl rfl rfl) ?_) | (refine KL.v rfl (Val.fieldAddr0 rfl rfl) ?_) | (refine KL.v rfl (Val.fieldAddrZ rfl rfl) ?_) | (refine KL.v rfl (Val.fieldAddr rfl rfl) ?_))
      (refine KL.v rfl (Val.loadP rfl rfl bySee) ?_)
      (refine KL.e rfl (Eff.buildS byParts rfl rfl rfl rfl rfl byFill) ?_; rintro _ _ ⟨b58, rfl, rfl⟩)
      -- STOP at region 10 op 7: {"h": "Op.call", "a": [{"callee": {"h": "Callee.builtin", "a": ["Builtin.append"]}, "args": [{"h": "Operand.tmp", "a": [52]}, {"h": "Operand.tmp", "a": [58]}], "argTypes": [33, 33]}]}
      (refine KL.e rfl (Eff.appZ (E := iE) (xs := ts.take k) (o := o') (ys := [x.t]) (zs := ts.take k ++ [x.t]) rfl rfl rfl rfl rfl rfl byTakeL (by assumption) (by first | exact Sli.blk byTake rfl (by first | decide | simp) (by first | decide | (unfold maxLen; omega)) rfl | exact Sli.old (by assumption) | exact Sli.own byTakeL (by assumption) byLen | assumption | exact Sli.part (by assumption) byPart) (rfl) (by first | assumption | omega | (simp <;> fail) | (simp; omega)) rfl) ?_; rintro _ _ ⟨o', ok', rfl, rfl⟩)
      (refine KL.v rfl (Val.assign rfl) ?_)
      refine KL.nil ?_
      refine byCode ?_
      (refine KL.v rfl (Val.move rfl) ?_)
      (refine KL.v rfl (Val.move rfl) ?_)
      (refine KL.v rfl (Val.move rfl) ?_)
      (first | (refine KL.v rfl (Val.sliceL rfl rfl rfl bySli rfl byLt) ?_) | (refine KL.v rfl (Val.sliceLZ rfl rfl rfl bySli rfl (by omega)) ?_))
      -- STOP at region 11 op 4: {"h": "Op.call", "a": [{"callee": {"h": "Callee.builtin", "a": ["Builtin.append"]}, "args": [{"h": "Operand.tmp", "a": [60]}, {"h": "Operand.tmp", "a": [63]}], "argTypes": [33, 33]}]}
      (refine KL.e rfl (Eff.appZ (E := iE) (xs := ts.take k ++ [x.t]) (o := o') (ys := ts.drop k) (zs := ts.take k ++ [x.t] ++ ts.drop k) rfl rfl rfl rfl rfl rfl byTakeL (by assumption) (by first | exact Sli.blk byTake rfl (by first | decide | simp) (by first | decide | (unfold maxLen; omega)) rfl | exact Sli.old (by assumption) | exact Sli.own byTakeL (by assumption) byLen | assumption | exact Sli.part (by assumption) byPart) (rfl) (by first | assumption | omega | (simp <;> fail) | (simp; omega)) rfl) ?_; rintro _ _ ⟨o', ok', rfl, rfl⟩)
      (refine KL.v rfl (Val.assign rfl) ?_)
      refine KL.nil ?_
      refine byCode ?_
      (refine KL.v rfl (Val.move rfl) ?_)
      (first | (refine KL.v rfl (Val.add rfl rfl (by simp only [Go.Proofs.Ytdkanfjpdnjhcaa.lo, Go.Proofs.Ytdkanfjpdnjhcaa.hi]; omega)) ?_) | (refine KL.v rfl (Val.addW rfl rfl) ?_))
      (refine KL.v rfl (Val.assign rfl) ?_)
      refine KL.nil ?_
      exact KE.again ⟨i + 1, ts.take k ++ [x.t] ++ ts.drop k, o'⟩ bySub byPart ⟨by show i + 1 ≤ _; omega, hins, hmem2, q3, ok'⟩ (by show l.length - (i + 1) < l.length - i; omega)
  · have : i = l.length := by omega
    subst this
    rw [List.take_length] at hmem
    have he : ts = tenP l := sorted_ext hsort (compact_sorted (sortP_sorted _)) (fun z => by unfold tenP; rw [hmem z, compact_mem, sortP_mem])
    subst he
    refine byCode ?_
    (refine KL.v rfl (Val.move rfl) ?_)
    (refine KL.v rfl (Val.move rfl) ?_)
    (first | (refine KL.v rfl (Val.lenSl rfl rfl bySli) ?_) | (refine KL.v rfl (Val.lenS rfl rfl) ?_))
    (first | (refine KL.v rfl (Val.isT (Val.lss rfl rfl) byLt) ?_) | (refine KL.v rfl (Val.isF (Val.lss rfl rfl) byLt) ?_) | (refine KL.v rfl (Val.lss rfl rfl) ?_))
    refine KL.nil ?_
    refine byCode ?_
    (refine KL.v rfl (Val.move rfl) ?_)
    (refine KL.v rfl (Val.assign rfl) ?_)
    refine KL.nil ?_
    refine byCode ?_
    exact KE.fin byMarks rfl byRes byPart ⟨o, ok, rfl, rfl⟩
end Go.Proofs.Ytdkanfjpdnjhcaa
