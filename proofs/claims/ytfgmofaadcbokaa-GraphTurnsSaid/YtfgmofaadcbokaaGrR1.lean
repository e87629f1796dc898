/- Graph: the document's small functions. -/
import Derived.Test.YtfgmofaadcbokaaGrW3
namespace Go.Proofs.Ytfgmofaadcbokaa
open Go.RowKit
set_option linter.unusedVariables false
set_option linter.unusedSimpArgs false

theorem eq_of_prefix {α : Type} {a b : List α} (hl : a.length = b.length) (h : ∀ j, j < a.length → a[j]? = b[j]?) : a = b := by
  apply List.ext_getElem?
  intro j
  rcases Nat.lt_or_ge j a.length with hj | hj
  · exact h j hj
  · rw [List.getElem?_eq_none hj, List.getElem?_eq_none (by omega)]

set_option maxRecDepth 10000 in
theorem Same_K {w0 : World} {H : Heap} {va vb : Value} {a b : List Int} (hA : SlW w0 iE va a) (hB : SlW w0 iE vb b) :
    Call Try.prog w0 12 [va, vb] H (fun r H' => r = .bool (decide (a = b)) ∧ H' = H) := by
  refine Call.enter (n := 26) [(0, va), (1, vb)] (by kernel_rfl) Try.func12 rfl rfl rfl ⟨rfl, rfl, trivial⟩ ?_
  have la := hA.le
  have lb := hB.le
  unfold maxLen at la lb
  by_cases hab : a.length = b.length
  · refine byCode ?_
    (refine KL.v rfl (Val.assign rfl) ?_)
    refine KL.nil ?_
    refine byCode ?_
    (refine KL.v rfl (Val.move rfl) ?_)
    (first | (refine KL.v rfl (Val.lenSl rfl rfl bySli) ?_) | (refine KL.v rfl (Val.lenS rfl rfl) ?_))
    (refine KL.v rfl (Val.move rfl) ?_)
    (first | (refine KL.v rfl (Val.lenSl rfl rfl bySli) ?_) | (refine KL.v rfl (Val.lenS rfl rfl) ?_))
    (first | (refine KL.v rfl (Val.isT (Val.neq rfl rfl) byLt) ?_) | (refine KL.v rfl (Val.isF (Val.neq rfl rfl) byLt) ?_) | (refine KL.v rfl (Val.neq rfl rfl) ?_))
    refine KL.nil ?_
    refine byCode ?_
    (refine KL.v rfl (Val.assign rfl) ?_)
    refine KL.nil ?_
    refine byBlk ?_
    refine K.loop (σ := Nat) (fun k => [(5, .int .i64 (k : Nat)), (0, va), (1, vb)]) (fun _ => H) (fun k => k ≤ a.length ∧ ∀ j, j < k → a[j]? = b[j]?) (fun k => a.length - k) 0 bySub byPart ⟨by omega, fun j hj => by omega⟩ ?_
    rintro k ⟨hk, hs⟩
    by_cases hlt : k < a.length
    · obtain ⟨x, hx⟩ := get_of_lt hlt
      have hlb : k < b.length := by omega
      obtain ⟨y, hy⟩ := get_of_lt hlb
      refine byCode ?_
      (refine KL.v rfl (Val.move rfl) ?_)
      (refine KL.v rfl (Val.move rfl) ?_)
      (first | (refine KL.v rfl (Val.lenSl rfl rfl bySli) ?_) | (refine KL.v rfl (Val.lenS rfl rfl) ?_))
      (first | (refine KL.v rfl (Val.isT (Val.lss rfl rfl) byLt) ?_) | (refine KL.v rfl (Val.isF (Val.lss rfl rfl) byLt) ?_) | (refine KL.v rfl (Val.lss rfl rfl) ?_))
      refine KL.nil ?_
      refine byCode ?_
      refine K.seq (K.block ?_)
      by_cases hxy : x = y
      · have hxy' : ¬ (x ≠ y) := fun h => h hxy
        refine byCodeD ?_
        (first | refine K.seq (K.drawn _ [(0, 0), (1, 0), (2, 0), (3, 0), (4, 0), (5, 0), (6, 0), (7, 0), (8, 0)] (by kernel_rfl) (by kernel_rfl) (by kernel_rfl) (by kernel_rfl) (by kernel_rfl) (by kernel_rfl) Part.all ?_) | refine K.seq (K.seq (K.drawn _ [(0, 0), (1, 0), (2, 0), (3, 0), (4, 0), (5, 0), (6, 0), (7, 0), (8, 0)] (by kernel_rfl) (by kernel_rfl) (by kernel_rfl) (by kernel_rfl) (by kernel_rfl) (by kernel_rfl) Part.all ?_)) | refine K.drawn _ [(0, 0), (1, 0), (2, 0), (3, 0), (4, 0), (5, 0), (6, 0), (7, 0), (8, 0)] (by kernel_rfl) (by kernel_rfl) (by kernel_rfl) (by kernel_rfl) (by kernel_rfl) (by kernel_rfl) Part.all ?_)
        refine KD.v0 rfl rfl (Val.move rfl) ?_
        refine KD.v0 rfl rfl (Val.move rfl) ?_
        (first | refine KD.v0 rfl rfl (Val.idxSl rfl rfl rfl bySli rfl byLt) ?_ | refine KD.v0 rfl rfl (Val.idxSlZ rfl rfl rfl bySli rfl (by omega)) ?_ | refine KD.v0 rfl rfl (Val.indexS1 rfl rfl rfl rfl (by omega)) ?_ | refine KD.v0 rfl rfl (Val.indexS rfl rfl rfl rfl (by omega)) ?_ | refine KD.v0 rfl rfl (Val.indexSO rfl rfl rfl rfl (by omega)) ?_ | refine KD.v0 rfl rfl (Val.indexSG rfl rfl rfl rfl (by omega)) ?_)
        refine KD.v0 rfl rfl (Val.loadP rfl rfl bySee) ?_
        refine KD.v0 rfl rfl (Val.move rfl) ?_
        refine KD.v0 rfl rfl (Val.move rfl) ?_
        (first | refine KD.v0 rfl rfl (Val.idxSl rfl rfl rfl bySli rfl byLt) ?_ | refine KD.v0 rfl rfl (Val.idxSlZ rfl rfl rfl bySli rfl (by omega)) ?_ | refine KD.v0 rfl rfl (Val.indexS1 rfl rfl rfl rfl (by omega)) ?_ | refine KD.v0 rfl rfl (Val.indexS rfl rfl rfl rfl (by omega)) ?_ | refine KD.v0 rfl rfl (Val.indexSO rfl rfl rfl rfl (by omega)) ?_ | refine KD.v0 rfl rfl (Val.indexSG rfl rfl rfl rfl (by omega)) ?_)
        refine KD.v0 rfl rfl (Val.loadP rfl rfl bySee) ?_
        (first | refine KD.v0 rfl rfl (Val.isT (Val.neq rfl rfl) byLt) ?_ | refine KD.v0 rfl rfl (Val.isF (Val.neq rfl rfl) byLt) ?_ | refine KD.v0 rfl rfl (Val.neq rfl rfl) ?_)
        refine KD.nil ?_
        refine byCode ?_
        (refine KL.v rfl (Val.move rfl) ?_)
        (first | (refine KL.v rfl (Val.add rfl rfl (by simp only [Go.Proofs.Ytfgmofaadcbokaa.lo, Go.Proofs.Ytfgmofaadcbokaa.hi]; omega)) ?_) | (refine KL.v rfl (Val.addW rfl rfl) ?_))
        (refine KL.v rfl (Val.assign rfl) ?_)
        refine KL.nil ?_
        exact KE.again (k + 1) bySub byPart ⟨by omega, fun j hj => by
          rcases Nat.lt_or_ge j k with h | h
          · exact hs j h
          · have : j = k := by omega
            subst this
            rw [hx, hy, hxy]⟩ (by omega)
      · have hne : a ≠ b := by intro h; subst h; rw [hx] at hy; cases hy; exact hxy rfl
        have hxy' : x ≠ y := hxy
        refine byCodeD ?_
        (first | refine K.seq (K.drawn _ [(0, 0), (1, 0), (2, 0), (3, 0), (4, 0), (5, 0), (6, 0), (7, 0), (8, 0)] (by kernel_rfl) (by kernel_rfl) (by kernel_rfl) (by kernel_rfl) (by kernel_rfl) (by kernel_rfl) Part.all ?_) | refine K.seq (K.seq (K.drawn _ [(0, 0), (1, 0), (2, 0), (3, 0), (4, 0), (5, 0), (6, 0), (7, 0), (8, 0)] (by kernel_rfl) (by kernel_rfl) (by kernel_rfl) (by kernel_rfl) (by kernel_rfl) (by kernel_rfl) Part.all ?_)) | refine K.drawn _ [(0, 0), (1, 0), (2, 0), (3, 0), (4, 0), (5, 0), (6, 0), (7, 0), (8, 0)] (by kernel_rfl) (by kernel_rfl) (by kernel_rfl) (by kernel_rfl) (by kernel_rfl) (by kernel_rfl) Part.all ?_)
        refine KD.v0 rfl rfl (Val.move rfl) ?_
        refine KD.v0 rfl rfl (Val.move rfl) ?_
        (first | refine KD.v0 rfl rfl (Val.idxSl rfl rfl rfl bySli rfl byLt) ?_ | refine KD.v0 rfl rfl (Val.idxSlZ rfl rfl rfl bySli rfl (by omega)) ?_ | refine KD.v0 rfl rfl (Val.indexS1 rfl rfl rfl rfl (by omega)) ?_ | refine KD.v0 rfl rfl (Val.indexS rfl rfl rfl rfl (by omega)) ?_ | refine KD.v0 rfl rfl (Val.indexSO rfl rfl rfl rfl (by omega)) ?_ | refine KD.v0 rfl rfl (Val.indexSG rfl rfl rfl rfl (by omega)) ?_)
        refine KD.v0 rfl rfl (Val.loadP rfl rfl bySee) ?_
        refine KD.v0 rfl rfl (Val.move rfl) ?_
        refine KD.v0 rfl rfl (Val.move rfl) ?_
        (first | refine KD.v0 rfl rfl (Val.idxSl rfl rfl rfl bySli rfl byLt) ?_ | refine KD.v0 rfl rfl (Val.idxSlZ rfl rfl rfl bySli rfl (by omega)) ?_ | refine KD.v0 rfl rfl (Val.indexS1 rfl rfl rfl rfl (by omega)) ?_ | refine KD.v0 rfl rfl (Val.indexS rfl rfl rfl rfl (by omega)) ?_ | refine KD.v0 rfl rfl (Val.indexSO rfl rfl rfl rfl (by omega)) ?_ | refine KD.v0 rfl rfl (Val.indexSG rfl rfl rfl rfl (by omega)) ?_)
        refine KD.v0 rfl rfl (Val.loadP rfl rfl bySee) ?_
        (first | refine KD.v0 rfl rfl (Val.isT (Val.neq rfl rfl) byLt) ?_ | refine KD.v0 rfl rfl (Val.isF (Val.neq rfl rfl) byLt) ?_ | refine KD.v0 rfl rfl (Val.neq rfl rfl) ?_)
        refine KD.nil ?_
        refine byCode ?_
        (refine KL.v rfl (Val.assign rfl) ?_)
        refine KL.nil ?_
        refine byCode ?_
        exact KE.fin byMarks rfl byRes byPart ⟨by rw [decide_eq_false hne]; rfl, rfl⟩
    · have he : a = b := eq_of_prefix hab (fun j hj => hs j (by omega))
      refine byCode ?_
      (refine KL.v rfl (Val.move rfl) ?_)
      (refine KL.v rfl (Val.move rfl) ?_)
      (first | (refine KL.v rfl (Val.lenSl rfl rfl bySli) ?_) | (refine KL.v rfl (Val.lenS rfl rfl) ?_))
      (first | (refine KL.v rfl (Val.isT (Val.lss rfl rfl) byLt) ?_) | (refine KL.v rfl (Val.isF (Val.lss rfl rfl) byLt) ?_) | (refine KL.v rfl (Val.lss rfl rfl) ?_))
      refine KL.nil ?_
      refine byCode ?_
      (refine KL.v rfl (Val.assign rfl) ?_)
      refine KL.nil ?_
      refine byCode ?_
      exact KE.fin byMarks rfl byRes byPart ⟨by rw [decide_eq_true he]; rfl, rfl⟩
  · have hne : a ≠ b := by intro h; subst h; exact hab rfl
    refine byCode ?_
    (refine KL.v rfl (Val.assign rfl) ?_)
    refine KL.nil ?_
    refine byCode ?_
    (refine KL.v rfl (Val.move rfl) ?_)
    (first | (refine KL.v rfl (Val.lenSl rfl rfl bySli) ?_) | (refine KL.v rfl (Val.lenS rfl rfl) ?_))
    (refine KL.v rfl (Val.move rfl) ?_)
    (first | (refine KL.v rfl (Val.lenSl rfl rfl bySli) ?_) | (refine KL.v rfl (Val.lenS rfl rfl) ?_))
    (first | (refine KL.v rfl (Val.isT (Val.neq rfl rfl) byLt) ?_) | (refine KL.v rfl (Val.isF (Val.neq rfl rfl) byLt) ?_) | (refine KL.v rfl (Val.neq rfl rfl) ?_))
    refine KL.nil ?_
    refine byCode ?_
    (refine KL.v rfl (Val.assign rfl) ?_)
    refine KL.nil ?_
    refine byCode ?_
    exact KE.fin byMarks rfl byRes byPart ⟨by rw [decide_eq_false hne]; rfl, rfl⟩


set_option maxRecDepth 10000 in
theorem Has_K {w0 : World} {H : Heap} {v : Value} {l : List Int} {x : Int} (hS : Sli w0 H iE v l) (hl : l.length ≤ 100000) :
    Call Try.prog w0 22 [v, .int .i64 x] H (fun r H' => r = .bool (decide (x ∈ l)) ∧ H' = H) := by
  refine Call.enter (n := 18) [(0, v), (1, .int .i64 x)] (by kernel_rfl) Try.func22 rfl rfl rfl ⟨rfl, rfl, trivial⟩ ?_
  refine byCode ?_
  (refine KL.v rfl (Val.assign rfl) ?_)
  refine KL.nil ?_
  refine byCode ?_
  (refine KL.v rfl (Val.assign rfl) ?_)
  refine KL.nil ?_
  refine byBlk ?_
  refine K.loop (σ := Nat) (fun k => [(5, .int .i64 (k : Nat)), (0, v), (1, .int .i64 x)]) (fun _ => H) (fun k => k ≤ l.length ∧ x ∉ l.take k) (fun k => l.length - k) 0 bySub byPart ⟨by omega, by simp⟩ ?_
  rintro k ⟨hk, hn⟩
  by_cases hlt : k < l.length
  · obtain ⟨y, hy⟩ := get_of_lt hlt
    refine byCode ?_
    (refine KL.v rfl (Val.move rfl) ?_)
    (refine KL.v rfl (Val.move rfl) ?_)
    (first | (refine KL.v rfl (Val.lenSl rfl rfl bySli) ?_) | (refine KL.v rfl (Val.lenS rfl rfl) ?_))
    (first | (refine KL.v rfl (Val.isT (Val.lss rfl rfl) byLt) ?_) | (refine KL.v rfl (Val.isF (Val.lss rfl rfl) byLt) ?_) | (refine KL.v rfl (Val.lss rfl rfl) ?_))
    refine KL.nil ?_
    refine byCode ?_
    refine K.seq (K.block ?_)
    by_cases hxy : y = x
    · have hm : x ∈ l := by rw [← hxy]; exact List.mem_of_getElem? hy
      refine byCode ?_
      (refine KL.v rfl (Val.move rfl) ?_)
      (refine KL.v rfl (Val.move rfl) ?_)
      (first | (refine KL.v rfl (Val.idxSl rfl rfl rfl bySli rfl byLt) ?_) | (refine KL.v rfl (Val.idxSlZ rfl rfl rfl bySli rfl (by omega)) ?_) | (refine KL.v rfl (Val.indexS1 rfl rfl rfl rfl (by omega)) ?_) | (refine KL.v rfl (Val.indexS rfl rfl rfl rfl (by omega)) ?_) | (refine KL.v rfl (Val.indexSO rfl rfl rfl rfl (by omega)) ?_) | (refine KL.v rfl (Val.indexSG rfl rfl rfl rfl (by omega)) ?_))
      (refine KL.v rfl (Val.loadP rfl rfl bySee) ?_)
      (refine KL.v rfl (Val.move rfl) ?_)
      (first | (refine KL.v rfl (Val.isT (Val.eql rfl rfl) byLt) ?_) | (refine KL.v rfl (Val.isF (Val.eql rfl rfl) byLt) ?_) | (refine KL.v rfl (Val.eql rfl rfl) ?_))
      refine KL.nil ?_
      refine byCode ?_
      (refine KL.v rfl (Val.assign rfl) ?_)
      refine KL.nil ?_
      refine byCode ?_
      exact KE.fin byMarks rfl byRes byPart ⟨by rw [decide_eq_true hm]; rfl, rfl⟩
    · refine byCode ?_
      (refine KL.v rfl (Val.move rfl) ?_)
      (refine KL.v rfl (Val.move rfl) ?_)
      (first | (refine KL.v rfl (Val.idxSl rfl rfl rfl bySli rfl byLt) ?_) | (refine KL.v rfl (Val.idxSlZ rfl rfl rfl bySli rfl (by omega)) ?_) | (refine KL.v rfl (Val.indexS1 rfl rfl rfl rfl (by omega)) ?_) | (refine KL.v rfl (Val.indexS rfl rfl rfl rfl (by omega)) ?_) | (refine KL.v rfl (Val.indexSO rfl rfl rfl rfl (by omega)) ?_) | (refine KL.v rfl (Val.indexSG rfl rfl rfl rfl (by omega)) ?_))
      (refine KL.v rfl (Val.loadP rfl rfl bySee) ?_)
      (refine KL.v rfl (Val.move rfl) ?_)
      (first | (refine KL.v rfl (Val.isT (Val.eql rfl rfl) byLt) ?_) | (refine KL.v rfl (Val.isF (Val.eql rfl rfl) byLt) ?_) | (refine KL.v rfl (Val.eql rfl rfl) ?_))
      refine KL.nil ?_
      refine byCode ?_
      (refine KL.v rfl (Val.move rfl) ?_)
      (first | (refine KL.v rfl (Val.add rfl rfl (by simp only [Go.Proofs.Ytfgmofaadcbokaa.lo, Go.Proofs.Ytfgmofaadcbokaa.hi]; omega)) ?_) | (refine KL.v rfl (Val.addW rfl rfl) ?_))
      (refine KL.v rfl (Val.assign rfl) ?_)
      refine KL.nil ?_
      exact KE.again (k + 1) bySub byPart ⟨by omega, by rw [take_snoc hy]; simp only [List.mem_append, List.mem_singleton, not_or]; exact ⟨hn, fun e => hxy e.symm⟩⟩ (by omega)
  · have hm : x ∉ l := by rwa [List.take_of_length_le (by omega)] at hn
    refine byCode ?_
    (refine KL.v rfl (Val.move rfl) ?_)
    (refine KL.v rfl (Val.move rfl) ?_)
    (first | (refine KL.v rfl (Val.lenSl rfl rfl bySli) ?_) | (refine KL.v rfl (Val.lenS rfl rfl) ?_))
    (first | (refine KL.v rfl (Val.isT (Val.lss rfl rfl) byLt) ?_) | (refine KL.v rfl (Val.isF (Val.lss rfl rfl) byLt) ?_) | (refine KL.v rfl (Val.lss rfl rfl) ?_))
    refine KL.nil ?_
    refine byCode ?_
    (refine KL.v rfl (Val.assign rfl) ?_)
    refine KL.nil ?_
    refine byCode ?_
    exact KE.fin byMarks rfl byRes byPart ⟨by rw [decide_eq_false hm]; rfl, rfl⟩

def boE : Enc Bool := ⟨fun z => [.bool z], 1, fun _ => rfl, by intro x v hv; simp at hv; subst hv; rfl⟩
set_option maxRecDepth 10000 in
theorem SameBools_K {w0 : World} {H : Heap} {va vb : Value} {a b : List Bool} (hA : SlW w0 boE va a) (hB : SlW w0 boE vb b) :
    Call Try.prog w0 13 [va, vb] H (fun r H' => r = .bool (decide (a = b)) ∧ H' = H) := by
  refine Call.enter (n := 26) [(0, va), (1, vb)] (by kernel_rfl) Try.func13 rfl rfl rfl ⟨rfl, rfl, trivial⟩ ?_
  have la := hA.le
  have lb := hB.le
  unfold maxLen at la lb
  by_cases hab : a.length = b.length
  · refine byCode ?_
    (refine KL.v rfl (Val.assign rfl) ?_)
    refine KL.nil ?_
    refine byCode ?_
    (refine KL.v rfl (Val.move rfl) ?_)
    (first | (refine KL.v rfl (Val.lenSl rfl rfl bySli) ?_) | (refine KL.v rfl (Val.lenS rfl rfl) ?_))
    (refine KL.v rfl (Val.move rfl) ?_)
    (first | (refine KL.v rfl (Val.lenSl rfl rfl bySli) ?_) | (refine KL.v rfl (Val.lenS rfl rfl) ?_))
    (first | (refine KL.v rfl (Val.isT (Val.neq rfl rfl) byLt) ?_) | (refine KL.v rfl (Val.isF (Val.neq rfl rfl) byLt) ?_) | (refine KL.v rfl (Val.neq rfl rfl) ?_))
    refine KL.nil ?_
    refine byCode ?_
    (refine KL.v rfl (Val.assign rfl) ?_)
    refine KL.nil ?_
    refine byBlk ?_
    refine K.loop (σ := Nat) (fun k => [(5, .int .i64 (k : Nat)), (0, va), (1, vb)]) (fun _ => H) (fun k => k ≤ a.length ∧ ∀ j, j < k → a[j]? = b[j]?) (fun k => a.length - k) 0 bySub byPart ⟨by omega, fun j hj => by omega⟩ ?_
    rintro k ⟨hk, hs⟩
    by_cases hlt : k < a.length
    · obtain ⟨x, hx⟩ := get_of_lt hlt
      have hlb : k < b.length := by omega
      obtain ⟨y, hy⟩ := get_of_lt hlb
      refine byCode ?_
      (refine KL.v rfl (Val.move rfl) ?_)
      (refine KL.v rfl (Val.move rfl) ?_)
      (first | (refine KL.v rfl (Val.lenSl rfl rfl bySli) ?_) | (refine KL.v rfl (Val.lenS rfl rfl) ?_))
      (first | (refine KL.v rfl (Val.isT (Val.lss rfl rfl) byLt) ?_) | (refine KL.v rfl (Val.isF (Val.lss rfl rfl) byLt) ?_) | (refine KL.v rfl (Val.lss rfl rfl) ?_))
      refine KL.nil ?_
      refine byCode ?_
      refine K.seq (K.block ?_)
      rcases x with _ | _ <;> rcases y with _ | _
      · skip
        refine byCodeD ?_
        (first | refine K.seq (K.drawn _ [(0, 0), (1, 0), (2, 0), (3, 0), (4, 0), (5, 0), (6, 0), (7, 0), (8, 0)] (by kernel_rfl) (by kernel_rfl) (by kernel_rfl) (by kernel_rfl) (by kernel_rfl) (by kernel_rfl) Part.all ?_) | refine K.seq (K.seq (K.drawn _ [(0, 0), (1, 0), (2, 0), (3, 0), (4, 0), (5, 0), (6, 0), (7, 0), (8, 0)] (by kernel_rfl) (by kernel_rfl) (by kernel_rfl) (by kernel_rfl) (by kernel_rfl) (by kernel_rfl) Part.all ?_)) | refine K.drawn _ [(0, 0), (1, 0), (2, 0), (3, 0), (4, 0), (5, 0), (6, 0), (7, 0), (8, 0)] (by kernel_rfl) (by kernel_rfl) (by kernel_rfl) (by kernel_rfl) (by kernel_rfl) (by kernel_rfl) Part.all ?_)
        refine KD.v0 rfl rfl (Val.move rfl) ?_
        refine KD.v0 rfl rfl (Val.move rfl) ?_
        (first | refine KD.v0 rfl rfl (Val.idxSl rfl rfl rfl bySli rfl byLt) ?_ | refine KD.v0 rfl rfl (Val.idxSlZ rfl rfl rfl bySli rfl (by omega)) ?_ | refine KD.v0 rfl rfl (Val.indexS1 rfl rfl rfl rfl (by omega)) ?_ | refine KD.v0 rfl rfl (Val.indexS rfl rfl rfl rfl (by omega)) ?_ | refine KD.v0 rfl rfl (Val.indexSO rfl rfl rfl rfl (by omega)) ?_ | refine KD.v0 rfl rfl (Val.indexSG rfl rfl rfl rfl (by omega)) ?_)
        refine KD.v0 rfl rfl (Val.loadP rfl rfl bySee) ?_
        refine KD.v0 rfl rfl (Val.move rfl) ?_
        refine KD.v0 rfl rfl (Val.move rfl) ?_
        (first | refine KD.v0 rfl rfl (Val.idxSl rfl rfl rfl bySli rfl byLt) ?_ | refine KD.v0 rfl rfl (Val.idxSlZ rfl rfl rfl bySli rfl (by omega)) ?_ | refine KD.v0 rfl rfl (Val.indexS1 rfl rfl rfl rfl (by omega)) ?_ | refine KD.v0 rfl rfl (Val.indexS rfl rfl rfl rfl (by omega)) ?_ | refine KD.v0 rfl rfl (Val.indexSO rfl rfl rfl rfl (by omega)) ?_ | refine KD.v0 rfl rfl (Val.indexSG rfl rfl rfl rfl (by omega)) ?_)
        refine KD.v0 rfl rfl (Val.loadP rfl rfl bySee) ?_
        refine KD.v0 rfl rfl (Val.neqB rfl rfl rfl) ?_
        refine KD.nil ?_
        refine byCode ?_
        (refine KL.v rfl (Val.move rfl) ?_)
        (first | (refine KL.v rfl (Val.add rfl rfl (by simp only [Go.Proofs.Ytfgmofaadcbokaa.lo, Go.Proofs.Ytfgmofaadcbokaa.hi]; omega)) ?_) | (refine KL.v rfl (Val.addW rfl rfl) ?_))
        (refine KL.v rfl (Val.assign rfl) ?_)
        refine KL.nil ?_
        exact KE.again (k + 1) bySub byPart ⟨by omega, fun j hj => by
          rcases Nat.lt_or_ge j k with h | h
          · exact hs j h
          · have : j = k := by omega
            subst this
            rw [hx, hy]⟩ (by omega)
      · have hne : a ≠ b := by intro h; subst h; rw [hx] at hy; cases hy
        refine byCodeD ?_
        (first | refine K.seq (K.drawn _ [(0, 0), (1, 0), (2, 0), (3, 0), (4, 0), (5, 0), (6, 0), (7, 0), (8, 0)] (by kernel_rfl) (by kernel_rfl) (by kernel_rfl) (by kernel_rfl) (by kernel_rfl) (by kernel_rfl) Part.all ?_) | refine K.seq (K.seq (K.drawn _ [(0, 0), (1, 0), (2, 0), (3, 0), (4, 0), (5, 0), (6, 0), (7, 0), (8, 0)] (by kernel_rfl) (by kernel_rfl) (by kernel_rfl) (by kernel_rfl) (by kernel_rfl) (by kernel_rfl) Part.all ?_)) | refine K.drawn _ [(0, 0), (1, 0), (2, 0), (3, 0), (4, 0), (5, 0), (6, 0), (7, 0), (8, 0)] (by kernel_rfl) (by kernel_rfl) (by kernel_rfl) (by kernel_rfl) (by kernel_rfl) (by kernel_rfl) Part.all ?_)
        refine KD.v0 rfl rfl (Val.move rfl) ?_
        refine KD.v0 rfl rfl (Val.move rfl) ?_
        (first | refine KD.v0 rfl rfl (Val.idxSl rfl rfl rfl bySli rfl byLt) ?_ | refine KD.v0 rfl rfl (Val.idxSlZ rfl rfl rfl bySli rfl (by omega)) ?_ | refine KD.v0 rfl rfl (Val.indexS1 rfl rfl rfl rfl (by omega)) ?_ | refine KD.v0 rfl rfl (Val.indexS rfl rfl rfl rfl (by omega)) ?_ | refine KD.v0 rfl rfl (Val.indexSO rfl rfl rfl rfl (by omega)) ?_ | refine KD.v0 rfl rfl (Val.indexSG rfl rfl rfl rfl (by omega)) ?_)
        refine KD.v0 rfl rfl (Val.loadP rfl rfl bySee) ?_
        refine KD.v0 rfl rfl (Val.move rfl) ?_
        refine KD.v0 rfl rfl (Val.move rfl) ?_
        (first | refine KD.v0 rfl rfl (Val.idxSl rfl rfl rfl bySli rfl byLt) ?_ | refine KD.v0 rfl rfl (Val.idxSlZ rfl rfl rfl bySli rfl (by omega)) ?_ | refine KD.v0 rfl rfl (Val.indexS1 rfl rfl rfl rfl (by omega)) ?_ | refine KD.v0 rfl rfl (Val.indexS rfl rfl rfl rfl (by omega)) ?_ | refine KD.v0 rfl rfl (Val.indexSO rfl rfl rfl rfl (by omega)) ?_ | refine KD.v0 rfl rfl (Val.indexSG rfl rfl rfl rfl (by omega)) ?_)
        refine KD.v0 rfl rfl (Val.loadP rfl rfl bySee) ?_
        refine KD.v0 rfl rfl (Val.neqB rfl rfl rfl) ?_
        refine KD.nil ?_
        refine byCode ?_
        (refine KL.v rfl (Val.assign rfl) ?_)
        refine KL.nil ?_
        refine byCode ?_
        exact KE.fin byMarks rfl byRes byPart ⟨by rw [decide_eq_false hne]; rfl, rfl⟩
      · have hne : a ≠ b := by intro h; subst h; rw [hx] at hy; cases hy
        refine byCodeD ?_
        (first | refine K.seq (K.drawn _ [(0, 0), (1, 0), (2, 0), (3, 0), (4, 0), (5, 0), (6, 0), (7, 0), (8, 0)] (by kernel_rfl) (by kernel_rfl) (by kernel_rfl) (by kernel_rfl) (by kernel_rfl) (by kernel_rfl) Part.all ?_) | refine K.seq (K.seq (K.drawn _ [(0, 0), (1, 0), (2, 0), (3, 0), (4, 0), (5, 0), (6, 0), (7, 0), (8, 0)] (by kernel_rfl) (by kernel_rfl) (by kernel_rfl) (by kernel_rfl) (by kernel_rfl) (by kernel_rfl) Part.all ?_)) | refine K.drawn _ [(0, 0), (1, 0), (2, 0), (3, 0), (4, 0), (5, 0), (6, 0), (7, 0), (8, 0)] (by kernel_rfl) (by kernel_rfl) (by kernel_rfl) (by kernel_rfl) (by kernel_rfl) (by kernel_rfl) Part.all ?_)
        refine KD.v0 rfl rfl (Val.move rfl) ?_
        refine KD.v0 rfl rfl (Val.move rfl) ?_
        (first | refine KD.v0 rfl rfl (Val.idxSl rfl rfl rfl bySli rfl byLt) ?_ | refine KD.v0 rfl rfl (Val.idxSlZ rfl rfl rfl bySli rfl (by omega)) ?_ | refine KD.v0 rfl rfl (Val.indexS1 rfl rfl rfl rfl (by omega)) ?_ | refine KD.v0 rfl rfl (Val.indexS rfl rfl rfl rfl (by omega)) ?_ | refine KD.v0 rfl rfl (Val.indexSO rfl rfl rfl rfl (by omega)) ?_ | refine KD.v0 rfl rfl (Val.indexSG rfl rfl rfl rfl (by omega)) ?_)
        refine KD.v0 rfl rfl (Val.loadP rfl rfl bySee) ?_
        refine KD.v0 rfl rfl (Val.move rfl) ?_
        refine KD.v0 rfl rfl (Val.move rfl) ?_
        (first | refine KD.v0 rfl rfl (Val.idxSl rfl rfl rfl bySli rfl byLt) ?_ | refine KD.v0 rfl rfl (Val.idxSlZ rfl rfl rfl bySli rfl (by omega)) ?_ | refine KD.v0 rfl rfl (Val.indexS1 rfl rfl rfl rfl (by omega)) ?_ | refine KD.v0 rfl rfl (Val.indexS rfl rfl rfl rfl (by omega)) ?_ | refine KD.v0 rfl rfl (Val.indexSO rfl rfl rfl rfl (by omega)) ?_ | refine KD.v0 rfl rfl (Val.indexSG rfl rfl rfl rfl (by omega)) ?_)
        refine KD.v0 rfl rfl (Val.loadP rfl rfl bySee) ?_
        refine KD.v0 rfl rfl (Val.neqB rfl rfl rfl) ?_
        refine KD.nil ?_
        refine byCode ?_
        (refine KL.v rfl (Val.assign rfl) ?_)
        refine KL.nil ?_
        refine byCode ?_
        exact KE.fin byMarks rfl byRes byPart ⟨by rw [decide_eq_false hne]; rfl, rfl⟩
      · skip
        refine byCodeD ?_
        (first | refine K.seq (K.drawn _ [(0, 0), (1, 0), (2, 0), (3, 0), (4, 0), (5, 0), (6, 0), (7, 0), (8, 0)] (by kernel_rfl) (by kernel_rfl) (by kernel_rfl) (by kernel_rfl) (by kernel_rfl) (by kernel_rfl) Part.all ?_) | refine K.seq (K.seq (K.drawn _ [(0, 0), (1, 0), (2, 0), (3, 0), (4, 0), (5, 0), (6, 0), (7, 0), (8, 0)] (by kernel_rfl) (by kernel_rfl) (by kernel_rfl) (by kernel_rfl) (by kernel_rfl) (by kernel_rfl) Part.all ?_)) | refine K.drawn _ [(0, 0), (1, 0), (2, 0), (3, 0), (4, 0), (5, 0), (6, 0), (7, 0), (8, 0)] (by kernel_rfl) (by kernel_rfl) (by kernel_rfl) (by kernel_rfl) (by kernel_rfl) (by kernel_rfl) Part.all ?_)
        refine KD.v0 rfl rfl (Val.move rfl) ?_
        refine KD.v0 rfl rfl (Val.move rfl) ?_
        (first | refine KD.v0 rfl rfl (Val.idxSl rfl rfl rfl bySli rfl byLt) ?_ | refine KD.v0 rfl rfl (Val.idxSlZ rfl rfl rfl bySli rfl (by omega)) ?_ | refine KD.v0 rfl rfl (Val.indexS1 rfl rfl rfl rfl (by omega)) ?_ | refine KD.v0 rfl rfl (Val.indexS rfl rfl rfl rfl (by omega)) ?_ | refine KD.v0 rfl rfl (Val.indexSO rfl rfl rfl rfl (by omega)) ?_ | refine KD.v0 rfl rfl (Val.indexSG rfl rfl rfl rfl (by omega)) ?_)
        refine KD.v0 rfl rfl (Val.loadP rfl rfl bySee) ?_
        refine KD.v0 rfl rfl (Val.move rfl) ?_
        refine KD.v0 rfl rfl (Val.move rfl) ?_
        (first | refine KD.v0 rfl rfl (Val.idxSl rfl rfl rfl bySli rfl byLt) ?_ | refine KD.v0 rfl rfl (Val.idxSlZ rfl rfl rfl bySli rfl (by omega)) ?_ | refine KD.v0 rfl rfl (Val.indexS1 rfl rfl rfl rfl (by omega)) ?_ | refine KD.v0 rfl rfl (Val.indexS rfl rfl rfl rfl (by omega)) ?_ | refine KD.v0 rfl rfl (Val.indexSO rfl rfl rfl rfl (by omega)) ?_ | refine KD.v0 rfl rfl (Val.indexSG rfl rfl rfl rfl (by omega)) ?_)
        refine KD.v0 rfl rfl (Val.loadP rfl rfl bySee) ?_
        refine KD.v0 rfl rfl (Val.neqB rfl rfl rfl) ?_
        refine KD.nil ?_
        refine byCode ?_
        (refine KL.v rfl (Val.move rfl) ?_)
        (first | (refine KL.v rfl (Val.add rfl rfl (by simp only [Go.Proofs.Ytfgmofaadcbokaa.lo, Go.Proofs.Ytfgmofaadcbokaa.hi]; omega)) ?_) | (refine KL.v rfl (Val.addW rfl rfl) ?_))
        (refine KL.v rfl (Val.assign rfl) ?_)
        refine KL.nil ?_
        exact KE.again (k + 1) bySub byPart ⟨by omega, fun j hj => by
          rcases Nat.lt_or_ge j k with h | h
          · exact hs j h
          · have : j = k := by omega
            subst this
            rw [hx, hy]⟩ (by omega)
    · have he : a = b := eq_of_prefix hab (fun j hj => hs j (by omega))
      refine byCode ?_
      (refine KL.v rfl (Val.move rfl) ?_)
      (refine KL.v rfl (Val.move rfl) ?_)
      (first | (refine KL.v rfl (Val.lenSl rfl rfl bySli) ?_) | (refine KL.v rfl (Val.lenS rfl rfl) ?_))
      (first | (refine KL.v rfl (Val.isT (Val.lss rfl rfl) byLt) ?_) | (refine KL.v rfl (Val.isF (Val.lss rfl rfl) byLt) ?_) | (refine KL.v rfl (Val.lss rfl rfl) ?_))
      refine KL.nil ?_
      refine byCode ?_
      (refine KL.v rfl (Val.assign rfl) ?_)
      refine KL.nil ?_
      refine byCode ?_
      exact KE.fin byMarks rfl byRes byPart ⟨by rw [decide_eq_true he]; rfl, rfl⟩
  · have hne : a ≠ b := by intro h; subst h; exact hab rfl
    refine byCode ?_
    (refine KL.v rfl (Val.assign rfl) ?_)
    refine KL.nil ?_
    refine byCode ?_
    (refine KL.v rfl (Val.move rfl) ?_)
    (first | (refine KL.v rfl (Val.lenSl rfl rfl bySli) ?_) | (refine KL.v rfl (Val.lenS rfl rfl) ?_))
    (refine KL.v rfl (Val.move rfl) ?_)
    (first | (refine KL.v rfl (Val.lenSl rfl rfl bySli) ?_) | (refine KL.v rfl (Val.lenS rfl rfl) ?_))
    (first | (refine KL.v rfl (Val.isT (Val.neq rfl rfl) byLt) ?_) | (refine KL.v rfl (Val.isF (Val.neq rfl rfl) byLt) ?_) | (refine KL.v rfl (Val.neq rfl rfl) ?_))
    refine KL.nil ?_
    refine byCode ?_
    (refine KL.v rfl (Val.assign rfl) ?_)
    refine KL.nil ?_
    refine byCode ?_
    exact KE.fin byMarks rfl byRes byPart ⟨by rw [decide_eq_false hne]; rfl, rfl⟩
end Go.Proofs.Ytfgmofaadcbokaa
