/- TraceDiffs: the plain law, the walk, and out of what came in. -/
import Derived.Test.YtdkanfjpdnjhcaaTrL2
namespace Go.Proofs.Ytdkanfjpdnjhcaa
open Go.RowKit Go.ChangeShapes Go.WideShapes Go.ChangeAt Go.Joins
set_option linter.unusedVariables false
set_option linter.unusedSimpArgs false

theorem diffP_spec : ∀ {a b : List Seen} {i : Nat}, diffP a b = some i → i ≤ a.length ∧ i ≤ b.length ∧ a.take i = b.take i ∧ a[i]? ≠ b[i]?
  | [], [], i, h => by simp [diffP] at h
  | [], y :: b, i, h => by simp [diffP] at h; subst h; simp
  | x :: a, [], i, h => by simp [diffP] at h; subst h; simp
  | x :: a, y :: b, i, h => by
    simp only [diffP] at h
    split at h
    · rename_i e
      subst e
      cases hd : diffP a b with
      | none => rw [hd] at h; simp at h
      | some j =>
        rw [hd] at h
        simp at h
        subst h
        obtain ⟨h1, h2, h3, h4⟩ := diffP_spec hd
        exact ⟨by simp; omega, by simp; omega, by simp [h3], by simpa using h4⟩
    · rename_i e
      simp at h
      subst h
      exact ⟨by simp, by simp, rfl, by simpa using e⟩
theorem diffP_comm {a b : List Seen} {i : Nat} (h : diffP a b = some i) : diffP b a = some i := by
  obtain ⟨h1, h2, h3, h4⟩ := diffP_spec h
  refine diffP_some (fun j hj => ?_) (fun e => h4 e.symm)
  obtain ⟨x, hx⟩ := get_of_lt (show j < b.length by omega)
  refine ⟨x, hx, ?_⟩
  have e1 : (a.take i)[j]? = a[j]? := by rw [List.getElem?_take, if_pos hj]
  have e2 : (b.take i)[j]? = b[j]? := by rw [List.getElem?_take, if_pos hj]
  rw [← e1, h3, e2, hx]
theorem putB_inj {a b : List Seen} (ha : ∀ x ∈ a, x.ok) (hb : ∀ x ∈ b, x.ok) (h : putB a = putB b) : a = b := by
  have h1 := get_put ha
  rw [h, get_put hb] at h1
  exact (Option.some.inj h1).symm

theorem Diff_Kn {w0 : World} {H : Heap} {va vb : Value} {a b : List Seen} (hA : SlW w0 sE va a) (hB : SlW w0 sE vb b) (h : diffP a b = none) :
    Call Try.prog w0 18 [va, vb] H (fun r H' => r = .tuple #[.int .i64 0, .bool false] ∧ H' = H) := by
  have := Diff_K (H := H) hA hB
  unfold diffV at this; rw [h] at this; exact this
theorem Diff_Ks {w0 : World} {H : Heap} {va vb : Value} {a b : List Seen} {i : Nat} (hA : SlW w0 sE va a) (hB : SlW w0 sE vb b) (h : diffP a b = some i) :
    Call Try.prog w0 18 [va, vb] H (fun r H' => r = .tuple #[.int .i64 (i : Nat), .bool true] ∧ H' = H) := by
  have := Diff_K (H := H) hA hB
  unfold diffV at this; rw [h] at this; exact this
theorem rDiff_Kn {w0 : World} {H : Heap} {va vb : Value} {a b : List Seen} (hA : SlW w0 sE va a) (hB : SlW w0 sE vb b) (h : diffP a b = none) :
    Call Try.prog w0 19 [va, vb] H (fun r H' => r = .tuple #[.int .i64 0, .bool false] ∧ H' = H) := by
  have := rDiff_K (H := H) hA hB
  unfold diffV at this; rw [h] at this; exact this
theorem rDiff_Ks {w0 : World} {H : Heap} {va vb : Value} {a b : List Seen} {i : Nat} (hA : SlW w0 sE va a) (hB : SlW w0 sE vb b) (h : diffP a b = some i) :
    Call Try.prog w0 19 [va, vb] H (fun r H' => r = .tuple #[.int .i64 (i : Nat), .bool true] ∧ H' = H) := by
  have := rDiff_K (H := H) hA hB
  unfold diffV at this; rw [h] at this; exact this

set_option maxRecDepth 10000 in
set_option maxHeartbeats 1000000 in
theorem traceDiffs_K {w0 : World} {va vb : Value} {a b : List Seen} (hA : SlW w0 sE va a) (hB : SlW w0 sE vb b) (oka : ∀ x ∈ a, x.ok) (okb : ∀ x ∈ b, x.ok) :
    Call Try.prog w0 5 [va, vb] [] (fun r H' => r = .bool true ∧ H' = []) := by
  refine Call.enter (n := 142) [(0, va), (1, vb)] (by kernel_rfl) Try.func5 rfl rfl rfl ⟨rfl, rfl, trivial⟩ ?_
  by_cases h1 : (200 : Int) < (a.length : Nat)
  · refine byCode ?_
    (refine KL.v rfl (Val.assign rfl) ?_)
    refine KL.nil ?_
    refine byCode ?_
    (refine KL.v rfl (Val.move rfl) ?_)
    (first | (refine KL.v rfl (Val.lenSl rfl rfl bySli) ?_) | (refine KL.v rfl (Val.lenS rfl rfl) ?_))
    (first | (refine KL.v rfl (Val.isT (Val.gtr rfl rfl) byLt) ?_) | (refine KL.v rfl (Val.isF (Val.gtr rfl rfl) byLt) ?_) | (refine KL.v rfl (Val.gtr rfl rfl) ?_))
    (refine KL.v rfl (Val.move rfl) ?_)
    (first | refine KL.skipG rfl rfl rfl ?_ | refine KL.skipU rfl rfl rfl ?_ | (refine KL.yes rfl rfl ?_; refine KL.v rfl (Val.move rfl) ?_))
    (first | refine KL.skipG rfl rfl rfl ?_ | refine KL.skipU rfl rfl rfl ?_ | (refine KL.yes rfl rfl ?_; refine KL.v rfl (Val.lenSl rfl rfl bySli) ?_) | (refine KL.yes rfl rfl ?_; refine KL.v rfl (Val.lenS rfl rfl) ?_))
    (first | refine KL.skipG rfl rfl rfl ?_ | refine KL.skipU rfl rfl rfl ?_ | (refine KL.yes rfl rfl ?_; refine KL.v rfl (Val.isT (Val.gtr rfl rfl) byLt) ?_) | (refine KL.yes rfl rfl ?_; refine KL.v rfl (Val.isF (Val.gtr rfl rfl) byLt) ?_) | (refine KL.yes rfl rfl ?_; refine KL.v rfl (Val.gtr rfl rfl) ?_))
    (first | (refine KL.v rfl (Val.pickT rfl rfl rfl) ?_) | (refine KL.v rfl (Val.pickF rfl rfl rfl) ?_) | (refine KL.v rfl (Val.pickB rfl rfl rfl) ?_))
    refine KL.nil ?_
    refine byCode ?_
    (refine KL.callc rfl rfl byEvL fun T hT => ?_)
    refine (CallV.fn awake_K).mono ?_
    rintro _ _ ⟨rfl, rfl⟩
    refine hT _ _ ?_; clear hT; clear T
    (refine KL.v rfl (Val.assign rfl) ?_)
    refine KL.nil ?_
    refine byCode ?_
    exact KE.fin byMarks rfl byRes byPart ⟨rfl, rfl⟩
  by_cases h2 : (200 : Int) < (b.length : Nat)
  · refine byCode ?_
    (refine KL.v rfl (Val.assign rfl) ?_)
    refine KL.nil ?_
    refine byCode ?_
    (refine KL.v rfl (Val.move rfl) ?_)
    (first | (refine KL.v rfl (Val.lenSl rfl rfl bySli) ?_) | (refine KL.v rfl (Val.lenS rfl rfl) ?_))
    (first | (refine KL.v rfl (Val.isT (Val.gtr rfl rfl) byLt) ?_) | (refine KL.v rfl (Val.isF (Val.gtr rfl rfl) byLt) ?_) | (refine KL.v rfl (Val.gtr rfl rfl) ?_))
    (refine KL.v rfl (Val.move rfl) ?_)
    (first | refine KL.skipG rfl rfl rfl ?_ | refine KL.skipU rfl rfl rfl ?_ | (refine KL.yes rfl rfl ?_; refine KL.v rfl (Val.move rfl) ?_))
    (first | refine KL.skipG rfl rfl rfl ?_ | refine KL.skipU rfl rfl rfl ?_ | (refine KL.yes rfl rfl ?_; refine KL.v rfl (Val.lenSl rfl rfl bySli) ?_) | (refine KL.yes rfl rfl ?_; refine KL.v rfl (Val.lenS rfl rfl) ?_))
    (first | refine KL.skipG rfl rfl rfl ?_ | refine KL.skipU rfl rfl rfl ?_ | (refine KL.yes rfl rfl ?_; refine KL.v rfl (Val.isT (Val.gtr rfl rfl) byLt) ?_) | (refine KL.yes rfl rfl ?_; refine KL.v rfl (Val.isF (Val.gtr rfl rfl) byLt) ?_) | (refine KL.yes rfl rfl ?_; refine KL.v rfl (Val.gtr rfl rfl) ?_))
    (first | (refine KL.v rfl (Val.pickT rfl rfl rfl) ?_) | (refine KL.v rfl (Val.pickF rfl rfl rfl) ?_) | (refine KL.v rfl (Val.pickB rfl rfl rfl) ?_))
    refine KL.nil ?_
    refine byCode ?_
    (refine KL.callc rfl rfl byEvL fun T hT => ?_)
    refine (CallV.fn awake_K).mono ?_
    rintro _ _ ⟨rfl, rfl⟩
    refine hT _ _ ?_; clear hT; clear T
    (refine KL.v rfl (Val.assign rfl) ?_)
    refine KL.nil ?_
    refine byCode ?_
    exact KE.fin byMarks rfl byRes byPart ⟨rfl, rfl⟩
  refine byCode ?_
  (refine KL.v rfl (Val.assign rfl) ?_)
  refine KL.nil ?_
  refine byCode ?_
  (refine KL.v rfl (Val.move rfl) ?_)
  (first | (refine KL.v rfl (Val.lenSl rfl rfl bySli) ?_) | (refine KL.v rfl (Val.lenS rfl rfl) ?_))
  (first | (refine KL.v rfl (Val.isT (Val.gtr rfl rfl) byLt) ?_) | (refine KL.v rfl (Val.isF (Val.gtr rfl rfl) byLt) ?_) | (refine KL.v rfl (Val.gtr rfl rfl) ?_))
  (refine KL.v rfl (Val.move rfl) ?_)
  (first | refine KL.skipG rfl rfl rfl ?_ | refine KL.skipU rfl rfl rfl ?_ | (refine KL.yes rfl rfl ?_; refine KL.v rfl (Val.move rfl) ?_))
  (first | refine KL.skipG rfl rfl rfl ?_ | refine KL.skipU rfl rfl rfl ?_ | (refine KL.yes rfl rfl ?_; refine KL.v rfl (Val.lenSl rfl rfl bySli) ?_) | (refine KL.yes rfl rfl ?_; refine KL.v rfl (Val.lenS rfl rfl) ?_))
  (first | refine KL.skipG rfl rfl rfl ?_ | refine KL.skipU rfl rfl rfl ?_ | (refine KL.yes rfl rfl ?_; refine KL.v rfl (Val.isT (Val.gtr rfl rfl) byLt) ?_) | (refine KL.yes rfl rfl ?_; refine KL.v rfl (Val.isF (Val.gtr rfl rfl) byLt) ?_) | (refine KL.yes rfl rfl ?_; refine KL.v rfl (Val.gtr rfl rfl) ?_))
  (first | (refine KL.v rfl (Val.pickT rfl rfl rfl) ?_) | (refine KL.v rfl (Val.pickF rfl rfl rfl) ?_) | (refine KL.v rfl (Val.pickB rfl rfl rfl) ?_))
  refine KL.nil ?_
  refine byCode ?_
  (refine KL.v rfl (Val.move rfl) ?_)
  (refine KL.v rfl (Val.move rfl) ?_)
  (refine KL.callc rfl rfl byEvL fun T hT => ?_)
  cases hd : diffP a b with
  | none =>
    obtain rfl := diffP_none.1 hd
    refine (CallV.fn (Diff_Kn hA hB hd)).mono ?_
    rintro _ _ ⟨rfl, rfl⟩
    refine hT _ _ ?_; clear hT; clear T
    (refine KL.v rfl (Val.move rfl) ?_)
    (refine KL.v rfl (Val.extract rfl rfl) ?_)
    (refine KL.v rfl (Val.extract rfl rfl) ?_)
    (refine KL.v rfl (Val.assign rfl) ?_)
    (refine KL.v rfl (Val.assign rfl) ?_)
    refine KL.nil ?_
    refine byCode ?_
    (refine KL.v rfl (Val.move rfl) ?_)
    (refine KL.v rfl (Val.move rfl) ?_)
    (refine KL.callc rfl rfl byEvL fun T hT => ?_)
    refine (CallV.fn (Diff_Kn hB hA hd)).mono ?_
    rintro _ _ ⟨rfl, rfl⟩
    refine hT _ _ ?_; clear hT; clear T
    (refine KL.v rfl (Val.move rfl) ?_)
    (refine KL.v rfl (Val.extract rfl rfl) ?_)
    (refine KL.v rfl (Val.extract rfl rfl) ?_)
    (refine KL.v rfl (Val.assign rfl) ?_)
    (refine KL.v rfl (Val.assign rfl) ?_)
    refine KL.nil ?_
    refine byCode ?_
    (refine KL.v rfl (Val.move rfl) ?_)
    (refine KL.v rfl (Val.move rfl) ?_)
    (refine KL.callc rfl rfl byEvL fun T hT => ?_)
    refine (CallV.fn (rDiff_Kn hA hB hd)).mono ?_
    rintro _ _ ⟨rfl, rfl⟩
    refine hT _ _ ?_; clear hT; clear T
    (refine KL.v rfl (Val.move rfl) ?_)
    (refine KL.v rfl (Val.extract rfl rfl) ?_)
    (refine KL.v rfl (Val.extract rfl rfl) ?_)
    (refine KL.v rfl (Val.assign rfl) ?_)
    (refine KL.v rfl (Val.assign rfl) ?_)
    refine KL.nil ?_
    have hne : putB a = putB a := rfl
    refine byCode ?_
    (refine KL.v rfl (Val.move rfl) ?_)
    (refine KL.v rfl (Val.move rfl) ?_)
    (first | (refine KL.v rfl (Val.isT (Val.neq rfl rfl) byLt) ?_) | (refine KL.v rfl (Val.isF (Val.neq rfl rfl) byLt) ?_) | (refine KL.v rfl (Val.neq rfl rfl) ?_))
    (refine KL.v rfl (Val.move rfl) ?_)
    (first | refine KL.skipG rfl rfl rfl ?_ | refine KL.skipU rfl rfl rfl ?_ | (refine KL.yes rfl rfl ?_; refine KL.v rfl (Val.move rfl) ?_))
    (first | refine KL.skipG rfl rfl rfl ?_ | refine KL.skipU rfl rfl rfl ?_ | (refine KL.yes rfl rfl ?_; refine KL.v rfl (Val.move rfl) ?_))
    (first | refine KL.skipG rfl rfl rfl ?_ | refine KL.skipU rfl rfl rfl ?_ | (refine KL.yes rfl rfl ?_; refine KL.v rfl (Val.neqB rfl rfl rfl) ?_))
    (first | (refine KL.v rfl (Val.pickT rfl rfl rfl) ?_) | (refine KL.v rfl (Val.pickF rfl rfl rfl) ?_) | (refine KL.v rfl (Val.pickB rfl rfl rfl) ?_))
    (refine KL.v rfl (Val.move rfl) ?_)
    (first | refine KL.skipG rfl rfl rfl ?_ | refine KL.skipU rfl rfl rfl ?_ | (refine KL.yes rfl rfl ?_; refine KL.v rfl (Val.move rfl) ?_))
    (first | refine KL.skipG rfl rfl rfl ?_ | refine KL.skipU rfl rfl rfl ?_ | (refine KL.yes rfl rfl ?_; refine KL.v rfl (Val.move rfl) ?_))
    (first | refine KL.skipG rfl rfl rfl ?_ | refine KL.skipU rfl rfl rfl ?_ | (refine KL.yes rfl rfl ?_; refine KL.v rfl (Val.isT (Val.neq rfl rfl) byLt) ?_) | (refine KL.yes rfl rfl ?_; refine KL.v rfl (Val.isF (Val.neq rfl rfl) byLt) ?_) | (refine KL.yes rfl rfl ?_; refine KL.v rfl (Val.neq rfl rfl) ?_))
    (first | (refine KL.v rfl (Val.pickT rfl rfl rfl) ?_) | (refine KL.v rfl (Val.pickF rfl rfl rfl) ?_) | (refine KL.v rfl (Val.pickB rfl rfl rfl) ?_))
    (refine KL.v rfl (Val.move rfl) ?_)
    (first | refine KL.skipG rfl rfl rfl ?_ | refine KL.skipU rfl rfl rfl ?_ | (refine KL.yes rfl rfl ?_; refine KL.v rfl (Val.move rfl) ?_))
    (first | refine KL.skipG rfl rfl rfl ?_ | refine KL.skipU rfl rfl rfl ?_ | (refine KL.yes rfl rfl ?_; refine KL.v rfl (Val.move rfl) ?_))
    (first | refine KL.skipG rfl rfl rfl ?_ | refine KL.skipU rfl rfl rfl ?_ | (refine KL.yes rfl rfl ?_; refine KL.v rfl (Val.neqB rfl rfl rfl) ?_))
    (first | (refine KL.v rfl (Val.pickT rfl rfl rfl) ?_) | (refine KL.v rfl (Val.pickF rfl rfl rfl) ?_) | (refine KL.v rfl (Val.pickB rfl rfl rfl) ?_))
    refine KL.nil ?_
    refine byCode ?_
    (refine KL.v rfl (Val.move rfl) ?_)
    (first | (refine KL.v rfl (Val.notT rfl) ?_) | (refine KL.v rfl (Val.notF rfl) ?_) | (refine KL.v rfl (Val.not rfl) ?_) | (refine KL.v rfl (Val.notB rfl) ?_))
    refine KL.nil ?_
    refine byCode ?_
    (refine KL.v rfl (Val.move rfl) ?_)
    (first | (refine KL.v rfl (Val.isT (Val.eql rfl rfl) byLt) ?_) | (refine KL.v rfl (Val.isF (Val.eql rfl rfl) byLt) ?_) | (refine KL.v rfl (Val.eql rfl rfl) ?_))
    (refine KL.v rfl (Val.move rfl) ?_)
    (first | refine KL.skipG rfl rfl rfl ?_ | refine KL.skipU rfl rfl rfl ?_ | (refine KL.yes rfl rfl ?_; refine KL.v rfl (Val.move rfl) ?_))
    (first | refine KL.skipG rfl rfl rfl ?_ | refine KL.skipU rfl rfl rfl ?_ | (refine KL.yes rfl rfl ?_; refine KL.v rfl (Val.lenSl rfl rfl bySli) ?_) | (refine KL.yes rfl rfl ?_; refine KL.v rfl (Val.lenS rfl rfl) ?_))
    (first | refine KL.skipG rfl rfl rfl ?_ | refine KL.skipU rfl rfl rfl ?_ | (refine KL.yes rfl rfl ?_; refine KL.v rfl (Val.move rfl) ?_))
    (first | refine KL.skipG rfl rfl rfl ?_ | refine KL.skipU rfl rfl rfl ?_ | (refine KL.yes rfl rfl ?_; refine KL.v rfl (Val.lenSl rfl rfl bySli) ?_) | (refine KL.yes rfl rfl ?_; refine KL.v rfl (Val.lenS rfl rfl) ?_))
    (first | refine KL.skipG rfl rfl rfl ?_ | refine KL.skipU rfl rfl rfl ?_ | (refine KL.yes rfl rfl ?_; refine KL.v rfl (Val.isT (Val.eql rfl rfl) byLt) ?_) | (refine KL.yes rfl rfl ?_; refine KL.v rfl (Val.isF (Val.eql rfl rfl) byLt) ?_) | (refine KL.yes rfl rfl ?_; refine KL.v rfl (Val.eql rfl rfl) ?_))
    (first | (refine KL.v rfl (Val.pickT rfl rfl rfl) ?_) | (refine KL.v rfl (Val.pickF rfl rfl rfl) ?_) | (refine KL.v rfl (Val.pickB rfl rfl rfl) ?_))
    (refine KL.v rfl (Val.move rfl) ?_)
    (first | refine KL.skipG rfl rfl rfl ?_ | refine KL.skipU rfl rfl rfl ?_ | (refine KL.yes rfl rfl ?_; refine KL.v rfl (Val.move rfl) ?_))
    (refine KL.yes rfl rfl ?_; refine KL.callc rfl rfl byEvL fun T hT => ?_)
    refine (CallV.fn (Put_K hA (by omega) oka)).mono ?_
    rintro _ _ ⟨rfl, rfl⟩
    refine hT _ _ ?_; clear hT; clear T
    (first | refine KL.skipG rfl rfl rfl ?_ | refine KL.skipU rfl rfl rfl ?_ | (refine KL.yes rfl rfl ?_; refine KL.v rfl (Val.move rfl) ?_))
    (refine KL.yes rfl rfl ?_; refine KL.callc rfl rfl byEvL fun T hT => ?_)
    refine (CallV.fn (Put_K hB (by omega) oka)).mono ?_
    rintro _ _ ⟨rfl, rfl⟩
    refine hT _ _ ?_; clear hT; clear T
    (first | refine KL.skipG rfl rfl rfl ?_ | refine KL.skipU rfl rfl rfl ?_ | (refine KL.yes rfl rfl ?_; refine KL.v rfl (Val.isT (Val.eqlBs rfl rfl) byLt) ?_) | (refine KL.yes rfl rfl ?_; refine KL.v rfl (Val.isF (Val.eqlBs rfl rfl) byLt) ?_) | (refine KL.yes rfl rfl ?_; refine KL.v rfl (Val.eqlBs rfl rfl) ?_) | (refine KL.yes rfl rfl ?_; refine KL.v rfl (Val.isT (Val.eqlS rfl rfl) byLt) ?_) | (refine KL.yes rfl rfl ?_; refine KL.v rfl (Val.isF (Val.eqlS rfl rfl) byLt) ?_) | (refine KL.yes rfl rfl ?_; refine KL.v rfl (Val.eqlS rfl rfl) ?_))
    (first | (refine KL.v rfl (Val.pickT rfl rfl rfl) ?_) | (refine KL.v rfl (Val.pickF rfl rfl rfl) ?_) | (refine KL.v rfl (Val.pickB rfl rfl rfl) ?_))
    (refine KL.v rfl (Val.move rfl) ?_)
    (refine KL.yes rfl rfl ?_; refine KL.callc rfl rfl byEvL fun T hT => ?_)
    refine (CallV.fn awake_K).mono ?_
    rintro _ _ ⟨rfl, rfl⟩
    refine hT _ _ ?_; clear hT; clear T
    (first | (refine KL.v rfl (Val.pickT rfl rfl rfl) ?_) | (refine KL.v rfl (Val.pickF rfl rfl rfl) ?_) | (refine KL.v rfl (Val.pickB rfl rfl rfl) ?_))
    (refine KL.v rfl (Val.assign rfl) ?_)
    refine KL.nil ?_
    refine byCode ?_
    exact KE.fin byMarks rfl byRes byPart ⟨rfl, rfl⟩
  | some i =>
    have hdc := diffP_comm hd
    obtain ⟨hia, hib, htk, hnx⟩ := diffP_spec hd
    refine (CallV.fn (Diff_Ks hA hB hd)).mono ?_
    rintro _ _ ⟨rfl, rfl⟩
    refine hT _ _ ?_; clear hT; clear T
    (refine KL.v rfl (Val.move rfl) ?_)
    (refine KL.v rfl (Val.extract rfl rfl) ?_)
    (refine KL.v rfl (Val.extract rfl rfl) ?_)
    (refine KL.v rfl (Val.assign rfl) ?_)
    (refine KL.v rfl (Val.assign rfl) ?_)
    refine KL.nil ?_
    refine byCode ?_
    (refine KL.v rfl (Val.move rfl) ?_)
    (refine KL.v rfl (Val.move rfl) ?_)
    (refine KL.callc rfl rfl byEvL fun T hT => ?_)
    refine (CallV.fn (Diff_Ks hB hA hdc)).mono ?_
    rintro _ _ ⟨rfl, rfl⟩
    refine hT _ _ ?_; clear hT; clear T
    (refine KL.v rfl (Val.move rfl) ?_)
    (refine KL.v rfl (Val.extract rfl rfl) ?_)
    (refine KL.v rfl (Val.extract rfl rfl) ?_)
    (refine KL.v rfl (Val.assign rfl) ?_)
    (refine KL.v rfl (Val.assign rfl) ?_)
    refine KL.nil ?_
    refine byCode ?_
    (refine KL.v rfl (Val.move rfl) ?_)
    (refine KL.v rfl (Val.move rfl) ?_)
    (refine KL.callc rfl rfl byEvL fun T hT => ?_)
    refine (CallV.fn (rDiff_Ks hA hB hd)).mono ?_
    rintro _ _ ⟨rfl, rfl⟩
    refine hT _ _ ?_; clear hT; clear T
    (refine KL.v rfl (Val.move rfl) ?_)
    (refine KL.v rfl (Val.extract rfl rfl) ?_)
    (refine KL.v rfl (Val.extract rfl rfl) ?_)
    (refine KL.v rfl (Val.assign rfl) ?_)
    (refine KL.v rfl (Val.assign rfl) ?_)
    refine KL.nil ?_
    refine byCode ?_
    (refine KL.v rfl (Val.move rfl) ?_)
    (refine KL.v rfl (Val.move rfl) ?_)
    (first | (refine KL.v rfl (Val.isT (Val.neq rfl rfl) byLt) ?_) | (refine KL.v rfl (Val.isF (Val.neq rfl rfl) byLt) ?_) | (refine KL.v rfl (Val.neq rfl rfl) ?_))
    (refine KL.v rfl (Val.move rfl) ?_)
    (first | refine KL.skipG rfl rfl rfl ?_ | refine KL.skipU rfl rfl rfl ?_ | (refine KL.yes rfl rfl ?_; refine KL.v rfl (Val.move rfl) ?_))
    (first | refine KL.skipG rfl rfl rfl ?_ | refine KL.skipU rfl rfl rfl ?_ | (refine KL.yes rfl rfl ?_; refine KL.v rfl (Val.move rfl) ?_))
    (first | refine KL.skipG rfl rfl rfl ?_ | refine KL.skipU rfl rfl rfl ?_ | (refine KL.yes rfl rfl ?_; refine KL.v rfl (Val.neqB rfl rfl rfl) ?_))
    (first | (refine KL.v rfl (Val.pickT rfl rfl rfl) ?_) | (refine KL.v rfl (Val.pickF rfl rfl rfl) ?_) | (refine KL.v rfl (Val.pickB rfl rfl rfl) ?_))
    (refine KL.v rfl (Val.move rfl) ?_)
    (first | refine KL.skipG rfl rfl rfl ?_ | refine KL.skipU rfl rfl rfl ?_ | (refine KL.yes rfl rfl ?_; refine KL.v rfl (Val.move rfl) ?_))
    (first | refine KL.skipG rfl rfl rfl ?_ | refine KL.skipU rfl rfl rfl ?_ | (refine KL.yes rfl rfl ?_; refine KL.v rfl (Val.move rfl) ?_))
    (first | refine KL.skipG rfl rfl rfl ?_ | refine KL.skipU rfl rfl rfl ?_ | (refine KL.yes rfl rfl ?_; refine KL.v rfl (Val.isT (Val.neq rfl rfl) byLt) ?_) | (refine KL.yes rfl rfl ?_; refine KL.v rfl (Val.isF (Val.neq rfl rfl) byLt) ?_) | (refine KL.yes rfl rfl ?_; refine KL.v rfl (Val.neq rfl rfl) ?_))
    (first | (refine KL.v rfl (Val.pickT rfl rfl rfl) ?_) | (refine KL.v rfl (Val.pickF rfl rfl rfl) ?_) | (refine KL.v rfl (Val.pickB rfl rfl rfl) ?_))
    (refine KL.v rfl (Val.move rfl) ?_)
    (first | refine KL.skipG rfl rfl rfl ?_ | refine KL.skipU rfl rfl rfl ?_ | (refine KL.yes rfl rfl ?_; refine KL.v rfl (Val.move rfl) ?_))
    (first | refine KL.skipG rfl rfl rfl ?_ | refine KL.skipU rfl rfl rfl ?_ | (refine KL.yes rfl rfl ?_; refine KL.v rfl (Val.move rfl) ?_))
    (first | refine KL.skipG rfl rfl rfl ?_ | refine KL.skipU rfl rfl rfl ?_ | (refine KL.yes rfl rfl ?_; refine KL.v rfl (Val.neqB rfl rfl rfl) ?_))
    (first | (refine KL.v rfl (Val.pickT rfl rfl rfl) ?_) | (refine KL.v rfl (Val.pickF rfl rfl rfl) ?_) | (refine KL.v rfl (Val.pickB rfl rfl rfl) ?_))
    refine KL.nil ?_
    refine byCode ?_
    (refine KL.v rfl (Val.move rfl) ?_)
    (first | (refine KL.v rfl (Val.notT rfl) ?_) | (refine KL.v rfl (Val.notF rfl) ?_) | (refine KL.v rfl (Val.not rfl) ?_) | (refine KL.v rfl (Val.notB rfl) ?_))
    refine KL.nil ?_
    have hA1 : SlW w0 sE (subV va 0 i sE.sz) (a.take i) := by have := hA.sub (l := 0) (h := i) (by omega) hia; rwa [List.drop_zero] at this
    have hB1 : SlW w0 sE (subV vb 0 i sE.sz) (a.take i) := by have := hB.sub (l := 0) (h := i) (by omega) hib; rwa [List.drop_zero, ← htk] at this
    have oka1 : ∀ x ∈ a.take i, x.ok := fun x hx => oka x (List.mem_of_mem_take hx)
    have hl1 : (a.take i).length ≤ 300 := by rw [List.length_take]; omega
    have hne : ¬ (putB (a.take i) ≠ putB (a.take i)) := fun h => h rfl
    refine byCodeD ?_
    (first | refine K.seq (K.drawn _ [(0, 0), (1, 0), (2, 0), (3, 0), (4, 0), (5, 0), (6, 0), (7, 0), (8, 0), (9, 0), (10, 0), (11, 0), (12, 0), (13, 0), (14, 0), (15, 0), (16, 0), (17, 0), (19, 1), (20, 1), (21, 1), (18, 2), (22, 2), (23, 0), (24, 0)] (by kernel_rfl) (by kernel_rfl) (by kernel_rfl) (by kernel_rfl) (by kernel_rfl) (by kernel_rfl) Part.all ?_) | refine K.seq (K.seq (K.drawn _ [(0, 0), (1, 0), (2, 0), (3, 0), (4, 0), (5, 0), (6, 0), (7, 0), (8, 0), (9, 0), (10, 0), (11, 0), (12, 0), (13, 0), (14, 0), (15, 0), (16, 0), (17, 0), (19, 1), (20, 1), (21, 1), (18, 2), (22, 2), (23, 0), (24, 0)] (by kernel_rfl) (by kernel_rfl) (by kernel_rfl) (by kernel_rfl) (by kernel_rfl) (by kernel_rfl) Part.all ?_)) | refine K.drawn _ [(0, 0), (1, 0), (2, 0), (3, 0), (4, 0), (5, 0), (6, 0), (7, 0), (8, 0), (9, 0), (10, 0), (11, 0), (12, 0), (13, 0), (14, 0), (15, 0), (16, 0), (17, 0), (19, 1), (20, 1), (21, 1), (18, 2), (22, 2), (23, 0), (24, 0)] (by kernel_rfl) (by kernel_rfl) (by kernel_rfl) (by kernel_rfl) (by kernel_rfl) (by kernel_rfl) Part.all ?_)
    refine KD.v0 rfl rfl (Val.move rfl) ?_
    (first | refine KD.v0 rfl rfl (Val.isT (Val.lss rfl rfl) byLt) ?_ | refine KD.v0 rfl rfl (Val.isF (Val.lss rfl rfl) byLt) ?_ | refine KD.v0 rfl rfl (Val.lss rfl rfl) ?_)
    refine KD.v0 rfl rfl (Val.move rfl) ?_
    (first | refine KD.no rfl rfl rfl rfl rfl ?_ | refine KD.noU rfl rfl rfl rfl rfl ?_ | refine KD.y0 rfl rfl rfl rfl (Val.move rfl) ?_)
    (first | refine KD.no rfl rfl rfl rfl rfl ?_ | refine KD.noU rfl rfl rfl rfl rfl ?_ | refine KD.y0 rfl rfl rfl rfl (Val.move rfl) ?_)
    (first | refine KD.no rfl rfl rfl rfl rfl ?_ | refine KD.noU rfl rfl rfl rfl rfl ?_ | refine KD.y0 rfl rfl rfl rfl (Val.lenSl rfl rfl bySli) ?_ | refine KD.y0 rfl rfl rfl rfl (Val.lenS rfl rfl) ?_)
    (first | refine KD.no rfl rfl rfl rfl rfl ?_ | refine KD.noU rfl rfl rfl rfl rfl ?_ | refine KD.y0 rfl rfl rfl rfl (Val.isT (Val.gtr rfl rfl) byLt) ?_ | refine KD.y0 rfl rfl rfl rfl (Val.isF (Val.gtr rfl rfl) byLt) ?_ | refine KD.y0 rfl rfl rfl rfl (Val.gtr rfl rfl) ?_)
    (first | refine KD.v0 rfl rfl (Val.pickT rfl rfl rfl) ?_ | refine KD.v0 rfl rfl (Val.pickF rfl rfl rfl) ?_ | refine KD.v0 rfl rfl (Val.pickB rfl rfl rfl) ?_)
    refine KD.v0 rfl rfl (Val.move rfl) ?_
    (first | refine KD.no rfl rfl rfl rfl rfl ?_ | refine KD.noU rfl rfl rfl rfl rfl ?_ | refine KD.y0 rfl rfl rfl rfl (Val.move rfl) ?_)
    (first | refine KD.no rfl rfl rfl rfl rfl ?_ | refine KD.noU rfl rfl rfl rfl rfl ?_ | refine KD.y0 rfl rfl rfl rfl (Val.move rfl) ?_)
    (first | refine KD.no rfl rfl rfl rfl rfl ?_ | refine KD.noU rfl rfl rfl rfl rfl ?_ | refine KD.y0 rfl rfl rfl rfl (Val.lenSl rfl rfl bySli) ?_ | refine KD.y0 rfl rfl rfl rfl (Val.lenS rfl rfl) ?_)
    (first | refine KD.no rfl rfl rfl rfl rfl ?_ | refine KD.noU rfl rfl rfl rfl rfl ?_ | refine KD.y0 rfl rfl rfl rfl (Val.isT (Val.gtr rfl rfl) byLt) ?_ | refine KD.y0 rfl rfl rfl rfl (Val.isF (Val.gtr rfl rfl) byLt) ?_ | refine KD.y0 rfl rfl rfl rfl (Val.gtr rfl rfl) ?_)
    (first | refine KD.v0 rfl rfl (Val.pickT rfl rfl rfl) ?_ | refine KD.v0 rfl rfl (Val.pickF rfl rfl rfl) ?_ | refine KD.v0 rfl rfl (Val.pickB rfl rfl rfl) ?_)
    refine KD.v0 rfl rfl (Val.move rfl) ?_
    (first | refine KD.no rfl rfl rfl rfl rfl ?_ | refine KD.noU rfl rfl rfl rfl rfl ?_ | refine KD.y0 rfl rfl rfl rfl (Val.move rfl) ?_)
    (first | refine KD.no rfl rfl rfl rfl rfl ?_ | refine KD.noU rfl rfl rfl rfl rfl ?_ | refine KD.y0 rfl rfl rfl rfl (Val.move rfl) ?_)
    (first | refine KD.no rfl rfl rfl rfl rfl ?_ | refine KD.noU rfl rfl rfl rfl rfl ?_ | refine KD.y0 rfl rfl rfl rfl (Val.sliceH rfl rfl rfl bySli rfl byLt) ?_)
    (first | refine KD.no rfl rfl rfl rfl rfl ?_ | refine KD.noU rfl rfl rfl rfl rfl ?_ | refine KD.y1 rfl rfl rfl rfl (Val.move rfl) ?_)
    (first | refine KD.no rfl rfl rfl rfl rfl ?_ | refine KD.noU rfl rfl rfl rfl rfl ?_ | refine KD.y1 rfl rfl rfl rfl (Val.move rfl) ?_)
    (first | refine KD.no rfl rfl rfl rfl rfl ?_ | refine KD.noU rfl rfl rfl rfl rfl ?_ | refine KD.y1 rfl rfl rfl rfl (Val.sliceH rfl rfl rfl bySli rfl byLt) ?_)
    refine KD.callcY rfl rfl rfl rfl rfl byEvL fun T hT => ?_
    refine (CallV.fn (Put_K hA1 hl1 oka1)).mono ?_
    rintro _ _ ⟨rfl, rfl⟩
    refine hT _ _ byPart ?_; clear hT; clear T
    refine KD.callcY rfl rfl rfl rfl rfl byEvL fun T hT => ?_
    refine (CallV.fn (Put_K hB1 hl1 oka1)).mono ?_
    rintro _ _ ⟨rfl, rfl⟩
    refine hT _ _ byPart ?_; clear hT; clear T
    (first | refine KD.no rfl rfl rfl rfl rfl ?_ | refine KD.noU rfl rfl rfl rfl rfl ?_ | refine KD.y0 rfl rfl rfl rfl (Val.isT (Val.neqBs rfl rfl) byLt) ?_ | refine KD.y0 rfl rfl rfl rfl (Val.isF (Val.neqBs rfl rfl) byLt) ?_ | refine KD.y0 rfl rfl rfl rfl (Val.neqBs rfl rfl) ?_ | refine KD.y0 rfl rfl rfl rfl (Val.isT (Val.neqS rfl rfl) byLt) ?_ | refine KD.y0 rfl rfl rfl rfl (Val.isF (Val.neqS rfl rfl) byLt) ?_ | refine KD.y0 rfl rfl rfl rfl (Val.neqS rfl rfl) ?_)
    (first | refine KD.v0 rfl rfl (Val.pickT rfl rfl rfl) ?_ | refine KD.v0 rfl rfl (Val.pickF rfl rfl rfl) ?_ | refine KD.v0 rfl rfl (Val.pickB rfl rfl rfl) ?_)
    refine KD.nil ?_
    clear hne
    by_cases hea : i = a.length
    · have hib' : i < b.length := by
        rcases Nat.lt_or_ge i b.length with h | h
        · exact h
        · exact absurd (by rw [List.getElem?_eq_none (by omega), List.getElem?_eq_none h]) hnx
      refine byCodeD ?_
      (first | refine K.seq (K.drawn _ ((0, 0) :: (1, 0) :: (2, 0) :: (3, 0) :: (4, 0) :: (5, 0) :: (6, 0) :: (7, 0) :: (8, 0) :: (9, 0) :: (10, 0) :: (11, 0) :: (12, 0) :: (13, 0) :: (14, 0) :: (15, 0) :: (17, 1) :: (18, 1) :: (19, 1) :: (20, 1) :: (21, 1) :: (16, 2) :: (22, 2) :: (23, 0) :: (24, 0) :: (25, 0) :: (26, 0) :: (27, 0) :: (28, 0) :: (29, 0) :: (30, 0) :: (31, 0) :: (32, 0) :: (33, 0) :: (34, 0) :: (35, 0) :: (36, 0) :: (37, 0) :: (38, 2) :: (39, 0) :: (40, 0) :: []) (by kernel_rfl) (by kernel_rfl) (by kernel_rfl) (by kernel_rfl) (by kernel_rfl) (by kernel_rfl) Part.all ?_) | refine K.seq (K.seq (K.drawn _ ((0, 0) :: (1, 0) :: (2, 0) :: (3, 0) :: (4, 0) :: (5, 0) :: (6, 0) :: (7, 0) :: (8, 0) :: (9, 0) :: (10, 0) :: (11, 0) :: (12, 0) :: (13, 0) :: (14, 0) :: (15, 0) :: (17, 1) :: (18, 1) :: (19, 1) :: (20, 1) :: (21, 1) :: (16, 2) :: (22, 2) :: (23, 0) :: (24, 0) :: (25, 0) :: (26, 0) :: (27, 0) :: (28, 0) :: (29, 0) :: (30, 0) :: (31, 0) :: (32, 0) :: (33, 0) :: (34, 0) :: (35, 0) :: (36, 0) :: (37, 0) :: (38, 2) :: (39, 0) :: (40, 0) :: []) (by kernel_rfl) (by kernel_rfl) (by kernel_rfl) (by kernel_rfl) (by kernel_rfl) (by kernel_rfl) Part.all ?_)) | refine K.drawn _ ((0, 0) :: (1, 0) :: (2, 0) :: (3, 0) :: (4, 0) :: (5, 0) :: (6, 0) :: (7, 0) :: (8, 0) :: (9, 0) :: (10, 0) :: (11, 0) :: (12, 0) :: (13, 0) :: (14, 0) :: (15, 0) :: (17, 1) :: (18, 1) :: (19, 1) :: (20, 1) :: (21, 1) :: (16, 2) :: (22, 2) :: (23, 0) :: (24, 0) :: (25, 0) :: (26, 0) :: (27, 0) :: (28, 0) :: (29, 0) :: (30, 0) :: (31, 0) :: (32, 0) :: (33, 0) :: (34, 0) :: (35, 0) :: (36, 0) :: (37, 0) :: (38, 2) :: (39, 0) :: (40, 0) :: []) (by kernel_rfl) (by kernel_rfl) (by kernel_rfl) (by kernel_rfl) (by kernel_rfl) (by kernel_rfl) Part.all ?_)
      refine KD.v0 rfl rfl (Val.move rfl) ?_
      refine KD.v0 rfl rfl (Val.move rfl) ?_
      (first | refine KD.v0 rfl rfl (Val.lenSl rfl rfl bySli) ?_ | refine KD.v0 rfl rfl (Val.lenS rfl rfl) ?_)
      (first | refine KD.v0 rfl rfl (Val.isT (Val.eql rfl rfl) byLt) ?_ | refine KD.v0 rfl rfl (Val.isF (Val.eql rfl rfl) byLt) ?_ | refine KD.v0 rfl rfl (Val.eql rfl rfl) ?_)
      refine KD.v0 rfl rfl (Val.move rfl) ?_
      (first | refine KD.no rfl rfl rfl rfl rfl ?_ | refine KD.noU rfl rfl rfl rfl rfl ?_ | refine KD.y0 rfl rfl rfl rfl (Val.move rfl) ?_)
      (first | refine KD.no rfl rfl rfl rfl rfl ?_ | refine KD.noU rfl rfl rfl rfl rfl ?_ | refine KD.y0 rfl rfl rfl rfl (Val.move rfl) ?_)
      (first | refine KD.no rfl rfl rfl rfl rfl ?_ | refine KD.noU rfl rfl rfl rfl rfl ?_ | refine KD.y0 rfl rfl rfl rfl (Val.lenSl rfl rfl bySli) ?_ | refine KD.y0 rfl rfl rfl rfl (Val.lenS rfl rfl) ?_)
      (first | refine KD.no rfl rfl rfl rfl rfl ?_ | refine KD.noU rfl rfl rfl rfl rfl ?_ | refine KD.y0 rfl rfl rfl rfl (Val.isT (Val.eql rfl rfl) byLt) ?_ | refine KD.y0 rfl rfl rfl rfl (Val.isF (Val.eql rfl rfl) byLt) ?_ | refine KD.y0 rfl rfl rfl rfl (Val.eql rfl rfl) ?_)
      (first | refine KD.v0 rfl rfl (Val.pickT rfl rfl rfl) ?_ | refine KD.v0 rfl rfl (Val.pickF rfl rfl rfl) ?_ | refine KD.v0 rfl rfl (Val.pickB rfl rfl rfl) ?_)
      refine KD.v0 rfl rfl (Val.move rfl) ?_
      (first | refine KD.no rfl rfl rfl rfl rfl ?_ | refine KD.noU rfl rfl rfl rfl rfl ?_ | refine KD.y0 rfl rfl rfl rfl (Val.move rfl) ?_)
      (first | refine KD.no rfl rfl rfl rfl rfl ?_ | refine KD.noU rfl rfl rfl rfl rfl ?_ | refine KD.y0 rfl rfl rfl rfl (Val.move rfl) ?_)
      (first | refine KD.no rfl rfl rfl rfl rfl ?_ | refine KD.noU rfl rfl rfl rfl rfl ?_ | refine KD.y0 rfl rfl rfl rfl (Val.move rfl) ?_)
      (first | refine KD.no rfl rfl rfl rfl rfl ?_ | refine KD.noU rfl rfl rfl rfl rfl ?_ | refine KD.y0 rfl rfl rfl rfl (Val.add rfl rfl (by simp only [Go.Proofs.Ytdkanfjpdnjhcaa.lo, Go.Proofs.Ytdkanfjpdnjhcaa.hi]; omega)) ?_ | refine KD.y0 rfl rfl rfl rfl (Val.addW rfl rfl) ?_)
      (first | refine KD.no rfl rfl rfl rfl rfl ?_ | refine KD.noU rfl rfl rfl rfl rfl ?_ | refine KD.y0 rfl rfl rfl rfl (Val.sliceLH rfl rfl rfl rfl bySli rfl byLt byLt) ?_)
      (first | refine KD.no rfl rfl rfl rfl rfl ?_ | refine KD.noU rfl rfl rfl rfl rfl ?_ | refine KD.y1 rfl rfl rfl rfl (Val.move rfl) ?_)
      (first | refine KD.no rfl rfl rfl rfl rfl ?_ | refine KD.noU rfl rfl rfl rfl rfl ?_ | refine KD.y1 rfl rfl rfl rfl (Val.move rfl) ?_)
      (first | refine KD.no rfl rfl rfl rfl rfl ?_ | refine KD.noU rfl rfl rfl rfl rfl ?_ | refine KD.y1 rfl rfl rfl rfl (Val.move rfl) ?_)
      (first | refine KD.no rfl rfl rfl rfl rfl ?_ | refine KD.noU rfl rfl rfl rfl rfl ?_ | refine KD.y1 rfl rfl rfl rfl (Val.add rfl rfl (by simp only [Go.Proofs.Ytdkanfjpdnjhcaa.lo, Go.Proofs.Ytdkanfjpdnjhcaa.hi]; omega)) ?_ | refine KD.y1 rfl rfl rfl rfl (Val.addW rfl rfl) ?_)
      (first | refine KD.no rfl rfl rfl rfl rfl ?_ | refine KD.noU rfl rfl rfl rfl rfl ?_ | refine KD.y1 rfl rfl rfl rfl (Val.sliceLH rfl rfl rfl rfl bySli rfl byLt byLt) ?_)
      (first | refine KD.noA rfl rfl rfl rfl ?_ | refine KD.noUA rfl rfl rfl rfl ?_)
      (first | refine KD.noA rfl rfl rfl rfl ?_ | refine KD.noUA rfl rfl rfl rfl ?_)
      (first | refine KD.no rfl rfl rfl rfl rfl ?_ | refine KD.noU rfl rfl rfl rfl rfl ?_ | refine KD.y0 rfl rfl rfl rfl (Val.isT (Val.neqBs rfl rfl) byLt) ?_ | refine KD.y0 rfl rfl rfl rfl (Val.isF (Val.neqBs rfl rfl) byLt) ?_ | refine KD.y0 rfl rfl rfl rfl (Val.neqBs rfl rfl) ?_ | refine KD.y0 rfl rfl rfl rfl (Val.isT (Val.neqS rfl rfl) byLt) ?_ | refine KD.y0 rfl rfl rfl rfl (Val.isF (Val.neqS rfl rfl) byLt) ?_ | refine KD.y0 rfl rfl rfl rfl (Val.neqS rfl rfl) ?_)
      (first | refine KD.v0 rfl rfl (Val.pickT rfl rfl rfl) ?_ | refine KD.v0 rfl rfl (Val.pickF rfl rfl rfl) ?_ | refine KD.v0 rfl rfl (Val.pickB rfl rfl rfl) ?_)
      refine KD.v0 rfl rfl (Val.move rfl) ?_
      (first | refine KD.no rfl rfl rfl rfl rfl ?_ | refine KD.noU rfl rfl rfl rfl rfl ?_ | refine KD.y0 rfl rfl rfl rfl (Val.move rfl) ?_)
      (first | refine KD.no rfl rfl rfl rfl rfl ?_ | refine KD.noU rfl rfl rfl rfl rfl ?_ | refine KD.y0 rfl rfl rfl rfl (Val.move rfl) ?_)
      (first | refine KD.no rfl rfl rfl rfl rfl ?_ | refine KD.noU rfl rfl rfl rfl rfl ?_ | refine KD.y0 rfl rfl rfl rfl (Val.lenSl rfl rfl bySli) ?_ | refine KD.y0 rfl rfl rfl rfl (Val.lenS rfl rfl) ?_)
      (first | refine KD.no rfl rfl rfl rfl rfl ?_ | refine KD.noU rfl rfl rfl rfl rfl ?_ | refine KD.y0 rfl rfl rfl rfl (Val.isT (Val.lss rfl rfl) byLt) ?_ | refine KD.y0 rfl rfl rfl rfl (Val.isF (Val.lss rfl rfl) byLt) ?_ | refine KD.y0 rfl rfl rfl rfl (Val.lss rfl rfl) ?_)
      (first | refine KD.no rfl rfl rfl rfl rfl ?_ | refine KD.noU rfl rfl rfl rfl rfl ?_ | refine KD.y0 rfl rfl rfl rfl (Val.move rfl) ?_)
      (first | refine KD.no rfl rfl rfl rfl rfl ?_ | refine KD.noU rfl rfl rfl rfl rfl ?_ | refine KD.y0 rfl rfl rfl rfl (Val.move rfl) ?_)
      (first | refine KD.no rfl rfl rfl rfl rfl ?_ | refine KD.noU rfl rfl rfl rfl rfl ?_ | refine KD.y0 rfl rfl rfl rfl (Val.move rfl) ?_)
      (first | refine KD.no rfl rfl rfl rfl rfl ?_ | refine KD.noU rfl rfl rfl rfl rfl ?_ | refine KD.y0 rfl rfl rfl rfl (Val.lenSl rfl rfl bySli) ?_ | refine KD.y0 rfl rfl rfl rfl (Val.lenS rfl rfl) ?_)
      (first | refine KD.no rfl rfl rfl rfl rfl ?_ | refine KD.noU rfl rfl rfl rfl rfl ?_ | refine KD.y0 rfl rfl rfl rfl (Val.isT (Val.lss rfl rfl) byLt) ?_ | refine KD.y0 rfl rfl rfl rfl (Val.isF (Val.lss rfl rfl) byLt) ?_ | refine KD.y0 rfl rfl rfl rfl (Val.lss rfl rfl) ?_)
      (first | refine KD.no rfl rfl rfl rfl rfl ?_ | refine KD.noU rfl rfl rfl rfl rfl ?_ | refine KD.y0 rfl rfl rfl rfl (Val.pickT rfl rfl rfl) ?_ | refine KD.y0 rfl rfl rfl rfl (Val.pickF rfl rfl rfl) ?_ | refine KD.y0 rfl rfl rfl rfl (Val.pickB rfl rfl rfl) ?_)
      (first | refine KD.v0 rfl rfl (Val.pickT rfl rfl rfl) ?_ | refine KD.v0 rfl rfl (Val.pickF rfl rfl rfl) ?_ | refine KD.v0 rfl rfl (Val.pickB rfl rfl rfl) ?_)
      refine KD.v0 rfl rfl (Val.move rfl) ?_
      refine KD.callcY rfl rfl rfl rfl rfl byEvL fun T hT => ?_
      refine (CallV.fn awake_K).mono ?_
      rintro _ _ ⟨rfl, rfl⟩
      refine hT _ _ byPart ?_; clear hT; clear T
      (first | refine KD.v0 rfl rfl (Val.pickT rfl rfl rfl) ?_ | refine KD.v0 rfl rfl (Val.pickF rfl rfl rfl) ?_ | refine KD.v0 rfl rfl (Val.pickB rfl rfl rfl) ?_)
      refine KD.v0 rfl rfl (Val.assign rfl) ?_
      refine KD.nil ?_
      refine byCode ?_
      exact KE.fin byMarks rfl byRes byPart ⟨rfl, rfl⟩
    by_cases heb : i = b.length
    · refine byCodeD ?_
      (first | refine K.seq (K.drawn _ ((0, 0) :: (1, 0) :: (2, 0) :: (3, 0) :: (4, 0) :: (5, 0) :: (6, 0) :: (7, 0) :: (8, 0) :: (9, 0) :: (10, 0) :: (11, 0) :: (12, 0) :: (13, 0) :: (14, 0) :: (15, 0) :: (17, 1) :: (18, 1) :: (19, 1) :: (20, 1) :: (21, 1) :: (16, 2) :: (22, 2) :: (23, 0) :: (24, 0) :: (25, 0) :: (26, 0) :: (27, 0) :: (28, 0) :: (29, 0) :: (30, 0) :: (31, 0) :: (32, 0) :: (33, 0) :: (34, 0) :: (35, 0) :: (36, 0) :: (37, 0) :: (38, 2) :: (39, 0) :: (40, 0) :: []) (by kernel_rfl) (by kernel_rfl) (by kernel_rfl) (by kernel_rfl) (by kernel_rfl) (by kernel_rfl) Part.all ?_) | refine K.seq (K.seq (K.drawn _ ((0, 0) :: (1, 0) :: (2, 0) :: (3, 0) :: (4, 0) :: (5, 0) :: (6, 0) :: (7, 0) :: (8, 0) :: (9, 0) :: (10, 0) :: (11, 0) :: (12, 0) :: (13, 0) :: (14, 0) :: (15, 0) :: (17, 1) :: (18, 1) :: (19, 1) :: (20, 1) :: (21, 1) :: (16, 2) :: (22, 2) :: (23, 0) :: (24, 0) :: (25, 0) :: (26, 0) :: (27, 0) :: (28, 0) :: (29, 0) :: (30, 0) :: (31, 0) :: (32, 0) :: (33, 0) :: (34, 0) :: (35, 0) :: (36, 0) :: (37, 0) :: (38, 2) :: (39, 0) :: (40, 0) :: []) (by kernel_rfl) (by kernel_rfl) (by kernel_rfl) (by kernel_rfl) (by kernel_rfl) (by kernel_rfl) Part.all ?_)) | refine K.drawn _ ((0, 0) :: (1, 0) :: (2, 0) :: (3, 0) :: (4, 0) :: (5, 0) :: (6, 0) :: (7, 0) :: (8, 0) :: (9, 0) :: (10, 0) :: (11, 0) :: (12, 0) :: (13, 0) :: (14, 0) :: (15, 0) :: (17, 1) :: (18, 1) :: (19, 1) :: (20, 1) :: (21, 1) :: (16, 2) :: (22, 2) :: (23, 0) :: (24, 0) :: (25, 0) :: (26, 0) :: (27, 0) :: (28, 0) :: (29, 0) :: (30, 0) :: (31, 0) :: (32, 0) :: (33, 0) :: (34, 0) :: (35, 0) :: (36, 0) :: (37, 0) :: (38, 2) :: (39, 0) :: (40, 0) :: []) (by kernel_rfl) (by kernel_rfl) (by kernel_rfl) (by kernel_rfl) (by kernel_rfl) (by kernel_rfl) Part.all ?_)
      refine KD.v0 rfl rfl (Val.move rfl) ?_
      refine KD.v0 rfl rfl (Val.move rfl) ?_
      (first | refine KD.v0 rfl rfl (Val.lenSl rfl rfl bySli) ?_ | refine KD.v0 rfl rfl (Val.lenS rfl rfl) ?_)
      (first | refine KD.v0 rfl rfl (Val.isT (Val.eql rfl rfl) byLt) ?_ | refine KD.v0 rfl rfl (Val.isF (Val.eql rfl rfl) byLt) ?_ | refine KD.v0 rfl rfl (Val.eql rfl rfl) ?_)
      refine KD.v0 rfl rfl (Val.move rfl) ?_
      (first | refine KD.no rfl rfl rfl rfl rfl ?_ | refine KD.noU rfl rfl rfl rfl rfl ?_ | refine KD.y0 rfl rfl rfl rfl (Val.move rfl) ?_)
      (first | refine KD.no rfl rfl rfl rfl rfl ?_ | refine KD.noU rfl rfl rfl rfl rfl ?_ | refine KD.y0 rfl rfl rfl rfl (Val.move rfl) ?_)
      (first | refine KD.no rfl rfl rfl rfl rfl ?_ | refine KD.noU rfl rfl rfl rfl rfl ?_ | refine KD.y0 rfl rfl rfl rfl (Val.lenSl rfl rfl bySli) ?_ | refine KD.y0 rfl rfl rfl rfl (Val.lenS rfl rfl) ?_)
      (first | refine KD.no rfl rfl rfl rfl rfl ?_ | refine KD.noU rfl rfl rfl rfl rfl ?_ | refine KD.y0 rfl rfl rfl rfl (Val.isT (Val.eql rfl rfl) byLt) ?_ | refine KD.y0 rfl rfl rfl rfl (Val.isF (Val.eql rfl rfl) byLt) ?_ | refine KD.y0 rfl rfl rfl rfl (Val.eql rfl rfl) ?_)
      (first | refine KD.v0 rfl rfl (Val.pickT rfl rfl rfl) ?_ | refine KD.v0 rfl rfl (Val.pickF rfl rfl rfl) ?_ | refine KD.v0 rfl rfl (Val.pickB rfl rfl rfl) ?_)
      refine KD.v0 rfl rfl (Val.move rfl) ?_
      (first | refine KD.no rfl rfl rfl rfl rfl ?_ | refine KD.noU rfl rfl rfl rfl rfl ?_ | refine KD.y0 rfl rfl rfl rfl (Val.move rfl) ?_)
      (first | refine KD.no rfl rfl rfl rfl rfl ?_ | refine KD.noU rfl rfl rfl rfl rfl ?_ | refine KD.y0 rfl rfl rfl rfl (Val.move rfl) ?_)
      (first | refine KD.no rfl rfl rfl rfl rfl ?_ | refine KD.noU rfl rfl rfl rfl rfl ?_ | refine KD.y0 rfl rfl rfl rfl (Val.move rfl) ?_)
      (first | refine KD.no rfl rfl rfl rfl rfl ?_ | refine KD.noU rfl rfl rfl rfl rfl ?_ | refine KD.y0 rfl rfl rfl rfl (Val.add rfl rfl (by simp only [Go.Proofs.Ytdkanfjpdnjhcaa.lo, Go.Proofs.Ytdkanfjpdnjhcaa.hi]; omega)) ?_ | refine KD.y0 rfl rfl rfl rfl (Val.addW rfl rfl) ?_)
      (first | refine KD.no rfl rfl rfl rfl rfl ?_ | refine KD.noU rfl rfl rfl rfl rfl ?_ | refine KD.y0 rfl rfl rfl rfl (Val.sliceLH rfl rfl rfl rfl bySli rfl byLt byLt) ?_)
      (first | refine KD.no rfl rfl rfl rfl rfl ?_ | refine KD.noU rfl rfl rfl rfl rfl ?_ | refine KD.y1 rfl rfl rfl rfl (Val.move rfl) ?_)
      (first | refine KD.no rfl rfl rfl rfl rfl ?_ | refine KD.noU rfl rfl rfl rfl rfl ?_ | refine KD.y1 rfl rfl rfl rfl (Val.move rfl) ?_)
      (first | refine KD.no rfl rfl rfl rfl rfl ?_ | refine KD.noU rfl rfl rfl rfl rfl ?_ | refine KD.y1 rfl rfl rfl rfl (Val.move rfl) ?_)
      (first | refine KD.no rfl rfl rfl rfl rfl ?_ | refine KD.noU rfl rfl rfl rfl rfl ?_ | refine KD.y1 rfl rfl rfl rfl (Val.add rfl rfl (by simp only [Go.Proofs.Ytdkanfjpdnjhcaa.lo, Go.Proofs.Ytdkanfjpdnjhcaa.hi]; omega)) ?_ | refine KD.y1 rfl rfl rfl rfl (Val.addW rfl rfl) ?_)
      (first | refine KD.no rfl rfl rfl rfl rfl ?_ | refine KD.noU rfl rfl rfl rfl rfl ?_ | refine KD.y1 rfl rfl rfl rfl (Val.sliceLH rfl rfl rfl rfl bySli rfl byLt byLt) ?_)
      (first | refine KD.noA rfl rfl rfl rfl ?_ | refine KD.noUA rfl rfl rfl rfl ?_)
      (first | refine KD.noA rfl rfl rfl rfl ?_ | refine KD.noUA rfl rfl rfl rfl ?_)
      (first | refine KD.no rfl rfl rfl rfl rfl ?_ | refine KD.noU rfl rfl rfl rfl rfl ?_ | refine KD.y0 rfl rfl rfl rfl (Val.isT (Val.neqBs rfl rfl) byLt) ?_ | refine KD.y0 rfl rfl rfl rfl (Val.isF (Val.neqBs rfl rfl) byLt) ?_ | refine KD.y0 rfl rfl rfl rfl (Val.neqBs rfl rfl) ?_ | refine KD.y0 rfl rfl rfl rfl (Val.isT (Val.neqS rfl rfl) byLt) ?_ | refine KD.y0 rfl rfl rfl rfl (Val.isF (Val.neqS rfl rfl) byLt) ?_ | refine KD.y0 rfl rfl rfl rfl (Val.neqS rfl rfl) ?_)
      (first | refine KD.v0 rfl rfl (Val.pickT rfl rfl rfl) ?_ | refine KD.v0 rfl rfl (Val.pickF rfl rfl rfl) ?_ | refine KD.v0 rfl rfl (Val.pickB rfl rfl rfl) ?_)
      refine KD.v0 rfl rfl (Val.move rfl) ?_
      (first | refine KD.no rfl rfl rfl rfl rfl ?_ | refine KD.noU rfl rfl rfl rfl rfl ?_ | refine KD.y0 rfl rfl rfl rfl (Val.move rfl) ?_)
      (first | refine KD.no rfl rfl rfl rfl rfl ?_ | refine KD.noU rfl rfl rfl rfl rfl ?_ | refine KD.y0 rfl rfl rfl rfl (Val.move rfl) ?_)
      (first | refine KD.no rfl rfl rfl rfl rfl ?_ | refine KD.noU rfl rfl rfl rfl rfl ?_ | refine KD.y0 rfl rfl rfl rfl (Val.lenSl rfl rfl bySli) ?_ | refine KD.y0 rfl rfl rfl rfl (Val.lenS rfl rfl) ?_)
      (first | refine KD.no rfl rfl rfl rfl rfl ?_ | refine KD.noU rfl rfl rfl rfl rfl ?_ | refine KD.y0 rfl rfl rfl rfl (Val.isT (Val.lss rfl rfl) byLt) ?_ | refine KD.y0 rfl rfl rfl rfl (Val.isF (Val.lss rfl rfl) byLt) ?_ | refine KD.y0 rfl rfl rfl rfl (Val.lss rfl rfl) ?_)
      (first | refine KD.no rfl rfl rfl rfl rfl ?_ | refine KD.noU rfl rfl rfl rfl rfl ?_ | refine KD.y0 rfl rfl rfl rfl (Val.move rfl) ?_)
      (first | refine KD.no rfl rfl rfl rfl rfl ?_ | refine KD.noU rfl rfl rfl rfl rfl ?_ | refine KD.y0 rfl rfl rfl rfl (Val.move rfl) ?_)
      (first | refine KD.no rfl rfl rfl rfl rfl ?_ | refine KD.noU rfl rfl rfl rfl rfl ?_ | refine KD.y0 rfl rfl rfl rfl (Val.move rfl) ?_)
      (first | refine KD.no rfl rfl rfl rfl rfl ?_ | refine KD.noU rfl rfl rfl rfl rfl ?_ | refine KD.y0 rfl rfl rfl rfl (Val.lenSl rfl rfl bySli) ?_ | refine KD.y0 rfl rfl rfl rfl (Val.lenS rfl rfl) ?_)
      (first | refine KD.no rfl rfl rfl rfl rfl ?_ | refine KD.noU rfl rfl rfl rfl rfl ?_ | refine KD.y0 rfl rfl rfl rfl (Val.isT (Val.lss rfl rfl) byLt) ?_ | refine KD.y0 rfl rfl rfl rfl (Val.isF (Val.lss rfl rfl) byLt) ?_ | refine KD.y0 rfl rfl rfl rfl (Val.lss rfl rfl) ?_)
      (first | refine KD.no rfl rfl rfl rfl rfl ?_ | refine KD.noU rfl rfl rfl rfl rfl ?_ | refine KD.y0 rfl rfl rfl rfl (Val.pickT rfl rfl rfl) ?_ | refine KD.y0 rfl rfl rfl rfl (Val.pickF rfl rfl rfl) ?_ | refine KD.y0 rfl rfl rfl rfl (Val.pickB rfl rfl rfl) ?_)
      (first | refine KD.v0 rfl rfl (Val.pickT rfl rfl rfl) ?_ | refine KD.v0 rfl rfl (Val.pickF rfl rfl rfl) ?_ | refine KD.v0 rfl rfl (Val.pickB rfl rfl rfl) ?_)
      refine KD.v0 rfl rfl (Val.move rfl) ?_
      refine KD.callcY rfl rfl rfl rfl rfl byEvL fun T hT => ?_
      refine (CallV.fn awake_K).mono ?_
      rintro _ _ ⟨rfl, rfl⟩
      refine hT _ _ byPart ?_; clear hT; clear T
      (first | refine KD.v0 rfl rfl (Val.pickT rfl rfl rfl) ?_ | refine KD.v0 rfl rfl (Val.pickF rfl rfl rfl) ?_ | refine KD.v0 rfl rfl (Val.pickB rfl rfl rfl) ?_)
      refine KD.v0 rfl rfl (Val.assign rfl) ?_
      refine KD.nil ?_
      refine byCode ?_
      exact KE.fin byMarks rfl byRes byPart ⟨rfl, rfl⟩
    obtain ⟨x, hx⟩ := get_of_lt (show i < a.length by omega)
    obtain ⟨y, hy⟩ := get_of_lt (show i < b.length by omega)
    have hxy : x ≠ y := fun e => hnx (by rw [hx, hy, e])
    have okx : ∀ z ∈ [x], z.ok := fun z hz => by rw [List.mem_singleton.1 hz]; exact oka _ (List.mem_of_getElem? hx)
    have oky : ∀ z ∈ [y], z.ok := fun z hz => by rw [List.mem_singleton.1 hz]; exact okb _ (List.mem_of_getElem? hy)
    have hne : putB [x] ≠ putB [y] := fun h => hxy (by simpa using putB_inj okx oky h)
    have hA2 : SlW w0 sE (subV va i (i + 1) sE.sz) [x] := by
      have := hA.sub (l := i) (h := i + 1) (by omega) (by omega)
      rwa [take_snoc hx, List.drop_append_of_le_length (by simp; omega), List.drop_of_length_le (by rw [List.length_take]; omega), List.nil_append] at this
    have hB2 : SlW w0 sE (subV vb i (i + 1) sE.sz) [y] := by
      have := hB.sub (l := i) (h := i + 1) (by omega) (by omega)
      rwa [take_snoc hy, List.drop_append_of_le_length (by simp; omega), List.drop_of_length_le (by rw [List.length_take]; omega), List.nil_append] at this
    have hia' : i ≤ i + 1 := by omega
    have hla' : i + 1 ≤ a.length := by omega
    have hlb' : i + 1 ≤ b.length := by omega
    refine byCodeD ?_
    (first | refine K.seq (K.drawn _ ((0, 0) :: (1, 0) :: (2, 0) :: (3, 0) :: (4, 0) :: (5, 0) :: (6, 0) :: (7, 0) :: (8, 0) :: (9, 0) :: (10, 0) :: (11, 0) :: (12, 0) :: (13, 0) :: (14, 0) :: (15, 0) :: (17, 1) :: (18, 1) :: (19, 1) :: (20, 1) :: (21, 1) :: (16, 2) :: (22, 2) :: (23, 0) :: (24, 0) :: (25, 0) :: (26, 0) :: (27, 0) :: (28, 0) :: (29, 0) :: (30, 0) :: (31, 0) :: (32, 0) :: (33, 0) :: (34, 0) :: (35, 0) :: (36, 0) :: (37, 0) :: (38, 2) :: (39, 0) :: (40, 0) :: []) (by kernel_rfl) (by kernel_rfl) (by kernel_rfl) (by kernel_rfl) (by kernel_rfl) (by kernel_rfl) Part.all ?_) | refine K.seq (K.seq (K.drawn _ ((0, 0) :: (1, 0) :: (2, 0) :: (3, 0) :: (4, 0) :: (5, 0) :: (6, 0) :: (7, 0) :: (8, 0) :: (9, 0) :: (10, 0) :: (11, 0) :: (12, 0) :: (13, 0) :: (14, 0) :: (15, 0) :: (17, 1) :: (18, 1) :: (19, 1) :: (20, 1) :: (21, 1) :: (16, 2) :: (22, 2) :: (23, 0) :: (24, 0) :: (25, 0) :: (26, 0) :: (27, 0) :: (28, 0) :: (29, 0) :: (30, 0) :: (31, 0) :: (32, 0) :: (33, 0) :: (34, 0) :: (35, 0) :: (36, 0) :: (37, 0) :: (38, 2) :: (39, 0) :: (40, 0) :: []) (by kernel_rfl) (by kernel_rfl) (by kernel_rfl) (by kernel_rfl) (by kernel_rfl) (by kernel_rfl) Part.all ?_)) | refine K.drawn _ ((0, 0) :: (1, 0) :: (2, 0) :: (3, 0) :: (4, 0) :: (5, 0) :: (6, 0) :: (7, 0) :: (8, 0) :: (9, 0) :: (10, 0) :: (11, 0) :: (12, 0) :: (13, 0) :: (14, 0) :: (15, 0) :: (17, 1) :: (18, 1) :: (19, 1) :: (20, 1) :: (21, 1) :: (16, 2) :: (22, 2) :: (23, 0) :: (24, 0) :: (25, 0) :: (26, 0) :: (27, 0) :: (28, 0) :: (29, 0) :: (30, 0) :: (31, 0) :: (32, 0) :: (33, 0) :: (34, 0) :: (35, 0) :: (36, 0) :: (37, 0) :: (38, 2) :: (39, 0) :: (40, 0) :: []) (by kernel_rfl) (by kernel_rfl) (by kernel_rfl) (by kernel_rfl) (by kernel_rfl) (by kernel_rfl) Part.all ?_)
    refine KD.v0 rfl rfl (Val.move rfl) ?_
    refine KD.v0 rfl rfl (Val.move rfl) ?_
    (first | refine KD.v0 rfl rfl (Val.lenSl rfl rfl bySli) ?_ | refine KD.v0 rfl rfl (Val.lenS rfl rfl) ?_)
    (first | refine KD.v0 rfl rfl (Val.isT (Val.eql rfl rfl) byLt) ?_ | refine KD.v0 rfl rfl (Val.isF (Val.eql rfl rfl) byLt) ?_ | refine KD.v0 rfl rfl (Val.eql rfl rfl) ?_)
    refine KD.v0 rfl rfl (Val.move rfl) ?_
    (first | refine KD.no rfl rfl rfl rfl rfl ?_ | refine KD.noU rfl rfl rfl rfl rfl ?_ | refine KD.y0 rfl rfl rfl rfl (Val.move rfl) ?_)
    (first | refine KD.no rfl rfl rfl rfl rfl ?_ | refine KD.noU rfl rfl rfl rfl rfl ?_ | refine KD.y0 rfl rfl rfl rfl (Val.move rfl) ?_)
    (first | refine KD.no rfl rfl rfl rfl rfl ?_ | refine KD.noU rfl rfl rfl rfl rfl ?_ | refine KD.y0 rfl rfl rfl rfl (Val.lenSl rfl rfl bySli) ?_ | refine KD.y0 rfl rfl rfl rfl (Val.lenS rfl rfl) ?_)
    (first | refine KD.no rfl rfl rfl rfl rfl ?_ | refine KD.noU rfl rfl rfl rfl rfl ?_ | refine KD.y0 rfl rfl rfl rfl (Val.isT (Val.eql rfl rfl) byLt) ?_ | refine KD.y0 rfl rfl rfl rfl (Val.isF (Val.eql rfl rfl) byLt) ?_ | refine KD.y0 rfl rfl rfl rfl (Val.eql rfl rfl) ?_)
    (first | refine KD.v0 rfl rfl (Val.pickT rfl rfl rfl) ?_ | refine KD.v0 rfl rfl (Val.pickF rfl rfl rfl) ?_ | refine KD.v0 rfl rfl (Val.pickB rfl rfl rfl) ?_)
    refine KD.v0 rfl rfl (Val.move rfl) ?_
    (first | refine KD.no rfl rfl rfl rfl rfl ?_ | refine KD.noU rfl rfl rfl rfl rfl ?_ | refine KD.y0 rfl rfl rfl rfl (Val.move rfl) ?_)
    (first | refine KD.no rfl rfl rfl rfl rfl ?_ | refine KD.noU rfl rfl rfl rfl rfl ?_ | refine KD.y0 rfl rfl rfl rfl (Val.move rfl) ?_)
    (first | refine KD.no rfl rfl rfl rfl rfl ?_ | refine KD.noU rfl rfl rfl rfl rfl ?_ | refine KD.y0 rfl rfl rfl rfl (Val.move rfl) ?_)
    (first | refine KD.no rfl rfl rfl rfl rfl ?_ | refine KD.noU rfl rfl rfl rfl rfl ?_ | refine KD.y0 rfl rfl rfl rfl (Val.add rfl rfl (by simp only [Go.Proofs.Ytdkanfjpdnjhcaa.lo, Go.Proofs.Ytdkanfjpdnjhcaa.hi]; omega)) ?_ | refine KD.y0 rfl rfl rfl rfl (Val.addW rfl rfl) ?_)
    (first | refine KD.no rfl rfl rfl rfl rfl ?_ | refine KD.noU rfl rfl rfl rfl rfl ?_ | refine KD.y0 rfl rfl rfl rfl (Val.sliceLH rfl rfl rfl rfl bySli rfl byLt byLt) ?_)
    (first | refine KD.no rfl rfl rfl rfl rfl ?_ | refine KD.noU rfl rfl rfl rfl rfl ?_ | refine KD.y1 rfl rfl rfl rfl (Val.move rfl) ?_)
    (first | refine KD.no rfl rfl rfl rfl rfl ?_ | refine KD.noU rfl rfl rfl rfl rfl ?_ | refine KD.y1 rfl rfl rfl rfl (Val.move rfl) ?_)
    (first | refine KD.no rfl rfl rfl rfl rfl ?_ | refine KD.noU rfl rfl rfl rfl rfl ?_ | refine KD.y1 rfl rfl rfl rfl (Val.move rfl) ?_)
    (first | refine KD.no rfl rfl rfl rfl rfl ?_ | refine KD.noU rfl rfl rfl rfl rfl ?_ | refine KD.y1 rfl rfl rfl rfl (Val.add rfl rfl (by simp only [Go.Proofs.Ytdkanfjpdnjhcaa.lo, Go.Proofs.Ytdkanfjpdnjhcaa.hi]; omega)) ?_ | refine KD.y1 rfl rfl rfl rfl (Val.addW rfl rfl) ?_)
    (first | refine KD.no rfl rfl rfl rfl rfl ?_ | refine KD.noU rfl rfl rfl rfl rfl ?_ | refine KD.y1 rfl rfl rfl rfl (Val.sliceLH rfl rfl rfl rfl bySli rfl byLt byLt) ?_)
    refine KD.callcY rfl rfl rfl rfl rfl byEvL fun T hT => ?_
    refine (CallV.fn (Put_K hA2 (by simp) okx)).mono ?_
    rintro _ _ ⟨rfl, rfl⟩
    refine hT _ _ byPart ?_; clear hT; clear T
    refine KD.callcY rfl rfl rfl rfl rfl byEvL fun T hT => ?_
    refine (CallV.fn (Put_K hB2 (by simp) oky)).mono ?_
    rintro _ _ ⟨rfl, rfl⟩
    refine hT _ _ byPart ?_; clear hT; clear T
    (first | refine KD.no rfl rfl rfl rfl rfl ?_ | refine KD.noU rfl rfl rfl rfl rfl ?_ | refine KD.y0 rfl rfl rfl rfl (Val.isT (Val.neqBs rfl rfl) byLt) ?_ | refine KD.y0 rfl rfl rfl rfl (Val.isF (Val.neqBs rfl rfl) byLt) ?_ | refine KD.y0 rfl rfl rfl rfl (Val.neqBs rfl rfl) ?_ | refine KD.y0 rfl rfl rfl rfl (Val.isT (Val.neqS rfl rfl) byLt) ?_ | refine KD.y0 rfl rfl rfl rfl (Val.isF (Val.neqS rfl rfl) byLt) ?_ | refine KD.y0 rfl rfl rfl rfl (Val.neqS rfl rfl) ?_)
    (first | refine KD.v0 rfl rfl (Val.pickT rfl rfl rfl) ?_ | refine KD.v0 rfl rfl (Val.pickF rfl rfl rfl) ?_ | refine KD.v0 rfl rfl (Val.pickB rfl rfl rfl) ?_)
    refine KD.v0 rfl rfl (Val.move rfl) ?_
    (first | refine KD.no rfl rfl rfl rfl rfl ?_ | refine KD.noU rfl rfl rfl rfl rfl ?_ | refine KD.y0 rfl rfl rfl rfl (Val.move rfl) ?_)
    (first | refine KD.no rfl rfl rfl rfl rfl ?_ | refine KD.noU rfl rfl rfl rfl rfl ?_ | refine KD.y0 rfl rfl rfl rfl (Val.move rfl) ?_)
    (first | refine KD.no rfl rfl rfl rfl rfl ?_ | refine KD.noU rfl rfl rfl rfl rfl ?_ | refine KD.y0 rfl rfl rfl rfl (Val.lenSl rfl rfl bySli) ?_ | refine KD.y0 rfl rfl rfl rfl (Val.lenS rfl rfl) ?_)
    (first | refine KD.no rfl rfl rfl rfl rfl ?_ | refine KD.noU rfl rfl rfl rfl rfl ?_ | refine KD.y0 rfl rfl rfl rfl (Val.isT (Val.lss rfl rfl) byLt) ?_ | refine KD.y0 rfl rfl rfl rfl (Val.isF (Val.lss rfl rfl) byLt) ?_ | refine KD.y0 rfl rfl rfl rfl (Val.lss rfl rfl) ?_)
    (first | refine KD.no rfl rfl rfl rfl rfl ?_ | refine KD.noU rfl rfl rfl rfl rfl ?_ | refine KD.y0 rfl rfl rfl rfl (Val.move rfl) ?_)
    (first | refine KD.no rfl rfl rfl rfl rfl ?_ | refine KD.noU rfl rfl rfl rfl rfl ?_ | refine KD.y0 rfl rfl rfl rfl (Val.move rfl) ?_)
    (first | refine KD.no rfl rfl rfl rfl rfl ?_ | refine KD.noU rfl rfl rfl rfl rfl ?_ | refine KD.y0 rfl rfl rfl rfl (Val.move rfl) ?_)
    (first | refine KD.no rfl rfl rfl rfl rfl ?_ | refine KD.noU rfl rfl rfl rfl rfl ?_ | refine KD.y0 rfl rfl rfl rfl (Val.lenSl rfl rfl bySli) ?_ | refine KD.y0 rfl rfl rfl rfl (Val.lenS rfl rfl) ?_)
    (first | refine KD.no rfl rfl rfl rfl rfl ?_ | refine KD.noU rfl rfl rfl rfl rfl ?_ | refine KD.y0 rfl rfl rfl rfl (Val.isT (Val.lss rfl rfl) byLt) ?_ | refine KD.y0 rfl rfl rfl rfl (Val.isF (Val.lss rfl rfl) byLt) ?_ | refine KD.y0 rfl rfl rfl rfl (Val.lss rfl rfl) ?_)
    (first | refine KD.no rfl rfl rfl rfl rfl ?_ | refine KD.noU rfl rfl rfl rfl rfl ?_ | refine KD.y0 rfl rfl rfl rfl (Val.pickT rfl rfl rfl) ?_ | refine KD.y0 rfl rfl rfl rfl (Val.pickF rfl rfl rfl) ?_ | refine KD.y0 rfl rfl rfl rfl (Val.pickB rfl rfl rfl) ?_)
    (first | refine KD.v0 rfl rfl (Val.pickT rfl rfl rfl) ?_ | refine KD.v0 rfl rfl (Val.pickF rfl rfl rfl) ?_ | refine KD.v0 rfl rfl (Val.pickB rfl rfl rfl) ?_)
    refine KD.v0 rfl rfl (Val.move rfl) ?_
    refine KD.callcY rfl rfl rfl rfl rfl byEvL fun T hT => ?_
    refine (CallV.fn awake_K).mono ?_
    rintro _ _ ⟨rfl, rfl⟩
    refine hT _ _ byPart ?_; clear hT; clear T
    (first | refine KD.v0 rfl rfl (Val.pickT rfl rfl rfl) ?_ | refine KD.v0 rfl rfl (Val.pickF rfl rfl rfl) ?_ | refine KD.v0 rfl rfl (Val.pickB rfl rfl rfl) ?_)
    refine KD.v0 rfl rfl (Val.assign rfl) ?_
    refine KD.nil ?_
    refine byCode ?_
    exact KE.fin byMarks rfl byRes byPart ⟨rfl, rfl⟩

theorem traceDiffs_call {H : Type} {enc : TypeId × Value → H} (W : World) (base : Nat) (v0 v1 : Value) {d0 d1 : DataW H} {p0 p1 : List MemPlace}
    (o0 : Value.okWide Try.prog W .any base 22 v0) (h0 : DataW.Trod enc Try.prog W 0 (fun _ => true) true 22 v0 d0 p0)
    (o1 : Value.okWide Try.prog W .any base 22 v1) (h1 : DataW.Trod enc Try.prog W 0 (fun _ => true) true 22 v1 d1 p1) :
    Calls Try.prog 5 #[v0, v1] W (AwakeEnd W) := by
  obtain ⟨a, hA, oka⟩ := seens_sl o0 h0
  obtain ⟨b, hB, okb⟩ := seens_sl o1 h1
  exact (traceDiffs_K hA hB oka okb).calls
end Go.Proofs.Ytdkanfjpdnjhcaa
