/- Graph: IndexFunc, ContainsFunc. -/
import Derived.Test.YtfgmofaadcbokaaGrW3
namespace Go.Proofs.Ytfgmofaadcbokaa
open Go.RowKit
set_option linter.unusedVariables false
set_option linter.unusedSimpArgs false

structure XS where
  k : Nat
  A : Heap

set_option maxRecDepth 10000 in
set_option maxHeartbeats 1000000 in
/-- the function f is called on each element, in order, until it says yes; J: what it keeps, by what it has been called on -/
theorem IndexFunc_K {w0 : World} {R A0 : Heap} {v fv : Value} {l : List Int} (p : Int → Bool) (J : List Int → Heap → Prop) (hS : ∀ A, Sli w0 (A ++ R) iE v l) (hl : l.length ≤ 100000)
    (hy : ∀ k x A, l[k]? = some x → J (l.take k) A → CallV Try.prog w0 fv [.int .i64 x] (A ++ R) (fun r H' => r = .bool (p x) ∧ ∃ A', J (l.take (k + 1)) A' ∧ H' = A' ++ R)) (h0 : J [] A0) :
    Call Try.prog w0 38 [v, fv] (A0 ++ R)
      (fun r H' => ∃ A', H' = A' ++ R ∧ ((∃ (k : Nat) (x : Int), l[k]? = some x ∧ p x = true ∧ (∀ y ∈ l.take k, p y = false) ∧ J (l.take (k + 1)) A' ∧ r = .int .i64 (k : Nat)) ∨ ((∀ y ∈ l, p y = false) ∧ J l A' ∧ r = .int .i64 (-1)))) := by
  refine Call.enter (n := 19) [(0, v), (1, fv)] (by kernel_rfl) Try.func38 rfl rfl rfl ⟨rfl, rfl, trivial⟩ ?_
  have hs0 := hS A0
  refine byCode ?_
  (refine KL.v rfl (Val.assign rfl) ?_)
  refine KL.nil ?_
  refine byCode ?_
  (refine KL.v rfl (Val.move rfl) ?_)
  (first | (refine KL.v rfl (Val.lenSl rfl rfl bySli) ?_) | (refine KL.v rfl (Val.lenS rfl rfl) ?_))
  (refine KL.v rfl (Val.move rfl) ?_)
  refine KL.nil ?_
  clear hs0
  refine byBlk ?_
  refine K.loop (σ := XS) (fun s => [(8, .int .i64 (s.k : Nat)), (7, .int .i64 (l.length : Nat)), (0, v), (1, fv)]) (fun s => s.A ++ R)
    (fun s => s.k ≤ l.length ∧ J (l.take s.k) s.A ∧ ∀ y ∈ l.take s.k, p y = false) (fun s => l.length - s.k) ⟨0, A0⟩ bySub byPart ⟨by simp, by simpa using h0, by simp⟩ ?_
  rintro ⟨k, A⟩ ⟨hk, hJ, hn⟩
  dsimp only at hk hJ hn ⊢
  have hs := hS A
  by_cases hlt : k < l.length
  · obtain ⟨x, hx⟩ := get_of_lt hlt
    refine byCode ?_
    (first | (refine KL.v rfl (Val.isT (Val.lss rfl rfl) byLt) ?_) | (refine KL.v rfl (Val.isF (Val.lss rfl rfl) byLt) ?_) | (refine KL.v rfl (Val.lss rfl rfl) ?_))
    refine KL.nil ?_
    refine byCode ?_
    refine K.seq (K.block ?_)
    refine byCode ?_
    (refine KL.v rfl (Val.move rfl) ?_)
    (refine KL.v rfl (Val.assign rfl) ?_)
    refine KL.nil ?_
    refine byCode ?_
    (refine KL.v rfl (Val.move rfl) ?_)
    (refine KL.v rfl (Val.move rfl) ?_)
    (refine KL.v rfl (Val.move rfl) ?_)
    (first | (refine KL.v rfl (Val.idxSl rfl rfl rfl bySli rfl byLt) ?_) | (refine KL.v rfl (Val.idxSlZ rfl rfl rfl bySli rfl (by omega)) ?_) | (refine KL.v rfl (Val.indexS1 rfl rfl rfl rfl (by omega)) ?_) | (refine KL.v rfl (Val.indexS rfl rfl rfl rfl (by omega)) ?_) | (refine KL.v rfl (Val.indexSO rfl rfl rfl rfl (by omega)) ?_) | (refine KL.v rfl (Val.indexSG rfl rfl rfl rfl (by omega)) ?_))
    (refine KL.v rfl (Val.loadP rfl rfl bySee) ?_)
    (refine KL.callc rfl rfl byEvL fun T hT => ?_)
    refine (hy k x A hx hJ).mono ?_
    rintro _ _ ⟨rfl, A', hJ', rfl⟩
    clear hs
    cases hp : p x with
    | true =>
      refine hT _ _ ?_; clear hT; clear T
      refine KL.nil ?_
      refine byCode ?_
      (refine KL.v rfl (Val.move rfl) ?_)
      (refine KL.v rfl (Val.assign rfl) ?_)
      refine KL.nil ?_
      refine byCode ?_
      exact KE.fin byMarks rfl byRes byPart ⟨A', rfl, .inl ⟨k, x, hx, hp, hn, hJ', rfl⟩⟩
    | false =>
      refine hT _ _ ?_; clear hT; clear T
      refine KL.nil ?_
      refine byCode ?_
      (first | (refine KL.v rfl (Val.add rfl rfl (by simp only [Go.Proofs.Ytfgmofaadcbokaa.lo, Go.Proofs.Ytfgmofaadcbokaa.hi]; omega)) ?_) | (refine KL.v rfl (Val.addW rfl rfl) ?_))
      (refine KL.v rfl (Val.move rfl) ?_)
      refine KL.nil ?_
      exact KE.again ⟨k + 1, A'⟩ bySub byPart ⟨by show k + 1 ≤ _; omega, hJ', fun y hy' => by
        rw [take_snoc hx] at hy'
        rcases List.mem_append.1 hy' with h | h
        · exact hn y h
        · rw [List.mem_singleton.1 h]; exact hp⟩ (by show l.length - (k + 1) < l.length - k; omega)
  · have hke : l.take k = l := List.take_of_length_le (by omega)
    rw [hke] at hJ hn
    refine byCode ?_
    (first | (refine KL.v rfl (Val.isT (Val.lss rfl rfl) byLt) ?_) | (refine KL.v rfl (Val.isF (Val.lss rfl rfl) byLt) ?_) | (refine KL.v rfl (Val.lss rfl rfl) ?_))
    refine KL.nil ?_
    refine byCode ?_
    (refine KL.v rfl (Val.assign rfl) ?_)
    refine KL.nil ?_
    refine byCode ?_
    exact KE.fin byMarks rfl byRes byPart ⟨A, rfl, .inr ⟨hn, hJ, rfl⟩⟩
end Go.Proofs.Ytfgmofaadcbokaa
