/- Trace: bytes that are read: the closures, and the way through them. -/
import Derived.Test.YtdkanfjpdnjhcaaTrW4
namespace Go.Proofs.Ytdkanfjpdnjhcaa
open Go.RowKit
set_option linter.unusedVariables false
set_option linter.unusedSimpArgs false

theorem or_byte {n : Nat} {c : UInt8} (hn : n < 72057594037927936) : bitsOf .or .u64 (IntKind.u64.wrap ((n : Int) * 2 ^ (min (8 : Int).toNat IntKind.u64.bits))) (c.toNat : Nat) = ((n * 256 + c.toNat : Nat) : Int) := by
  have hc := c.toNat_lt
  have e1 : IntKind.u64.wrap ((n : Int) * 2 ^ (min (8 : Int).toNat IntKind.u64.bits)) = ((n * 256 : Nat) : Int) := by
    rw [wrap_u64]
    have : (2 : Int) ^ (min (8 : Int).toNat IntKind.u64.bits) = 256 := rfl
    rw [this]
    omega
  rw [e1]
  unfold bitsOf
  have e2 : (BitVec.ofInt IntKind.u64.bits ((n * 256 : Nat) : Int) ||| BitVec.ofInt IntKind.u64.bits ((c.toNat : Nat) : Int)).toNat = n * 256 + c.toNat := by
    rw [BitVec.toNat_or, BitVec.ofInt_natCast, BitVec.ofInt_natCast, BitVec.toNat_ofNat, BitVec.toNat_ofNat]
    have b : IntKind.u64.bits = 64 := rfl
    rw [b, Nat.mod_eq_of_lt (by omega), Nat.mod_eq_of_lt (by omega)]
    have := Nat.shiftLeft_add_eq_or_of_lt (show c.toNat < 2 ^ 8 by omega) n
    rw [Nat.shiftLeft_eq] at this
    exact this.symm
  simp only
  rw [e2, wrap_u64]
  omega

set_option maxRecDepth 10000 in
theorem At_K {w0 : World} {F : Heap} {b : Nat} {c : List UInt8} {z : Int} {i : Nat} (hz : z = (i : Nat)) (hc : 8 * i + 8 ≤ c.length) (hi : i ≤ 1000) :
    Call Try.prog w0 36 [.int .i64 z, .pointer (some ⟨b, 0, none⟩)] ((b, cells [.string (strB c)] 9) :: F) (fun r H' => r = .int .u64 (fld c i : Nat) ∧ H' = (b, cells [.string (strB c)] 9) :: F) := by
  subst hz
  refine Call.enter (n := 26) [(0, .int .i64 (i : Nat)), (1, .pointer (some ⟨b, 0, none⟩))] (by kernel_rfl) Try.func36 rfl rfl rfl ⟨rfl, rfl, trivial⟩ ?_
  have he : (c.take (((i : Int) + 1) * 8).toNat).drop ((i : Int) * 8).toNat = (c.drop (8 * i)).take 8 := by
    rw [show (((i : Int) + 1) * 8).toNat = 8 * i + 8 by omega, show ((i : Int) * 8).toNat = 8 * i by omega, List.drop_take]
    congr 1; omega
  have hl8 : ((c.drop (8 * i)).take 8).length = 8 := by simp; omega
  have hlo : (ofB ((c.drop (8 * i)).take 8)).length = 8 := by simp [ofB]; omega
  have hml : ((c.drop (8 * i)).take 8).length ≤ maxLen := by rw [hl8]; decide
  refine byCode ?_
  (refine KL.v rfl (Val.assign rfl) ?_)
  refine KL.nil ?_
  refine byCode ?_
  (refine KL.v rfl (Val.loadP rfl rfl bySee) ?_)
  (refine KL.v rfl (Val.move rfl) ?_)
  (first | (refine KL.v rfl (Val.mul rfl rfl (by simp only [Go.Proofs.Ytdkanfjpdnjhcaa.lo, Go.Proofs.Ytdkanfjpdnjhcaa.hi]; omega)) ?_) | (refine KL.v rfl (Val.mulW rfl rfl) ?_))
  (refine KL.v rfl (Val.move rfl) ?_)
  (first | (refine KL.v rfl (Val.add rfl rfl (by simp only [Go.Proofs.Ytdkanfjpdnjhcaa.lo, Go.Proofs.Ytdkanfjpdnjhcaa.hi]; omega)) ?_) | (refine KL.v rfl (Val.addW rfl rfl) ?_))
  (first | (refine KL.v rfl (Val.mul rfl rfl (by simp only [Go.Proofs.Ytdkanfjpdnjhcaa.lo, Go.Proofs.Ytdkanfjpdnjhcaa.hi]; omega)) ?_) | (refine KL.v rfl (Val.mulW rfl rfl) ?_))
  (first | (refine KL.v rfl (Val.subB rfl rfl rfl rfl byLt byLt) ?_) | (refine KL.v rfl (Val.subBZ rfl rfl rfl rfl (by omega)) ?_))
  rw [he]
  (refine KL.e rfl (Eff.convSB rfl rfl rfl (by first | assumption | (simp [maxLen]; omega) | (unfold maxLen; omega))) ?_; rintro _ _ ⟨b13, arr13, e13, fr13, rfl, hsl13⟩)
  (first | (refine KL.v rfl (Val.lenSl rfl rfl bySli) ?_) | (refine KL.v rfl (Val.lenS rfl rfl) ?_))
  (refine KL.v rfl (Val.move rfl) ?_)
  refine KL.nil ?_
  rename_i v
  rw [hlo]
  refine byBlk ?_
  refine K.loop (σ := Nat) (fun k => [(15, .int .i64 (k : Nat)), (14, .int .i64 8), (13, v), (3, .int .u64 (nb (((c.drop (8 * i)).take 8).take k) : Nat))]) (fun _ => (b13, .cells arr13 e13 fr13) :: (b, cells [.string (strB c)] 9) :: F)
    (fun k => k ≤ 8) (fun k => 8 - k) 0 bySub byPart (by omega) ?_
  intro k hk
  by_cases hlt : k < 8
  · obtain ⟨x, hx⟩ := get_of_lt (l := (c.drop (8 * i)).take 8) (k := k) (by omega)
    have hx' : (ofB ((c.drop (8 * i)).take 8))[k]? = some (x.toNat : Int) := by unfold ofB; rw [List.getElem?_map, hx]; rfl
    have hnx := nb_snoc (((c.drop (8 * i)).take 8).take k) x
    rw [← take_snoc hx] at hnx
    have hb : nb (((c.drop (8 * i)).take 8).take k) < 72057594037927936 := by
      have h1 := nb_lt (((c.drop (8 * i)).take 8).take k)
      have h2 : (((c.drop (8 * i)).take 8).take k).length ≤ 7 := by simp; omega
      have h3 : 256 ^ (((c.drop (8 * i)).take 8).take k).length ≤ 256 ^ 7 := Nat.pow_le_pow_right (by omega) h2
      omega
    have hor := or_byte (c := x) hb
    have hx8 := x.toNat_lt
    have hkl : k < (ofB ((c.drop (8 * i)).take 8)).length := by omega
    refine byCode ?_
    (first | (refine KL.v rfl (Val.isT (Val.lss rfl rfl) byLt) ?_) | (refine KL.v rfl (Val.isF (Val.lss rfl rfl) byLt) ?_) | (refine KL.v rfl (Val.lss rfl rfl) ?_))
    refine KL.nil ?_
    refine byCode ?_
    refine K.seq (K.block ?_)
    refine byCode ?_
    (first | (refine KL.v rfl (Val.idxSl rfl rfl rfl bySli rfl byLt) ?_) | (refine KL.v rfl (Val.idxSlZ rfl rfl rfl bySli rfl (by omega)) ?_) | (refine KL.v rfl (Val.indexS1 rfl rfl rfl rfl (by omega)) ?_) | (refine KL.v rfl (Val.indexS rfl rfl rfl rfl (by omega)) ?_) | (refine KL.v rfl (Val.indexSO rfl rfl rfl rfl (by omega)) ?_) | (refine KL.v rfl (Val.indexSG rfl rfl rfl rfl (by omega)) ?_))
    (refine KL.v rfl (Val.loadP rfl rfl bySee) ?_)
    (refine KL.v rfl (Val.assign rfl) ?_)
    refine KL.nil ?_
    refine byCode ?_
    (refine KL.v rfl (Val.move rfl) ?_)
    (refine KL.v rfl (Val.shl rfl rfl (by omega)) ?_)
    (refine KL.v rfl (Val.move rfl) ?_)
    (first | (refine KL.v rfl (Val.conv rfl rfl rfl (by simp only [Go.Proofs.Ytdkanfjpdnjhcaa.lo, Go.Proofs.Ytdkanfjpdnjhcaa.hi]; omega)) ?_) | (refine KL.v rfl (Val.convW rfl rfl rfl) ?_))
    (refine KL.v rfl (Val.or rfl rfl) ?_)
    rw [hor, ← hnx]
    (refine KL.v rfl (Val.assign rfl) ?_)
    refine KL.nil ?_
    refine byCode ?_
    (first | (refine KL.v rfl (Val.add rfl rfl (by simp only [Go.Proofs.Ytdkanfjpdnjhcaa.lo, Go.Proofs.Ytdkanfjpdnjhcaa.hi]; omega)) ?_) | (refine KL.v rfl (Val.addW rfl rfl) ?_))
    (refine KL.v rfl (Val.move rfl) ?_)
    refine KL.nil ?_
    exact KE.again (k + 1) bySub byPart (by omega) (by omega)
  · have : k = 8 := by omega
    subst this
    have ht : ((c.drop (8 * i)).take 8).take 8 = (c.drop (8 * i)).take 8 := List.take_of_length_le (by omega)
    refine byCode ?_
    (first | (refine KL.v rfl (Val.isT (Val.lss rfl rfl) byLt) ?_) | (refine KL.v rfl (Val.isF (Val.lss rfl rfl) byLt) ?_) | (refine KL.v rfl (Val.lss rfl rfl) ?_))
    refine KL.nil ?_
    refine byCode ?_
    (refine KL.v rfl (Val.move rfl) ?_)
    (refine KL.v rfl (Val.assign rfl) ?_)
    refine KL.nil ?_
    refine byCode ?_
    exact KE.fin byMarks rfl byRes byPart ⟨by rw [ht]; rfl, rfl⟩

theorem getB_irrel : ∀ (n m : Nat) (b : List UInt8), b.length ≤ n → b.length ≤ m → getB n b = getB m b := by
  intro n
  induction n with
  | zero =>
    intro m b h1 h2
    have : b = [] := List.eq_nil_of_length_eq_zero (by omega)
    subst this
    cases m <;> rfl
  | succ n ih =>
    intro m b h1 h2
    cases m with
    | zero =>
      have : b = [] := List.eq_nil_of_length_eq_zero (by omega)
      subst this; rfl
    | succ m =>
      unfold getB
      by_cases hb : b = []
      · rw [if_pos hb, if_pos hb]
      · rw [if_neg hb, if_neg hb]
        have := List.length_pos_iff.2 hb
        split
        · rfl
        · rw [ih m (b.drop 57) (by simp; omega) (by simp; omega)]
def get (b : List UInt8) : Option (List Seen) := getB b.length b
theorem oneS_take {c : List UInt8} (h : 57 ≤ c.length) : oneS (c.take 57) = oneS c := by
  have hf : ∀ i, 8 * i + 8 ≤ 57 → fld (c.take 57) i = fld c i := by
    intro i hi
    unfold fld
    rw [List.drop_take, List.take_take, Nat.min_eq_left (by omega)]
  have h56 : (c.take 57)[56]? = c[56]? := by rw [List.getElem?_take]; simp
  unfold oneS
  rw [hf 0 (by omega), hf 1 (by omega), hf 2 (by omega), hf 3 (by omega), hf 4 (by omega), hf 5 (by omega), hf 6 (by omega), h56]
theorem get_nil : get [] = some [] := rfl
theorem get_bad {c : List UInt8} (hne : c ≠ []) (h : c.length < 57 ∨ ∃ x, c[56]? = some x ∧ 1 < x.toNat) : get c = none := by
  unfold get
  have := List.length_pos_iff.2 hne
  obtain ⟨n, hn⟩ : ∃ n, c.length = n + 1 := ⟨c.length - 1, by omega⟩
  rw [hn]
  unfold getB
  rw [if_neg hne, if_pos]
  rcases h with h | ⟨x, hx, h⟩
  · exact .inl h
  · right
    rw [hx]
    rintro (e | e) <;> (simp only [Option.some.injEq] at e; subst e; simp at h)
theorem get_step {c : List UInt8} {x : UInt8} (hl : 57 ≤ c.length) (hx : c[56]? = some x) (h1 : x.toNat ≤ 1) : get c = (get (c.drop 57)).map (oneS c :: ·) := by
  have hne : c ≠ [] := by intro h; subst h; simp at hl
  have hx01 : x = 0 ∨ x = 1 := by
    rcases (show x.toNat = 0 ∨ x.toNat = 1 by omega) with h | h
    · left; apply UInt8.toNat.inj; exact h
    · right; apply UInt8.toNat.inj; exact h
  have e : get c = getB (c.length - 1 + 1) c := by unfold get; congr 1; omega
  rw [e]
  unfold getB
  rw [if_neg hne, if_neg, oneS_take hl]
  · unfold get
    rw [getB_irrel (c.length - 1) (c.drop 57).length (c.drop 57) (by simp; omega) (Nat.le_refl _)]
  · rintro (h | h)
    · omega
    · apply h; rw [hx]; rcases hx01 with rfl | rfl <;> simp

def seen0 : Seen := ⟨0, 0, 0, 0, 0, 0, 0, false⟩
structure ES where
  xs : List Seen
  A : Heap
  c : List UInt8

set_option maxRecDepth 10000 in
set_option maxHeartbeats 4000000 in
theorem each1_K {w0 : World} {F : Heap} {fv : Value} {b : Nat} (J : List Seen → Heap → Prop) (Bad : Heap → Prop)
    (hf : fv.oneCell' = true)
    (hy : ∀ xs A F s, J xs A → xs.length ≤ 1000000 → CallV Try.prog w0 fv [.agg (scell s).toArray, .bool true] (A ++ F) (fun v H' => v = .bool true ∧ ∃ A', J (xs ++ [s]) A' ∧ H' = A' ++ F))
    (hn : ∀ xs A F, J xs A → CallV Try.prog w0 fv [.agg (scell seen0).toArray, .bool false] (A ++ F) (fun v H' => ∃ A', Bad A' ∧ H' = A' ++ F))
    {A0 : Heap} {c0 : List UInt8} (h0 : J [] A0) (hl0 : c0.length ≤ 1000000) :
    Call Try.prog w0 35 [fv, .pointer (some ⟨b, 0, none⟩)] (A0 ++ ((b, cells [.string (strB c0)] 9) :: F))
      (fun _ H' => ∃ A' c', H' = A' ++ ((b, cells [.string (strB c')] 9) :: F) ∧ ((∃ xs, get c0 = some xs ∧ J xs A') ∨ (get c0 = none ∧ Bad A'))) := by
  refine Call.enter (n := 48) [(0, fv), (1, .pointer (some ⟨b, 0, none⟩))] (by kernel_rfl) Try.func35 rfl rfl rfl ⟨rfl, rfl, trivial⟩ ?_
  refine byBlk ?_
  refine K.loop (σ := ES) (fun s => [(0, fv), (1, .pointer (some ⟨b, 0, none⟩))]) (fun s => s.A ++ ((b, cells [.string (strB s.c)] 9) :: F))
    (fun s => J s.xs s.A ∧ get c0 = (get s.c).map (s.xs ++ ·) ∧ s.xs.length * 57 + s.c.length ≤ 1000000) (fun s => s.c.length) ⟨[], A0, c0⟩ bySub byPart ⟨h0, by simp, by simpa using hl0⟩ ?_
  rintro ⟨xs, A, c⟩ ⟨hJ, hg, hl⟩
  dsimp only at hJ hg hl ⊢
  by_cases hc : c = []
  · subst hc
    have hcn : ¬ ([] : List UInt8) ≠ [] := fun h => h rfl
    rw [get_nil] at hg
    refine byCode ?_
    (refine KL.v rfl (Val.loadP rfl rfl bySee) ?_)
    (first | (refine KL.v rfl (Val.isT (Val.neqBs rfl rfl) byLt) ?_) | (refine KL.v rfl (Val.isF (Val.neqBs rfl rfl) byLt) ?_) | (refine KL.v rfl (Val.neqBs rfl rfl) ?_) | (refine KL.v rfl (Val.isT (Val.neqS rfl rfl) byLt) ?_) | (refine KL.v rfl (Val.isF (Val.neqS rfl rfl) byLt) ?_) | (refine KL.v rfl (Val.neqS rfl rfl) ?_))
    refine KL.nil ?_
    refine byCode ?_
    exact KE.finN byMarks rfl byRes byPart ⟨A, [], rfl, .inl ⟨xs, by simpa using hg, hJ⟩⟩
  · have hcn : c ≠ [] := hc
    by_cases h57 : c.length < 57
    · have hb := get_bad hc (.inl h57)
      rw [hb] at hg
      refine byCode ?_
      (refine KL.v rfl (Val.loadP rfl rfl bySee) ?_)
      (first | (refine KL.v rfl (Val.isT (Val.neqBs rfl rfl) byLt) ?_) | (refine KL.v rfl (Val.isF (Val.neqBs rfl rfl) byLt) ?_) | (refine KL.v rfl (Val.neqBs rfl rfl) ?_) | (refine KL.v rfl (Val.isT (Val.neqS rfl rfl) byLt) ?_) | (refine KL.v rfl (Val.isF (Val.neqS rfl rfl) byLt) ?_) | (refine KL.v rfl (Val.neqS rfl rfl) ?_))
      refine KL.nil ?_
      refine byCode ?_
      refine K.block ?_
      refine byCode ?_
      (refine KL.v rfl (Val.loadP rfl rfl bySee) ?_)
      (refine KL.v rfl (Val.lenB rfl rfl) ?_)
      (first | (refine KL.v rfl (Val.isT (Val.lss rfl rfl) byLt) ?_) | (refine KL.v rfl (Val.isF (Val.lss rfl rfl) byLt) ?_) | (refine KL.v rfl (Val.lss rfl rfl) ?_))
      (refine KL.v rfl (Val.move rfl) ?_)
      (first | refine KL.skipG rfl rfl rfl ?_ | refine KL.skipU rfl rfl rfl ?_ | (refine KL.yes rfl rfl ?_; refine KL.v rfl (Val.loadP rfl rfl bySee) ?_))
      (first | refine KL.skipG rfl rfl rfl ?_ | refine KL.skipU rfl rfl rfl ?_ | (refine KL.yes rfl rfl ?_; refine KL.v rfl (Val.idxB rfl rfl rfl (by assumption)) ?_) | (refine KL.yes rfl rfl ?_; refine KL.v rfl (Val.idxBZ rfl rfl rfl (by omega) (by assumption)) ?_))
      (first | refine KL.skipG rfl rfl rfl ?_ | refine KL.skipU rfl rfl rfl ?_ | (refine KL.yes rfl rfl ?_; refine KL.v rfl (Val.isT (Val.gtr rfl rfl) byLt) ?_) | (refine KL.yes rfl rfl ?_; refine KL.v rfl (Val.isF (Val.gtr rfl rfl) byLt) ?_) | (refine KL.yes rfl rfl ?_; refine KL.v rfl (Val.gtr rfl rfl) ?_))
      (first | (refine KL.v rfl (Val.pickT rfl rfl rfl) ?_) | (refine KL.v rfl (Val.pickF rfl rfl rfl) ?_) | (refine KL.v rfl (Val.pickB rfl rfl rfl) ?_))
      refine KL.nil ?_
      refine byCode ?_
      (refine KL.v rfl (Val.move rfl) ?_)
      (refine KL.v rfl (Val.build byParts rfl rfl byFill) ?_)
      (refine KL.callc rfl rfl byEvL fun T hT => ?_)
      refine (CallV.part (hn xs A ((b, cells [.string (strB c)] 9) :: F) hJ) byPart).mono ?_
      rintro _ _ ⟨A', hB, rfl⟩
      refine hT _ _ ?_; clear hT; clear T
      refine KL.nil ?_
      refine byCode ?_
      exact KE.fin byMarks rfl byRes byPart ⟨A', c, rfl, .inr ⟨by simpa using hg, hB⟩⟩
    · have hcl : 57 ≤ c.length := by omega
      obtain ⟨x, hx⟩ := get_of_lt (l := c) (k := 56) (by omega)
      have hx' : c[(56 : Int).toNat]? = some x := hx
      by_cases hx1 : (1 : Int) < (x.toNat : Nat)
      · have hb := get_bad hc (.inr ⟨x, hx, by omega⟩)
        rw [hb] at hg
        refine byCode ?_
        (refine KL.v rfl (Val.loadP rfl rfl bySee) ?_)
        (first | (refine KL.v rfl (Val.isT (Val.neqBs rfl rfl) byLt) ?_) | (refine KL.v rfl (Val.isF (Val.neqBs rfl rfl) byLt) ?_) | (refine KL.v rfl (Val.neqBs rfl rfl) ?_) | (refine KL.v rfl (Val.isT (Val.neqS rfl rfl) byLt) ?_) | (refine KL.v rfl (Val.isF (Val.neqS rfl rfl) byLt) ?_) | (refine KL.v rfl (Val.neqS rfl rfl) ?_))
        refine KL.nil ?_
        refine byCode ?_
        refine K.block ?_
        refine byCode ?_
        (refine KL.v rfl (Val.loadP rfl rfl bySee) ?_)
        (refine KL.v rfl (Val.lenB rfl rfl) ?_)
        (first | (refine KL.v rfl (Val.isT (Val.lss rfl rfl) byLt) ?_) | (refine KL.v rfl (Val.isF (Val.lss rfl rfl) byLt) ?_) | (refine KL.v rfl (Val.lss rfl rfl) ?_))
        (refine KL.v rfl (Val.move rfl) ?_)
        (first | refine KL.skipG rfl rfl rfl ?_ | refine KL.skipU rfl rfl rfl ?_ | (refine KL.yes rfl rfl ?_; refine KL.v rfl (Val.loadP rfl rfl bySee) ?_))
        (first | refine KL.skipG rfl rfl rfl ?_ | refine KL.skipU rfl rfl rfl ?_ | (refine KL.yes rfl rfl ?_; refine KL.v rfl (Val.idxB rfl rfl rfl (by assumption)) ?_) | (refine KL.yes rfl rfl ?_; refine KL.v rfl (Val.idxBZ rfl rfl rfl (by omega) (by assumption)) ?_))
        (first | refine KL.skipG rfl rfl rfl ?_ | refine KL.skipU rfl rfl rfl ?_ | (refine KL.yes rfl rfl ?_; refine KL.v rfl (Val.isT (Val.gtr rfl rfl) byLt) ?_) | (refine KL.yes rfl rfl ?_; refine KL.v rfl (Val.isF (Val.gtr rfl rfl) byLt) ?_) | (refine KL.yes rfl rfl ?_; refine KL.v rfl (Val.gtr rfl rfl) ?_))
        (first | (refine KL.v rfl (Val.pickT rfl rfl rfl) ?_) | (refine KL.v rfl (Val.pickF rfl rfl rfl) ?_) | (refine KL.v rfl (Val.pickB rfl rfl rfl) ?_))
        refine KL.nil ?_
        refine byCode ?_
        (refine KL.v rfl (Val.move rfl) ?_)
        (refine KL.v rfl (Val.build byParts rfl rfl byFill) ?_)
        (refine KL.callc rfl rfl byEvL fun T hT => ?_)
        refine (CallV.part (hn xs A ((b, cells [.string (strB c)] 9) :: F) hJ) byPart).mono ?_
        rintro _ _ ⟨A', hB, rfl⟩
        refine hT _ _ ?_; clear hT; clear T
        refine KL.nil ?_
        refine byCode ?_
        exact KE.fin byMarks rfl byRes byPart ⟨A', c, rfl, .inr ⟨by simpa using hg, hB⟩⟩
      · have hst := get_step hcl hx (by omega)
        have hact : decide (((x.toNat : Nat) : Int) = 1) = (c[56]? == some 1) := by
          rw [hx]
          by_cases h : x = 1
          · subst h; rfl
          · have : ¬ (((x.toNat : Nat) : Int) = 1) := by
              intro h'
              apply h
              apply UInt8.toNat.inj
              have h1 : x.toNat = 1 := by omega
              rw [h1]; rfl
            rw [decide_eq_false this]
            simp [h]
        refine byCode ?_
        (refine KL.v rfl (Val.loadP rfl rfl bySee) ?_)
        (first | (refine KL.v rfl (Val.isT (Val.neqBs rfl rfl) byLt) ?_) | (refine KL.v rfl (Val.isF (Val.neqBs rfl rfl) byLt) ?_) | (refine KL.v rfl (Val.neqBs rfl rfl) ?_) | (refine KL.v rfl (Val.isT (Val.neqS rfl rfl) byLt) ?_) | (refine KL.v rfl (Val.isF (Val.neqS rfl rfl) byLt) ?_) | (refine KL.v rfl (Val.neqS rfl rfl) ?_))
        refine KL.nil ?_
        refine byCode ?_
        refine K.block ?_
        refine byCode ?_
        (refine KL.v rfl (Val.loadP rfl rfl bySee) ?_)
        (refine KL.v rfl (Val.lenB rfl rfl) ?_)
        (first | (refine KL.v rfl (Val.isT (Val.lss rfl rfl) byLt) ?_) | (refine KL.v rfl (Val.isF (Val.lss rfl rfl) byLt) ?_) | (refine KL.v rfl (Val.lss rfl rfl) ?_))
        (refine KL.v rfl (Val.move rfl) ?_)
        (first | refine KL.skipG rfl rfl rfl ?_ | refine KL.skipU rfl rfl rfl ?_ | (refine KL.yes rfl rfl ?_; refine KL.v rfl (Val.loadP rfl rfl bySee) ?_))
        (first | refine KL.skipG rfl rfl rfl ?_ | refine KL.skipU rfl rfl rfl ?_ | (refine KL.yes rfl rfl ?_; refine KL.v rfl (Val.idxB rfl rfl rfl (by assumption)) ?_) | (refine KL.yes rfl rfl ?_; refine KL.v rfl (Val.idxBZ rfl rfl rfl (by omega) (by assumption)) ?_))
        (first | refine KL.skipG rfl rfl rfl ?_ | refine KL.skipU rfl rfl rfl ?_ | (refine KL.yes rfl rfl ?_; refine KL.v rfl (Val.isT (Val.gtr rfl rfl) byLt) ?_) | (refine KL.yes rfl rfl ?_; refine KL.v rfl (Val.isF (Val.gtr rfl rfl) byLt) ?_) | (refine KL.yes rfl rfl ?_; refine KL.v rfl (Val.gtr rfl rfl) ?_))
        (first | (refine KL.v rfl (Val.pickT rfl rfl rfl) ?_) | (refine KL.v rfl (Val.pickF rfl rfl rfl) ?_) | (refine KL.v rfl (Val.pickB rfl rfl rfl) ?_))
        refine KL.nil ?_
        refine byCode ?_
        (refine KL.v rfl (Val.makeFunc byEvL byEvL) ?_)
        (refine KL.v rfl (Val.assign rfl) ?_)
        refine KL.nil ?_
        refine KE.next ?_
        refine K.cut (σ := Nat) (fun b4 => [(4, .pointer (some ⟨b4, 0, none⟩)), (0, fv), (1, .pointer (some ⟨b, 0, none⟩))]) (fun b4 => (b4, cells (scell (oneS c)) 46) :: (A ++ ((b, cells [.string (strB c)] 9) :: F))) (fun _ => True) ?_ ?_
        · refine byCodeD ?_
          (first | refine K.seq (K.drawn _ [(0, 1), (3, 1), (5, 1), (7, 1), (10, 1), (13, 1), (16, 1), (19, 1), (20, 1), (21, 1), (1, 3), (2, 1), (4, 3), (6, 3), (8, 3), (9, 1), (11, 3), (12, 1), (14, 3), (15, 1), (17, 3), (18, 1), (22, 1), (23, 2), (24, 2)] (by kernel_rfl) (by kernel_rfl) (by kernel_rfl) (by kernel_rfl) (by kernel_rfl) (by kernel_rfl) Part.all ?_) | refine K.seq (K.seq (K.drawn _ [(0, 1), (3, 1), (5, 1), (7, 1), (10, 1), (13, 1), (16, 1), (19, 1), (20, 1), (21, 1), (1, 3), (2, 1), (4, 3), (6, 3), (8, 3), (9, 1), (11, 3), (12, 1), (14, 3), (15, 1), (17, 3), (18, 1), (22, 1), (23, 2), (24, 2)] (by kernel_rfl) (by kernel_rfl) (by kernel_rfl) (by kernel_rfl) (by kernel_rfl) (by kernel_rfl) Part.all ?_)) | refine K.drawn _ [(0, 1), (3, 1), (5, 1), (7, 1), (10, 1), (13, 1), (16, 1), (19, 1), (20, 1), (21, 1), (1, 3), (2, 1), (4, 3), (6, 3), (8, 3), (9, 1), (11, 3), (12, 1), (14, 3), (15, 1), (17, 3), (18, 1), (22, 1), (23, 2), (24, 2)] (by kernel_rfl) (by kernel_rfl) (by kernel_rfl) (by kernel_rfl) (by kernel_rfl) (by kernel_rfl) Part.all ?_)
          refine KD.v1 rfl rfl (Val.move rfl) ?_
          refine KD.v1 rfl rfl (Val.move rfl) ?_
          refine KD.v1 rfl rfl (Val.move rfl) ?_
          refine KD.v1 rfl rfl (Val.move rfl) ?_
          refine KD.v1 rfl rfl (Val.move rfl) ?_
          refine KD.v1 rfl rfl (Val.move rfl) ?_
          refine KD.v1 rfl rfl (Val.move rfl) ?_
          refine KD.v1 rfl rfl (Val.loadP rfl rfl bySee) ?_
          (first | refine KD.v1 rfl rfl (Val.idxB rfl rfl rfl (by assumption)) ?_ | refine KD.v1 rfl rfl (Val.idxBZ rfl rfl rfl (by omega) (by assumption)) ?_)
          (first | refine KD.v1 rfl rfl (Val.isT (Val.eql rfl rfl) byLt) ?_ | refine KD.v1 rfl rfl (Val.isF (Val.eql rfl rfl) byLt) ?_ | refine KD.v1 rfl rfl (Val.eql rfl rfl) ?_)
          -- FORK at region 4: [(1, 3), (2, 1), (4, 3), (6, 3), (8, 3), (9, 1), (11, 3), (12, 1), (14, 3), (15, 1), (17, 3), (18, 1), (22, 1), (23, 2), (24, 2)]
          refine KD.fork2 (x := 1) (y := 23) (o1 := [(2, 1), (4, 3), (6, 3), (8, 3), (9, 1), (11, 3), (12, 1), (14, 3), (15, 1), (17, 3), (18, 1), (22, 1), (23, 2), (24, 2)]) (o2 := [(1, 2), (2, 1), (4, 2), (6, 2), (8, 2), (9, 1), (11, 2), (12, 1), (14, 2), (15, 1), (17, 2), (18, 0), (22, 0), (24, 2)]) (by kernel_rfl) rfl rfl (by kernel_rfl) (by kernel_rfl) ?_ ?_
          · refine ActK.callc rfl rfl byEvL fun T hT => ?_
            refine (CallV.part (CallV.clo (cap := [.pointer (some ⟨b, 0, none⟩)]) (At_K (c := c) (i := 0) rfl (by omega) (by omega))) byPart).mono ?_
            rintro _ _ ⟨rfl, rfl⟩
            refine hT _ _ byPart ?_; clear hT; clear T
            (first | refine KD.v1 rfl rfl (Val.conv rfl rfl rfl (by simp only [Go.Proofs.Ytdkanfjpdnjhcaa.lo, Go.Proofs.Ytdkanfjpdnjhcaa.hi]; omega)) ?_ | refine KD.v1 rfl rfl (Val.convW rfl rfl rfl) ?_)
            -- FORK at region 4: [(4, 3), (6, 3), (8, 3), (9, 1), (11, 3), (12, 1), (14, 3), (15, 1), (17, 3), (18, 1), (22, 1), (23, 2), (24, 2)]
            refine KD.fork2 (x := 4) (y := 23) (o1 := [(6, 3), (8, 3), (9, 1), (11, 3), (12, 1), (14, 3), (15, 1), (17, 3), (18, 1), (22, 1), (23, 2), (24, 2)]) (o2 := [(4, 2), (6, 2), (8, 2), (9, 1), (11, 2), (12, 1), (14, 2), (15, 1), (17, 2), (18, 0), (22, 0), (24, 2)]) (by kernel_rfl) rfl rfl (by kernel_rfl) (by kernel_rfl) ?_ ?_
            · refine ActK.callc rfl rfl byEvL fun T hT => ?_
              refine (CallV.part (CallV.clo (cap := [.pointer (some ⟨b, 0, none⟩)]) (At_K (c := c) (i := 1) rfl (by omega) (by omega))) byPart).mono ?_
              rintro _ _ ⟨rfl, rfl⟩
              refine hT _ _ byPart ?_; clear hT; clear T
              -- FORK at region 4: [(6, 3), (8, 3), (9, 1), (11, 3), (12, 1), (14, 3), (15, 1), (17, 3), (18, 1), (22, 1), (23, 2), (24, 2)]
              refine KD.fork2 (x := 6) (y := 23) (o1 := [(8, 3), (9, 1), (11, 3), (12, 1), (14, 3), (15, 1), (17, 3), (18, 1), (22, 1), (23, 2), (24, 2)]) (o2 := [(6, 2), (8, 2), (9, 1), (11, 2), (12, 1), (14, 2), (15, 1), (17, 2), (18, 0), (22, 0), (24, 2)]) (by kernel_rfl) rfl rfl (by kernel_rfl) (by kernel_rfl) ?_ ?_
              · refine ActK.callc rfl rfl byEvL fun T hT => ?_
                refine (CallV.part (CallV.clo (cap := [.pointer (some ⟨b, 0, none⟩)]) (At_K (c := c) (i := 2) rfl (by omega) (by omega))) byPart).mono ?_
                rintro _ _ ⟨rfl, rfl⟩
                refine hT _ _ byPart ?_; clear hT; clear T
                -- FORK at region 4: [(8, 3), (9, 1), (11, 3), (12, 1), (14, 3), (15, 1), (17, 3), (18, 1), (22, 1), (23, 2), (24, 2)]
                refine KD.fork2 (x := 8) (y := 23) (o1 := [(9, 1), (11, 3), (12, 1), (14, 3), (15, 1), (17, 3), (18, 1), (22, 1), (23, 2), (24, 2)]) (o2 := [(8, 2), (9, 1), (11, 2), (12, 1), (14, 2), (15, 1), (17, 2), (18, 0), (22, 0), (24, 2)]) (by kernel_rfl) rfl rfl (by kernel_rfl) (by kernel_rfl) ?_ ?_
                · refine ActK.callc rfl rfl byEvL fun T hT => ?_
                  refine (CallV.part (CallV.clo (cap := [.pointer (some ⟨b, 0, none⟩)]) (At_K (c := c) (i := 3) rfl (by omega) (by omega))) byPart).mono ?_
                  rintro _ _ ⟨rfl, rfl⟩
                  refine hT _ _ byPart ?_; clear hT; clear T
                  (first | refine KD.v1 rfl rfl (Val.conv rfl rfl rfl (by simp only [Go.Proofs.Ytdkanfjpdnjhcaa.lo, Go.Proofs.Ytdkanfjpdnjhcaa.hi]; omega)) ?_ | refine KD.v1 rfl rfl (Val.convW rfl rfl rfl) ?_)
                  -- FORK at region 4: [(11, 3), (12, 1), (14, 3), (15, 1), (17, 3), (18, 1), (22, 1), (23, 2), (24, 2)]
                  refine KD.fork2 (x := 11) (y := 23) (o1 := [(12, 1), (14, 3), (15, 1), (17, 3), (18, 1), (22, 1), (23, 2), (24, 2)]) (o2 := [(11, 2), (12, 1), (14, 2), (15, 1), (17, 2), (18, 0), (22, 0), (24, 2)]) (by kernel_rfl) rfl rfl (by kernel_rfl) (by kernel_rfl) ?_ ?_
                  · refine ActK.callc rfl rfl byEvL fun T hT => ?_
                    refine (CallV.part (CallV.clo (cap := [.pointer (some ⟨b, 0, none⟩)]) (At_K (c := c) (i := 4) rfl (by omega) (by omega))) byPart).mono ?_
                    rintro _ _ ⟨rfl, rfl⟩
                    refine hT _ _ byPart ?_; clear hT; clear T
                    (first | refine KD.v1 rfl rfl (Val.conv rfl rfl rfl (by simp only [Go.Proofs.Ytdkanfjpdnjhcaa.lo, Go.Proofs.Ytdkanfjpdnjhcaa.hi]; omega)) ?_ | refine KD.v1 rfl rfl (Val.convW rfl rfl rfl) ?_)
                    -- FORK at region 4: [(14, 3), (15, 1), (17, 3), (18, 1), (22, 1), (23, 2), (24, 2)]
                    refine KD.fork2 (x := 14) (y := 23) (o1 := [(15, 1), (17, 3), (18, 1), (22, 1), (23, 2), (24, 2)]) (o2 := [(14, 2), (15, 1), (17, 2), (18, 0), (22, 0), (24, 2)]) (by kernel_rfl) rfl rfl (by kernel_rfl) (by kernel_rfl) ?_ ?_
                    · refine ActK.callc rfl rfl byEvL fun T hT => ?_
                      refine (CallV.part (CallV.clo (cap := [.pointer (some ⟨b, 0, none⟩)]) (At_K (c := c) (i := 5) rfl (by omega) (by omega))) byPart).mono ?_
                      rintro _ _ ⟨rfl, rfl⟩
                      refine hT _ _ byPart ?_; clear hT; clear T
                      (first | refine KD.v1 rfl rfl (Val.conv rfl rfl rfl (by simp only [Go.Proofs.Ytdkanfjpdnjhcaa.lo, Go.Proofs.Ytdkanfjpdnjhcaa.hi]; omega)) ?_ | refine KD.v1 rfl rfl (Val.convW rfl rfl rfl) ?_)
                      -- FORK at region 4: [(17, 3), (18, 1), (22, 1), (23, 2), (24, 2)]
                      refine KD.fork2 (x := 17) (y := 23) (o1 := [(18, 1), (22, 1), (23, 2), (24, 2)]) (o2 := [(17, 2), (18, 0), (22, 0), (24, 2)]) (by kernel_rfl) rfl rfl (by kernel_rfl) (by kernel_rfl) ?_ ?_
                      · refine ActK.callc rfl rfl byEvL fun T hT => ?_
                        refine (CallV.part (CallV.clo (cap := [.pointer (some ⟨b, 0, none⟩)]) (At_K (c := c) (i := 6) rfl (by omega) (by omega))) byPart).mono ?_
                        rintro _ _ ⟨rfl, rfl⟩
                        refine hT _ _ byPart ?_; clear hT; clear T
                        (first | refine KD.v1 rfl rfl (Val.conv rfl rfl rfl (by simp only [Go.Proofs.Ytdkanfjpdnjhcaa.lo, Go.Proofs.Ytdkanfjpdnjhcaa.hi]; omega)) ?_ | refine KD.v1 rfl rfl (Val.convW rfl rfl rfl) ?_)
                        refine KD.v1 rfl rfl (Val.build byParts rfl rfl byFill) ?_
                        (refine KD.e rfl rfl (Eff.alloc rfl) ?_; rintro _ _ ⟨b4, rfl, rfl⟩; refine ⟨byPart, ?_⟩)
                        (first | (refine KD.eN rfl (Eff.storeAL rfl rfl rfl byTake byLay byOnes) ?_; rintro _ _ rfl; refine ⟨byPart, ?_⟩) | (refine KD.eN rfl (Eff.stSlA rfl rfl rfl rfl byTakeL (by assumption) (by assumption)) ?_; rintro _ _ rfl; refine ⟨byPart, ?_⟩))
                        refine KD.nil ?_
                        rw [hact]
                        refine byCode ?_
                        exact KE.meet b4 bySub byPart trivial
                      · (refine ActK.e rfl (Eff.alloc rfl) ?_; rintro _ _ ⟨b4, rfl, rfl⟩; refine ⟨byPart, ?_⟩)
                        refine KD.callc rfl rfl rfl byEvL fun T hT => ?_
                        refine (CallV.part (CallV.clo (cap := [.pointer (some ⟨b, 0, none⟩)]) (At_K (c := c) (i := 6) rfl (by omega) (by omega))) byPart).mono ?_
                        rintro _ _ ⟨rfl, rfl⟩
                        refine hT _ _ byPart ?_; clear hT; clear T
                        (first | refine KD.v0 rfl rfl (Val.conv rfl rfl rfl (by simp only [Go.Proofs.Ytdkanfjpdnjhcaa.lo, Go.Proofs.Ytdkanfjpdnjhcaa.hi]; omega)) ?_ | refine KD.v0 rfl rfl (Val.convW rfl rfl rfl) ?_)
                        refine KD.v0 rfl rfl (Val.build byParts rfl rfl byFill) ?_
                        (first | (refine KD.eN rfl (Eff.storeAL rfl rfl rfl byTake byLay byOnes) ?_; rintro _ _ rfl; refine ⟨byPart, ?_⟩) | (refine KD.eN rfl (Eff.stSlA rfl rfl rfl rfl byTakeL (by assumption) (by assumption)) ?_; rintro _ _ rfl; refine ⟨byPart, ?_⟩))
                        refine KD.nil ?_
                        rw [hact]
                        refine byCode ?_
                        exact KE.meet b4 bySub byPart trivial
                    · (refine ActK.e rfl (Eff.alloc rfl) ?_; rintro _ _ ⟨b4, rfl, rfl⟩; refine ⟨byPart, ?_⟩)
                      refine KD.callc rfl rfl rfl byEvL fun T hT => ?_
                      refine (CallV.part (CallV.clo (cap := [.pointer (some ⟨b, 0, none⟩)]) (At_K (c := c) (i := 5) rfl (by omega) (by omega))) byPart).mono ?_
                      rintro _ _ ⟨rfl, rfl⟩
                      refine hT _ _ byPart ?_; clear hT; clear T
                      (first | refine KD.v1 rfl rfl (Val.conv rfl rfl rfl (by simp only [Go.Proofs.Ytdkanfjpdnjhcaa.lo, Go.Proofs.Ytdkanfjpdnjhcaa.hi]; omega)) ?_ | refine KD.v1 rfl rfl (Val.convW rfl rfl rfl) ?_)
                      refine KD.callc rfl rfl rfl byEvL fun T hT => ?_
                      refine (CallV.part (CallV.clo (cap := [.pointer (some ⟨b, 0, none⟩)]) (At_K (c := c) (i := 6) rfl (by omega) (by omega))) byPart).mono ?_
                      rintro _ _ ⟨rfl, rfl⟩
                      refine hT _ _ byPart ?_; clear hT; clear T
                      (first | refine KD.v0 rfl rfl (Val.conv rfl rfl rfl (by simp only [Go.Proofs.Ytdkanfjpdnjhcaa.lo, Go.Proofs.Ytdkanfjpdnjhcaa.hi]; omega)) ?_ | refine KD.v0 rfl rfl (Val.convW rfl rfl rfl) ?_)
                      refine KD.v0 rfl rfl (Val.build byParts rfl rfl byFill) ?_
                      (first | (refine KD.eN rfl (Eff.storeAL rfl rfl rfl byTake byLay byOnes) ?_; rintro _ _ rfl; refine ⟨byPart, ?_⟩) | (refine KD.eN rfl (Eff.stSlA rfl rfl rfl rfl byTakeL (by assumption) (by assumption)) ?_; rintro _ _ rfl; refine ⟨byPart, ?_⟩))
                      refine KD.nil ?_
                      rw [hact]
                      refine byCode ?_
                      exact KE.meet b4 bySub byPart trivial
                  · (refine ActK.e rfl (Eff.alloc rfl) ?_; rintro _ _ ⟨b4, rfl, rfl⟩; refine ⟨byPart, ?_⟩)
                    refine KD.callc rfl rfl rfl byEvL fun T hT => ?_
                    refine (CallV.part (CallV.clo (cap := [.pointer (some ⟨b, 0, none⟩)]) (At_K (c := c) (i := 4) rfl (by omega) (by omega))) byPart).mono ?_
                    rintro _ _ ⟨rfl, rfl⟩
                    refine hT _ _ byPart ?_; clear hT; clear T
                    (first | refine KD.v1 rfl rfl (Val.conv rfl rfl rfl (by simp only [Go.Proofs.Ytdkanfjpdnjhcaa.lo, Go.Proofs.Ytdkanfjpdnjhcaa.hi]; omega)) ?_ | refine KD.v1 rfl rfl (Val.convW rfl rfl rfl) ?_)
                    refine KD.callc rfl rfl rfl byEvL fun T hT => ?_
                    refine (CallV.part (CallV.clo (cap := [.pointer (some ⟨b, 0, none⟩)]) (At_K (c := c) (i := 5) rfl (by omega) (by omega))) byPart).mono ?_
                    rintro _ _ ⟨rfl, rfl⟩
                    refine hT _ _ byPart ?_; clear hT; clear T
                    (first | refine KD.v1 rfl rfl (Val.conv rfl rfl rfl (by simp only [Go.Proofs.Ytdkanfjpdnjhcaa.lo, Go.Proofs.Ytdkanfjpdnjhcaa.hi]; omega)) ?_ | refine KD.v1 rfl rfl (Val.convW rfl rfl rfl) ?_)
                    refine KD.callc rfl rfl rfl byEvL fun T hT => ?_
                    refine (CallV.part (CallV.clo (cap := [.pointer (some ⟨b, 0, none⟩)]) (At_K (c := c) (i := 6) rfl (by omega) (by omega))) byPart).mono ?_
                    rintro _ _ ⟨rfl, rfl⟩
                    refine hT _ _ byPart ?_; clear hT; clear T
                    (first | refine KD.v0 rfl rfl (Val.conv rfl rfl rfl (by simp only [Go.Proofs.Ytdkanfjpdnjhcaa.lo, Go.Proofs.Ytdkanfjpdnjhcaa.hi]; omega)) ?_ | refine KD.v0 rfl rfl (Val.convW rfl rfl rfl) ?_)
                    refine KD.v0 rfl rfl (Val.build byParts rfl rfl byFill) ?_
                    (first | (refine KD.eN rfl (Eff.storeAL rfl rfl rfl byTake byLay byOnes) ?_; rintro _ _ rfl; refine ⟨byPart, ?_⟩) | (refine KD.eN rfl (Eff.stSlA rfl rfl rfl rfl byTakeL (by assumption) (by assumption)) ?_; rintro _ _ rfl; refine ⟨byPart, ?_⟩))
                    refine KD.nil ?_
                    rw [hact]
                    refine byCode ?_
                    exact KE.meet b4 bySub byPart trivial
                · (refine ActK.e rfl (Eff.alloc rfl) ?_; rintro _ _ ⟨b4, rfl, rfl⟩; refine ⟨byPart, ?_⟩)
                  refine KD.callc rfl rfl rfl byEvL fun T hT => ?_
                  refine (CallV.part (CallV.clo (cap := [.pointer (some ⟨b, 0, none⟩)]) (At_K (c := c) (i := 3) rfl (by omega) (by omega))) byPart).mono ?_
                  rintro _ _ ⟨rfl, rfl⟩
                  refine hT _ _ byPart ?_; clear hT; clear T
                  (first | refine KD.v1 rfl rfl (Val.conv rfl rfl rfl (by simp only [Go.Proofs.Ytdkanfjpdnjhcaa.lo, Go.Proofs.Ytdkanfjpdnjhcaa.hi]; omega)) ?_ | refine KD.v1 rfl rfl (Val.convW rfl rfl rfl) ?_)
                  refine KD.callc rfl rfl rfl byEvL fun T hT => ?_
                  refine (CallV.part (CallV.clo (cap := [.pointer (some ⟨b, 0, none⟩)]) (At_K (c := c) (i := 4) rfl (by omega) (by omega))) byPart).mono ?_
                  rintro _ _ ⟨rfl, rfl⟩
                  refine hT _ _ byPart ?_; clear hT; clear T
                  (first | refine KD.v1 rfl rfl (Val.conv rfl rfl rfl (by simp only [Go.Proofs.Ytdkanfjpdnjhcaa.lo, Go.Proofs.Ytdkanfjpdnjhcaa.hi]; omega)) ?_ | refine KD.v1 rfl rfl (Val.convW rfl rfl rfl) ?_)
                  refine KD.callc rfl rfl rfl byEvL fun T hT => ?_
                  refine (CallV.part (CallV.clo (cap := [.pointer (some ⟨b, 0, none⟩)]) (At_K (c := c) (i := 5) rfl (by omega) (by omega))) byPart).mono ?_
                  rintro _ _ ⟨rfl, rfl⟩
                  refine hT _ _ byPart ?_; clear hT; clear T
                  (first | refine KD.v1 rfl rfl (Val.conv rfl rfl rfl (by simp only [Go.Proofs.Ytdkanfjpdnjhcaa.lo, Go.Proofs.Ytdkanfjpdnjhcaa.hi]; omega)) ?_ | refine KD.v1 rfl rfl (Val.convW rfl rfl rfl) ?_)
                  refine KD.callc rfl rfl rfl byEvL fun T hT => ?_
                  refine (CallV.part (CallV.clo (cap := [.pointer (some ⟨b, 0, none⟩)]) (At_K (c := c) (i := 6) rfl (by omega) (by omega))) byPart).mono ?_
                  rintro _ _ ⟨rfl, rfl⟩
                  refine hT _ _ byPart ?_; clear hT; clear T
                  (first | refine KD.v0 rfl rfl (Val.conv rfl rfl rfl (by simp only [Go.Proofs.Ytdkanfjpdnjhcaa.lo, Go.Proofs.Ytdkanfjpdnjhcaa.hi]; omega)) ?_ | refine KD.v0 rfl rfl (Val.convW rfl rfl rfl) ?_)
                  refine KD.v0 rfl rfl (Val.build byParts rfl rfl byFill) ?_
                  (first | (refine KD.eN rfl (Eff.storeAL rfl rfl rfl byTake byLay byOnes) ?_; rintro _ _ rfl; refine ⟨byPart, ?_⟩) | (refine KD.eN rfl (Eff.stSlA rfl rfl rfl rfl byTakeL (by assumption) (by assumption)) ?_; rintro _ _ rfl; refine ⟨byPart, ?_⟩))
                  refine KD.nil ?_
                  rw [hact]
                  refine byCode ?_
                  exact KE.meet b4 bySub byPart trivial
              · (refine ActK.e rfl (Eff.alloc rfl) ?_; rintro _ _ ⟨b4, rfl, rfl⟩; refine ⟨byPart, ?_⟩)
                refine KD.callc rfl rfl rfl byEvL fun T hT => ?_
                refine (CallV.part (CallV.clo (cap := [.pointer (some ⟨b, 0, none⟩)]) (At_K (c := c) (i := 2) rfl (by omega) (by omega))) byPart).mono ?_
                rintro _ _ ⟨rfl, rfl⟩
                refine hT _ _ byPart ?_; clear hT; clear T
                refine KD.callc rfl rfl rfl byEvL fun T hT => ?_
                refine (CallV.part (CallV.clo (cap := [.pointer (some ⟨b, 0, none⟩)]) (At_K (c := c) (i := 3) rfl (by omega) (by omega))) byPart).mono ?_
                rintro _ _ ⟨rfl, rfl⟩
                refine hT _ _ byPart ?_; clear hT; clear T
                (first | refine KD.v1 rfl rfl (Val.conv rfl rfl rfl (by simp only [Go.Proofs.Ytdkanfjpdnjhcaa.lo, Go.Proofs.Ytdkanfjpdnjhcaa.hi]; omega)) ?_ | refine KD.v1 rfl rfl (Val.convW rfl rfl rfl) ?_)
                refine KD.callc rfl rfl rfl byEvL fun T hT => ?_
                refine (CallV.part (CallV.clo (cap := [.pointer (some ⟨b, 0, none⟩)]) (At_K (c := c) (i := 4) rfl (by omega) (by omega))) byPart).mono ?_
                rintro _ _ ⟨rfl, rfl⟩
                refine hT _ _ byPart ?_; clear hT; clear T
                (first | refine KD.v1 rfl rfl (Val.conv rfl rfl rfl (by simp only [Go.Proofs.Ytdkanfjpdnjhcaa.lo, Go.Proofs.Ytdkanfjpdnjhcaa.hi]; omega)) ?_ | refine KD.v1 rfl rfl (Val.convW rfl rfl rfl) ?_)
                refine KD.callc rfl rfl rfl byEvL fun T hT => ?_
                refine (CallV.part (CallV.clo (cap := [.pointer (some ⟨b, 0, none⟩)]) (At_K (c := c) (i := 5) rfl (by omega) (by omega))) byPart).mono ?_
                rintro _ _ ⟨rfl, rfl⟩
                refine hT _ _ byPart ?_; clear hT; clear T
                (first | refine KD.v1 rfl rfl (Val.conv rfl rfl rfl (by simp only [Go.Proofs.Ytdkanfjpdnjhcaa.lo, Go.Proofs.Ytdkanfjpdnjhcaa.hi]; omega)) ?_ | refine KD.v1 rfl rfl (Val.convW rfl rfl rfl) ?_)
                refine KD.callc rfl rfl rfl byEvL fun T hT => ?_
                refine (CallV.part (CallV.clo (cap := [.pointer (some ⟨b, 0, none⟩)]) (At_K (c := c) (i := 6) rfl (by omega) (by omega))) byPart).mono ?_
                rintro _ _ ⟨rfl, rfl⟩
                refine hT _ _ byPart ?_; clear hT; clear T
                (first | refine KD.v0 rfl rfl (Val.conv rfl rfl rfl (by simp only [Go.Proofs.Ytdkanfjpdnjhcaa.lo, Go.Proofs.Ytdkanfjpdnjhcaa.hi]; omega)) ?_ | refine KD.v0 rfl rfl (Val.convW rfl rfl rfl) ?_)
                refine KD.v0 rfl rfl (Val.build byParts rfl rfl byFill) ?_
                (first | (refine KD.eN rfl (Eff.storeAL rfl rfl rfl byTake byLay byOnes) ?_; rintro _ _ rfl; refine ⟨byPart, ?_⟩) | (refine KD.eN rfl (Eff.stSlA rfl rfl rfl rfl byTakeL (by assumption) (by assumption)) ?_; rintro _ _ rfl; refine ⟨byPart, ?_⟩))
                refine KD.nil ?_
                rw [hact]
                refine byCode ?_
                exact KE.meet b4 bySub byPart trivial
            · (refine ActK.e rfl (Eff.alloc rfl) ?_; rintro _ _ ⟨b4, rfl, rfl⟩; refine ⟨byPart, ?_⟩)
              refine KD.callc rfl rfl rfl byEvL fun T hT => ?_
              refine (CallV.part (CallV.clo (cap := [.pointer (some ⟨b, 0, none⟩)]) (At_K (c := c) (i := 1) rfl (by omega) (by omega))) byPart).mono ?_
              rintro _ _ ⟨rfl, rfl⟩
              refine hT _ _ byPart ?_; clear hT; clear T
              refine KD.callc rfl rfl rfl byEvL fun T hT => ?_
              refine (CallV.part (CallV.clo (cap := [.pointer (some ⟨b, 0, none⟩)]) (At_K (c := c) (i := 2) rfl (by omega) (by omega))) byPart).mono ?_
              rintro _ _ ⟨rfl, rfl⟩
              refine hT _ _ byPart ?_; clear hT; clear T
              refine KD.callc rfl rfl rfl byEvL fun T hT => ?_
              refine (CallV.part (CallV.clo (cap := [.pointer (some ⟨b, 0, none⟩)]) (At_K (c := c) (i := 3) rfl (by omega) (by omega))) byPart).mono ?_
              rintro _ _ ⟨rfl, rfl⟩
              refine hT _ _ byPart ?_; clear hT; clear T
              (first | refine KD.v1 rfl rfl (Val.conv rfl rfl rfl (by simp only [Go.Proofs.Ytdkanfjpdnjhcaa.lo, Go.Proofs.Ytdkanfjpdnjhcaa.hi]; omega)) ?_ | refine KD.v1 rfl rfl (Val.convW rfl rfl rfl) ?_)
              refine KD.callc rfl rfl rfl byEvL fun T hT => ?_
              refine (CallV.part (CallV.clo (cap := [.pointer (some ⟨b, 0, none⟩)]) (At_K (c := c) (i := 4) rfl (by omega) (by omega))) byPart).mono ?_
              rintro _ _ ⟨rfl, rfl⟩
              refine hT _ _ byPart ?_; clear hT; clear T
              (first | refine KD.v1 rfl rfl (Val.conv rfl rfl rfl (by simp only [Go.Proofs.Ytdkanfjpdnjhcaa.lo, Go.Proofs.Ytdkanfjpdnjhcaa.hi]; omega)) ?_ | refine KD.v1 rfl rfl (Val.convW rfl rfl rfl) ?_)
              refine KD.callc rfl rfl rfl byEvL fun T hT => ?_
              refine (CallV.part (CallV.clo (cap := [.pointer (some ⟨b, 0, none⟩)]) (At_K (c := c) (i := 5) rfl (by omega) (by omega))) byPart).mono ?_
              rintro _ _ ⟨rfl, rfl⟩
              refine hT _ _ byPart ?_; clear hT; clear T
              (first | refine KD.v1 rfl rfl (Val.conv rfl rfl rfl (by simp only [Go.Proofs.Ytdkanfjpdnjhcaa.lo, Go.Proofs.Ytdkanfjpdnjhcaa.hi]; omega)) ?_ | refine KD.v1 rfl rfl (Val.convW rfl rfl rfl) ?_)
              refine KD.callc rfl rfl rfl byEvL fun T hT => ?_
              refine (CallV.part (CallV.clo (cap := [.pointer (some ⟨b, 0, none⟩)]) (At_K (c := c) (i := 6) rfl (by omega) (by omega))) byPart).mono ?_
              rintro _ _ ⟨rfl, rfl⟩
              refine hT _ _ byPart ?_; clear hT; clear T
              (first | refine KD.v0 rfl rfl (Val.conv rfl rfl rfl (by simp only [Go.Proofs.Ytdkanfjpdnjhcaa.lo, Go.Proofs.Ytdkanfjpdnjhcaa.hi]; omega)) ?_ | refine KD.v0 rfl rfl (Val.convW rfl rfl rfl) ?_)
              refine KD.v0 rfl rfl (Val.build byParts rfl rfl byFill) ?_
              (first | (refine KD.eN rfl (Eff.storeAL rfl rfl rfl byTake byLay byOnes) ?_; rintro _ _ rfl; refine ⟨byPart, ?_⟩) | (refine KD.eN rfl (Eff.stSlA rfl rfl rfl rfl byTakeL (by assumption) (by assumption)) ?_; rintro _ _ rfl; refine ⟨byPart, ?_⟩))
              refine KD.nil ?_
              rw [hact]
              refine byCode ?_
              exact KE.meet b4 bySub byPart trivial
          · (refine ActK.e rfl (Eff.alloc rfl) ?_; rintro _ _ ⟨b4, rfl, rfl⟩; refine ⟨byPart, ?_⟩)
            refine KD.callc rfl rfl rfl byEvL fun T hT => ?_
            refine (CallV.part (CallV.clo (cap := [.pointer (some ⟨b, 0, none⟩)]) (At_K (c := c) (i := 0) rfl (by omega) (by omega))) byPart).mono ?_
            rintro _ _ ⟨rfl, rfl⟩
            refine hT _ _ byPart ?_; clear hT; clear T
            (first | refine KD.v1 rfl rfl (Val.conv rfl rfl rfl (by simp only [Go.Proofs.Ytdkanfjpdnjhcaa.lo, Go.Proofs.Ytdkanfjpdnjhcaa.hi]; omega)) ?_ | refine KD.v1 rfl rfl (Val.convW rfl rfl rfl) ?_)
            refine KD.callc rfl rfl rfl byEvL fun T hT => ?_
            refine (CallV.part (CallV.clo (cap := [.pointer (some ⟨b, 0, none⟩)]) (At_K (c := c) (i := 1) rfl (by omega) (by omega))) byPart).mono ?_
            rintro _ _ ⟨rfl, rfl⟩
            refine hT _ _ byPart ?_; clear hT; clear T
            refine KD.callc rfl rfl rfl byEvL fun T hT => ?_
            refine (CallV.part (CallV.clo (cap := [.pointer (some ⟨b, 0, none⟩)]) (At_K (c := c) (i := 2) rfl (by omega) (by omega))) byPart).mono ?_
            rintro _ _ ⟨rfl, rfl⟩
            refine hT _ _ byPart ?_; clear hT; clear T
            refine KD.callc rfl rfl rfl byEvL fun T hT => ?_
            refine (CallV.part (CallV.clo (cap := [.pointer (some ⟨b, 0, none⟩)]) (At_K (c := c) (i := 3) rfl (by omega) (by omega))) byPart).mono ?_
            rintro _ _ ⟨rfl, rfl⟩
            refine hT _ _ byPart ?_; clear hT; clear T
            (first | refine KD.v1 rfl rfl (Val.conv rfl rfl rfl (by simp only [Go.Proofs.Ytdkanfjpdnjhcaa.lo, Go.Proofs.Ytdkanfjpdnjhcaa.hi]; omega)) ?_ | refine KD.v1 rfl rfl (Val.convW rfl rfl rfl) ?_)
            refine KD.callc rfl rfl rfl byEvL fun T hT => ?_
            refine (CallV.part (CallV.clo (cap := [.pointer (some ⟨b, 0, none⟩)]) (At_K (c := c) (i := 4) rfl (by omega) (by omega))) byPart).mono ?_
            rintro _ _ ⟨rfl, rfl⟩
            refine hT _ _ byPart ?_; clear hT; clear T
            (first | refine KD.v1 rfl rfl (Val.conv rfl rfl rfl (by simp only [Go.Proofs.Ytdkanfjpdnjhcaa.lo, Go.Proofs.Ytdkanfjpdnjhcaa.hi]; omega)) ?_ | refine KD.v1 rfl rfl (Val.convW rfl rfl rfl) ?_)
            refine KD.callc rfl rfl rfl byEvL fun T hT => ?_
            refine (CallV.part (CallV.clo (cap := [.pointer (some ⟨b, 0, none⟩)]) (At_K (c := c) (i := 5) rfl (by omega) (by omega))) byPart).mono ?_
            rintro _ _ ⟨rfl, rfl⟩
            refine hT _ _ byPart ?_; clear hT; clear T
            (first | refine KD.v1 rfl rfl (Val.conv rfl rfl rfl (by simp only [Go.Proofs.Ytdkanfjpdnjhcaa.lo, Go.Proofs.Ytdkanfjpdnjhcaa.hi]; omega)) ?_ | refine KD.v1 rfl rfl (Val.convW rfl rfl rfl) ?_)
            refine KD.callc rfl rfl rfl byEvL fun T hT => ?_
            refine (CallV.part (CallV.clo (cap := [.pointer (some ⟨b, 0, none⟩)]) (At_K (c := c) (i := 6) rfl (by omega) (by omega))) byPart).mono ?_
            rintro _ _ ⟨rfl, rfl⟩
            refine hT _ _ byPart ?_; clear hT; clear T
            (first | refine KD.v0 rfl rfl (Val.conv rfl rfl rfl (by simp only [Go.Proofs.Ytdkanfjpdnjhcaa.lo, Go.Proofs.Ytdkanfjpdnjhcaa.hi]; omega)) ?_ | refine KD.v0 rfl rfl (Val.convW rfl rfl rfl) ?_)
            refine KD.v0 rfl rfl (Val.build byParts rfl rfl byFill) ?_
            (first | (refine KD.eN rfl (Eff.storeAL rfl rfl rfl byTake byLay byOnes) ?_; rintro _ _ rfl; refine ⟨byPart, ?_⟩) | (refine KD.eN rfl (Eff.stSlA rfl rfl rfl rfl byTakeL (by assumption) (by assumption)) ?_; rintro _ _ rfl; refine ⟨byPart, ?_⟩))
            refine KD.nil ?_
            rw [hact]
            refine byCode ?_
            exact KE.meet b4 bySub byPart trivial
        · intro b4 _
          refine byCode ?_
          (refine KL.v rfl (Val.loadP rfl rfl bySee) ?_)
          (first | (refine KL.v rfl (Val.subBL rfl rfl rfl byLt) ?_) | (refine KL.v rfl (Val.subBLZ rfl rfl rfl (by omega)) ?_))
          (first | (refine KL.eN (Eff.storeL rfl rfl byOne rfl byTake bySetAt) ?_; rintro _ _ rfl) | (refine KL.eN (Eff.stSl rfl rfl rfl rfl byTakeL (by assumption) (by assumption) rfl rfl) ?_; rintro _ _ rfl) | (refine KL.eN (Eff.stSl0 rfl rfl rfl rfl byTakeL (by assumption) (by assumption) rfl rfl) ?_; rintro _ _ rfl))
          refine KL.nil ?_
          refine byCode ?_
          (refine KL.v rfl (Val.move rfl) ?_)
          (first | (refine KL.v rfl (Val.loadAP rfl rfl rfl bySeeA) ?_) | (refine KL.v rfl (Val.loadA rfl rfl rfl bySeeN) ?_))
          (refine KL.callc rfl rfl byEvL fun T hT => ?_)
          refine (CallV.part (hy xs A ((b4, cells (scell (oneS c)) 46) :: ((b, cells [.string (strB (c.drop (57 : Int).toNat))] 9) :: F)) (oneS c) hJ (by omega)) byPart).mono ?_
          rintro _ _ ⟨rfl, A', hJ', rfl⟩
          refine hT _ _ ?_; clear hT; clear T
          (first | (refine KL.v rfl (Val.notT rfl) ?_) | (refine KL.v rfl (Val.notF rfl) ?_) | (refine KL.v rfl (Val.not rfl) ?_) | (refine KL.v rfl (Val.notB rfl) ?_))
          refine KL.nil ?_
          refine byCode ?_
          exact KE.again ⟨xs ++ [oneS c], A', c.drop 57⟩ bySub byPart ⟨hJ', by
            show get c0 = (get (c.drop 57)).map ((xs ++ [oneS c]) ++ ·)
            rw [hg, hst]
            cases get (c.drop 57) <;> simp, by show (xs ++ [oneS c]).length * 57 + (c.drop 57).length ≤ _; simp; omega⟩ (by show (c.drop 57).length < c.length; simp; omega)
end Go.Proofs.Ytdkanfjpdnjhcaa
