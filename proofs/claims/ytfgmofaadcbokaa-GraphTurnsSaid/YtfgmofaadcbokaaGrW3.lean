/- Graph: here. -/
import Derived.Test.YtfgmofaadcbokaaGrW2
namespace Go.Proofs.Ytfgmofaadcbokaa
open Go.RowKit
set_option linter.unusedVariables false
set_option linter.unusedSimpArgs false

/-- a slice as an element -/
structure SV where
  a : Option Addr
  n : Nat
  c : Nat
def svE : Enc SV := ⟨fun x => [.slice x.a x.n x.c], 1, fun _ => rfl, by intro x v hv; simp at hv; subst hv; rfl⟩
structure RowsI (w0 : World) (ls : List SV) (rows : List (List Int)) : Prop where
  len : ls.length = rows.length
  row : ∀ (i : Nat) (p : SV) (r : List Int), ls[i]? = some p → rows[i]? = some r → SlW w0 iE (.slice p.a p.n p.c) r

/-- the nodes among some numbers, rising, each once -/
def hereP (n : Nat) (l : List Int) : List Int := ((List.range n).map fun (i : Nat) => (i : Int)).filter fun x => decide (x ∈ l)
theorem hereP_mem {n : Nat} {l : List Int} {x : Int} : x ∈ hereP n l ↔ x ∈ l ∧ 0 ≤ x ∧ x < n := by
  simp only [hereP, List.mem_filter, List.mem_map, List.mem_range, decide_eq_true_eq]
  constructor
  · rintro ⟨⟨i, hi, rfl⟩, h⟩; exact ⟨h, by omega, by omega⟩
  · rintro ⟨h, h0, h1⟩; exact ⟨⟨x.toNat, by omega, by omega⟩, h⟩
theorem hereP_sorted (n : Nat) (l : List Int) : (hereP n l).Pairwise (· < ·) := by
  unfold hereP
  refine List.Pairwise.filter _ ?_
  rw [List.pairwise_map]
  exact List.pairwise_lt_range.imp fun h => by omega

theorem mem_keys {ms : List ME} {x : Int} : x ∈ ms.map (·.k) ↔ mget ms x ≠ none := by
  constructor
  · intro h e
    obtain ⟨e', he, rfl⟩ := List.mem_map.1 h
    exact mget_none.1 e e' he rfl
  · intro h
    apply Classical.byContradiction
    intro h'
    exact h (mget_none.2 fun e he e2 => h' (by rw [← e2]; exact List.mem_map_of_mem he))
theorem mput_len (ms : List ME) (c : Nat) (k : Int) (v : Value) : (mput ms c k v).length ≤ ms.length + 1 := by
  unfold mput
  cases mfind k ms 0 with
  | none => simp
  | some p => simp

structure HS where
  k : Nat
  ms : List ME
  c : Nat
def HereAt (n : Nat) (l : List Int) (k : Nat) (ms : List ME) : Prop := ∀ x, (mget ms x = none ∧ ¬ (x ∈ l.take k ∧ 0 ≤ x ∧ x < n)) ∨ (∃ z : Nat, z ≤ k ∧ mget ms x = some (.int .i64 z) ∧ x ∈ l.take k ∧ 0 ≤ x ∧ x < n)
theorem HereAt.put {n : Nat} {l : List Int} {k z : Nat} {ms : List ME} {c : Nat} {x : Int} (h : HereAt n l k ms) (ok : MOk ms c) (hx : l[k]? = some x) (h0 : 0 ≤ x) (h1 : x < n) (hz : z ≤ k + 1) : HereAt n l (k + 1) (mput ms c x (.int .i64 z)) := by
  intro y
  rw [mget_put ok, take_snoc hx]
  by_cases hy : y = x
  · subst hy
    rw [if_pos rfl]
    exact .inr ⟨z, hz, rfl, by simp, h0, h1⟩
  · rw [if_neg hy]
    rcases h y with ⟨g1, g2⟩ | ⟨z', g1, g2, g3, g4⟩
    · exact .inl ⟨g1, fun g => g2 ⟨by simpa [hy] using g.1, g.2⟩⟩
    · exact .inr ⟨z', by omega, g2, by simp [g3], g4⟩
theorem HereAt.skip {n : Nat} {l : List Int} {k : Nat} {ms : List ME} {x : Int} (h : HereAt n l k ms) (hx : l[k]? = some x) (hn : ¬ (0 ≤ x ∧ x < n)) : HereAt n l (k + 1) ms := by
  intro y
  rw [take_snoc hx]
  rcases h y with ⟨g1, g2⟩ | ⟨z', g1, g2, g3, g4⟩
  · refine .inl ⟨g1, fun g => ?_⟩
    rcases List.mem_append.1 g.1 with g' | g'
    · exact g2 ⟨g', g.2⟩
    · rw [List.mem_singleton.1 g'] at g; exact hn g.2
  · exact .inr ⟨z', by omega, g2, by simp [g3], g4⟩

set_option maxRecDepth 10000 in
set_option maxHeartbeats 1000000 in
theorem here_K {w0 : World} {vg vl : Value} {gs : List SV} {l : List Int} (hG : SlW w0 svE vg gs) (hL : SlW w0 iE vl l) (hl : l.length ≤ 100000) :
    Call Try.prog w0 27 [vg, vl] [] (fun r H' => ∃ o, oOk iE (hereP gs.length l) o ∧ r = oV o (hereP gs.length l).length ∧ H' = oH iE 3 (hereP gs.length l) o) := by
  refine Call.enter (n := 31) [(0, vg), (1, vl)] (by kernel_rfl) Try.func27 rfl rfl rfl ⟨rfl, rfl, trivial⟩ ?_
  refine byCode ?_
  (refine KL.v rfl (Val.assign rfl) ?_)
  refine KL.nil ?_
  refine byCode ?_
  (refine KL.e rfl (Eff.makeMap) ?_; rintro _ _ ⟨b8, rfl, rfl⟩)
  (refine KL.v rfl (Val.assign rfl) ?_)
  refine KL.nil ?_
  refine byCode ?_
  (refine KL.v rfl (Val.move rfl) ?_)
  (first | (refine KL.v rfl (Val.lenSl rfl rfl bySli) ?_) | (refine KL.v rfl (Val.lenS rfl rfl) ?_))
  (refine KL.v rfl (Val.move rfl) ?_)
  refine KL.nil ?_
  refine byBlk ?_
  refine K.loop (σ := HS) (fun s => [(11, .int .i64 (s.k : Nat)), (10, .int .i64 (l.length : Nat)), (9, vl), (5, .map (some b8)), (0, vg), (1, vl)]) (fun s => (b8, mobj s.ms s.c) :: [])
    (fun s => s.k ≤ l.length ∧ MOk s.ms s.c ∧ HereAt gs.length l s.k s.ms ∧ s.ms.length ≤ s.k) (fun s => l.length - s.k) ⟨0, [], 0⟩ bySub byPart ⟨by simp, MOk.nil, fun x => .inl ⟨rfl, by simp⟩, by simp⟩ ?_
  rintro ⟨k, ms, c⟩ ⟨hk, ok, hat, hml⟩
  dsimp only at hk ok hat hml ⊢
  by_cases hlt : k < l.length
  · obtain ⟨x, hx⟩ := get_of_lt hlt
    refine byCode ?_
    (first | (refine KL.v rfl (Val.isT (Val.lss rfl rfl) byLt) ?_) | (refine KL.v rfl (Val.isF (Val.lss rfl rfl) byLt) ?_) | (refine KL.v rfl (Val.lss rfl rfl) ?_))
    refine KL.nil ?_
    refine byCode ?_
    refine K.seq (K.block ?_)
    by_cases h0 : 0 ≤ x
    · by_cases h1 : x < (gs.length : Nat)
      · rcases hat x with ⟨g1, _⟩ | ⟨z, hz, g1, _⟩
        · have hp := hat.put ok hx h0 h1 (z := 1) (by omega)
          have ok' := ok.put x (.int .i64 1)
          have hpl := mput_len ms c x (.int .i64 1)
          refine byCode ?_
          (first | (refine KL.v rfl (Val.idxSl rfl rfl rfl bySli rfl byLt) ?_) | (refine KL.v rfl (Val.idxSlZ rfl rfl rfl bySli rfl (by omega)) ?_) | (refine KL.v rfl (Val.indexS1 rfl rfl rfl rfl (by omega)) ?_) | (refine KL.v rfl (Val.indexS rfl rfl rfl rfl (by omega)) ?_) | (refine KL.v rfl (Val.indexSO rfl rfl rfl rfl (by omega)) ?_) | (refine KL.v rfl (Val.indexSG rfl rfl rfl rfl (by omega)) ?_))
          (refine KL.v rfl (Val.loadP rfl rfl bySee) ?_)
          (refine KL.v rfl (Val.assign rfl) ?_)
          refine KL.nil ?_
          refine byCode ?_
          (refine KL.v rfl (Val.move rfl) ?_)
          (first | (refine KL.v rfl (Val.isT (Val.geq rfl rfl) byLt) ?_) | (refine KL.v rfl (Val.isF (Val.geq rfl rfl) byLt) ?_) | (refine KL.v rfl (Val.geq rfl rfl) ?_))
          (refine KL.v rfl (Val.move rfl) ?_)
          (first | refine KL.skipG rfl rfl rfl ?_ | refine KL.skipU rfl rfl rfl ?_ | (refine KL.yes rfl rfl ?_; refine KL.v rfl (Val.move rfl) ?_))
          (first | refine KL.skipG rfl rfl rfl ?_ | refine KL.skipU rfl rfl rfl ?_ | (refine KL.yes rfl rfl ?_; refine KL.v rfl (Val.move rfl) ?_))
          (first | refine KL.skipG rfl rfl rfl ?_ | refine KL.skipU rfl rfl rfl ?_ | (refine KL.yes rfl rfl ?_; refine KL.v rfl (Val.lenSl rfl rfl bySli) ?_) | (refine KL.yes rfl rfl ?_; refine KL.v rfl (Val.lenS rfl rfl) ?_))
          (first | refine KL.skipG rfl rfl rfl ?_ | refine KL.skipU rfl rfl rfl ?_ | (refine KL.yes rfl rfl ?_; refine KL.v rfl (Val.isT (Val.lss rfl rfl) byLt) ?_) | (refine KL.yes rfl rfl ?_; refine KL.v rfl (Val.isF (Val.lss rfl rfl) byLt) ?_) | (refine KL.yes rfl rfl ?_; refine KL.v rfl (Val.lss rfl rfl) ?_))
          (first | (refine KL.v rfl (Val.pickT rfl rfl rfl) ?_) | (refine KL.v rfl (Val.pickF rfl rfl rfl) ?_) | (refine KL.v rfl (Val.pickB rfl rfl rfl) ?_))
          refine KL.nil ?_
          refine byCode ?_
          (refine KL.v rfl (Val.move rfl) ?_)
          (refine KL.v rfl (Val.move rfl) ?_)
          (first | (refine KL.v rfl (Val.lookS rfl rfl rfl byTake (by assumption)) ?_) | (refine KL.v rfl (Val.look0 rfl rfl rfl rfl byTake (by assumption)) ?_))
          (first | (refine KL.v rfl (Val.add rfl rfl (by simp only [Go.Proofs.Ytfgmofaadcbokaa.lo, Go.Proofs.Ytfgmofaadcbokaa.hi]; omega)) ?_) | (refine KL.v rfl (Val.addW rfl rfl) ?_))
          (refine KL.eN (Eff.mapUp rfl rfl rfl rfl byTake) ?_; rintro _ _ rfl)
          refine KL.nil ?_
          refine byCode ?_
          (first | (refine KL.v rfl (Val.add rfl rfl (by simp only [Go.Proofs.Ytfgmofaadcbokaa.lo, Go.Proofs.Ytfgmofaadcbokaa.hi]; omega)) ?_) | (refine KL.v rfl (Val.addW rfl rfl) ?_))
          (refine KL.v rfl (Val.move rfl) ?_)
          refine KL.nil ?_
          exact KE.again ⟨k + 1, mput ms c x (.int .i64 1), mclk ms c x⟩ bySub byPart ⟨by show k + 1 ≤ _; omega, ok', hp, by show _ ≤ k + 1; dsimp only; omega⟩ (by show l.length - (k + 1) < l.length - k; omega)
        · have hp := hat.put ok hx h0 h1 (z := z + 1) (by omega)
          have ok' := ok.put x (.int .i64 ((z + 1 : Nat) : Int))
          have hpl := mput_len ms c x (.int .i64 ((z + 1 : Nat) : Int))
          refine byCode ?_
          (first | (refine KL.v rfl (Val.idxSl rfl rfl rfl bySli rfl byLt) ?_) | (refine KL.v rfl (Val.idxSlZ rfl rfl rfl bySli rfl (by omega)) ?_) | (refine KL.v rfl (Val.indexS1 rfl rfl rfl rfl (by omega)) ?_) | (refine KL.v rfl (Val.indexS rfl rfl rfl rfl (by omega)) ?_) | (refine KL.v rfl (Val.indexSO rfl rfl rfl rfl (by omega)) ?_) | (refine KL.v rfl (Val.indexSG rfl rfl rfl rfl (by omega)) ?_))
          (refine KL.v rfl (Val.loadP rfl rfl bySee) ?_)
          (refine KL.v rfl (Val.assign rfl) ?_)
          refine KL.nil ?_
          refine byCode ?_
          (refine KL.v rfl (Val.move rfl) ?_)
          (first | (refine KL.v rfl (Val.isT (Val.geq rfl rfl) byLt) ?_) | (refine KL.v rfl (Val.isF (Val.geq rfl rfl) byLt) ?_) | (refine KL.v rfl (Val.geq rfl rfl) ?_))
          (refine KL.v rfl (Val.move rfl) ?_)
          (first | refine KL.skipG rfl rfl rfl ?_ | refine KL.skipU rfl rfl rfl ?_ | (refine KL.yes rfl rfl ?_; refine KL.v rfl (Val.move rfl) ?_))
          (first | refine KL.skipG rfl rfl rfl ?_ | refine KL.skipU rfl rfl rfl ?_ | (refine KL.yes rfl rfl ?_; refine KL.v rfl (Val.move rfl) ?_))
          (first | refine KL.skipG rfl rfl rfl ?_ | refine KL.skipU rfl rfl rfl ?_ | (refine KL.yes rfl rfl ?_; refine KL.v rfl (Val.lenSl rfl rfl bySli) ?_) | (refine KL.yes rfl rfl ?_; refine KL.v rfl (Val.lenS rfl rfl) ?_))
          (first | refine KL.skipG rfl rfl rfl ?_ | refine KL.skipU rfl rfl rfl ?_ | (refine KL.yes rfl rfl ?_; refine KL.v rfl (Val.isT (Val.lss rfl rfl) byLt) ?_) | (refine KL.yes rfl rfl ?_; refine KL.v rfl (Val.isF (Val.lss rfl rfl) byLt) ?_) | (refine KL.yes rfl rfl ?_; refine KL.v rfl (Val.lss rfl rfl) ?_))
          (first | (refine KL.v rfl (Val.pickT rfl rfl rfl) ?_) | (refine KL.v rfl (Val.pickF rfl rfl rfl) ?_) | (refine KL.v rfl (Val.pickB rfl rfl rfl) ?_))
          refine KL.nil ?_
          refine byCode ?_
          (refine KL.v rfl (Val.move rfl) ?_)
          (refine KL.v rfl (Val.move rfl) ?_)
          (first | (refine KL.v rfl (Val.lookS rfl rfl rfl byTake (by assumption)) ?_) | (refine KL.v rfl (Val.look0 rfl rfl rfl rfl byTake (by assumption)) ?_))
          (first | (refine KL.v rfl (Val.add rfl rfl (by simp only [Go.Proofs.Ytfgmofaadcbokaa.lo, Go.Proofs.Ytfgmofaadcbokaa.hi]; omega)) ?_) | (refine KL.v rfl (Val.addW rfl rfl) ?_))
          (refine KL.eN (Eff.mapUp rfl rfl rfl rfl byTake) ?_; rintro _ _ rfl)
          refine KL.nil ?_
          refine byCode ?_
          (first | (refine KL.v rfl (Val.add rfl rfl (by simp only [Go.Proofs.Ytfgmofaadcbokaa.lo, Go.Proofs.Ytfgmofaadcbokaa.hi]; omega)) ?_) | (refine KL.v rfl (Val.addW rfl rfl) ?_))
          (refine KL.v rfl (Val.move rfl) ?_)
          refine KL.nil ?_
          exact KE.again ⟨k + 1, mput ms c x (.int .i64 ((z + 1 : Nat) : Int)), mclk ms c x⟩ bySub byPart ⟨by show k + 1 ≤ _; omega, ok', hp, by show _ ≤ k + 1; dsimp only; omega⟩ (by show l.length - (k + 1) < l.length - k; omega)
      · have hp := hat.skip hx (fun g => h1 g.2)
        refine byCode ?_
        (first | (refine KL.v rfl (Val.idxSl rfl rfl rfl bySli rfl byLt) ?_) | (refine KL.v rfl (Val.idxSlZ rfl rfl rfl bySli rfl (by omega)) ?_) | (refine KL.v rfl (Val.indexS1 rfl rfl rfl rfl (by omega)) ?_) | (refine KL.v rfl (Val.indexS rfl rfl rfl rfl (by omega)) ?_) | (refine KL.v rfl (Val.indexSO rfl rfl rfl rfl (by omega)) ?_) | (refine KL.v rfl (Val.indexSG rfl rfl rfl rfl (by omega)) ?_))
        (refine KL.v rfl (Val.loadP rfl rfl bySee) ?_)
        (refine KL.v rfl (Val.assign rfl) ?_)
        refine KL.nil ?_
        refine byCode ?_
        (refine KL.v rfl (Val.move rfl) ?_)
        (first | (refine KL.v rfl (Val.isT (Val.geq rfl rfl) byLt) ?_) | (refine KL.v rfl (Val.isF (Val.geq rfl rfl) byLt) ?_) | (refine KL.v rfl (Val.geq rfl rfl) ?_))
        (refine KL.v rfl (Val.move rfl) ?_)
        (first | refine KL.skipG rfl rfl rfl ?_ | refine KL.skipU rfl rfl rfl ?_ | (refine KL.yes rfl rfl ?_; refine KL.v rfl (Val.move rfl) ?_))
        (first | refine KL.skipG rfl rfl rfl ?_ | refine KL.skipU rfl rfl rfl ?_ | (refine KL.yes rfl rfl ?_; refine KL.v rfl (Val.move rfl) ?_))
        (first | refine KL.skipG rfl rfl rfl ?_ | refine KL.skipU rfl rfl rfl ?_ | (refine KL.yes rfl rfl ?_; refine KL.v rfl (Val.lenSl rfl rfl bySli) ?_) | (refine KL.yes rfl rfl ?_; refine KL.v rfl (Val.lenS rfl rfl) ?_))
        (first | refine KL.skipG rfl rfl rfl ?_ | refine KL.skipU rfl rfl rfl ?_ | (refine KL.yes rfl rfl ?_; refine KL.v rfl (Val.isT (Val.lss rfl rfl) byLt) ?_) | (refine KL.yes rfl rfl ?_; refine KL.v rfl (Val.isF (Val.lss rfl rfl) byLt) ?_) | (refine KL.yes rfl rfl ?_; refine KL.v rfl (Val.lss rfl rfl) ?_))
        (first | (refine KL.v rfl (Val.pickT rfl rfl rfl) ?_) | (refine KL.v rfl (Val.pickF rfl rfl rfl) ?_) | (refine KL.v rfl (Val.pickB rfl rfl rfl) ?_))
        refine KL.nil ?_
        refine byCode ?_
        (first | (refine KL.v rfl (Val.add rfl rfl (by simp only [Go.Proofs.Ytfgmofaadcbokaa.lo, Go.Proofs.Ytfgmofaadcbokaa.hi]; omega)) ?_) | (refine KL.v rfl (Val.addW rfl rfl) ?_))
        (refine KL.v rfl (Val.move rfl) ?_)
        refine KL.nil ?_
        exact KE.again ⟨k + 1, ms, c⟩ bySub byPart ⟨by show k + 1 ≤ _; omega, ok, hp, by show ms.length ≤ k + 1; omega⟩ (by show l.length - (k + 1) < l.length - k; omega)
    · have hp := hat.skip hx (fun g => h0 g.1)
      refine byCode ?_
      (first | (refine KL.v rfl (Val.idxSl rfl rfl rfl bySli rfl byLt) ?_) | (refine KL.v rfl (Val.idxSlZ rfl rfl rfl bySli rfl (by omega)) ?_) | (refine KL.v rfl (Val.indexS1 rfl rfl rfl rfl (by omega)) ?_) | (refine KL.v rfl (Val.indexS rfl rfl rfl rfl (by omega)) ?_) | (refine KL.v rfl (Val.indexSO rfl rfl rfl rfl (by omega)) ?_) | (refine KL.v rfl (Val.indexSG rfl rfl rfl rfl (by omega)) ?_))
      (refine KL.v rfl (Val.loadP rfl rfl bySee) ?_)
      (refine KL.v rfl (Val.assign rfl) ?_)
      refine KL.nil ?_
      refine byCode ?_
      (refine KL.v rfl (Val.move rfl) ?_)
      (first | (refine KL.v rfl (Val.isT (Val.geq rfl rfl) byLt) ?_) | (refine KL.v rfl (Val.isF (Val.geq rfl rfl) byLt) ?_) | (refine KL.v rfl (Val.geq rfl rfl) ?_))
      (refine KL.v rfl (Val.move rfl) ?_)
      (first | refine KL.skipG rfl rfl rfl ?_ | refine KL.skipU rfl rfl rfl ?_ | (refine KL.yes rfl rfl ?_; refine KL.v rfl (Val.move rfl) ?_))
      (first | refine KL.skipG rfl rfl rfl ?_ | refine KL.skipU rfl rfl rfl ?_ | (refine KL.yes rfl rfl ?_; refine KL.v rfl (Val.move rfl) ?_))
      (first | refine KL.skipG rfl rfl rfl ?_ | refine KL.skipU rfl rfl rfl ?_ | (refine KL.yes rfl rfl ?_; refine KL.v rfl (Val.lenSl rfl rfl bySli) ?_) | (refine KL.yes rfl rfl ?_; refine KL.v rfl (Val.lenS rfl rfl) ?_))
      (first | refine KL.skipG rfl rfl rfl ?_ | refine KL.skipU rfl rfl rfl ?_ | (refine KL.yes rfl rfl ?_; refine KL.v rfl (Val.isT (Val.lss rfl rfl) byLt) ?_) | (refine KL.yes rfl rfl ?_; refine KL.v rfl (Val.isF (Val.lss rfl rfl) byLt) ?_) | (refine KL.yes rfl rfl ?_; refine KL.v rfl (Val.lss rfl rfl) ?_))
      (first | (refine KL.v rfl (Val.pickT rfl rfl rfl) ?_) | (refine KL.v rfl (Val.pickF rfl rfl rfl) ?_) | (refine KL.v rfl (Val.pickB rfl rfl rfl) ?_))
      refine KL.nil ?_
      refine byCode ?_
      (first | (refine KL.v rfl (Val.add rfl rfl (by simp only [Go.Proofs.Ytfgmofaadcbokaa.lo, Go.Proofs.Ytfgmofaadcbokaa.hi]; omega)) ?_) | (refine KL.v rfl (Val.addW rfl rfl) ?_))
      (refine KL.v rfl (Val.move rfl) ?_)
      refine KL.nil ?_
      exact KE.again ⟨k + 1, ms, c⟩ bySub byPart ⟨by show k + 1 ≤ _; omega, ok, hp, by show ms.length ≤ k + 1; omega⟩ (by show l.length - (k + 1) < l.length - k; omega)
  · have hke : l.take k = l := List.take_of_length_le (by omega)
    refine byCode ?_
    (first | (refine KL.v rfl (Val.isT (Val.lss rfl rfl) byLt) ?_) | (refine KL.v rfl (Val.isF (Val.lss rfl rfl) byLt) ?_) | (refine KL.v rfl (Val.lss rfl rfl) ?_))
    refine KL.nil ?_
    refine byCode ?_
    (refine KL.v rfl (Val.move rfl) ?_)
    (refine KL.callc rfl rfl byEvL fun T hT => ?_)
    refine (CallV.fn (Keys_K rfl)).mono ?_
    rintro _ _ ⟨b1, rfl, rfl⟩
    refine hT _ _ ?_; clear hT; clear T
    (refine KL.callc rfl rfl byEvL fun T hT => ?_)
    refine (CallV.fn (Sorted_K ok (by omega))).mono ?_
    rintro _ _ ⟨ks, o, hks, hs, oks, rfl, rfl⟩
    refine hT _ _ ?_; clear hT; clear T
    have hkk : ks = hereP gs.length l := sorted_ext hs (hereP_sorted _ _) fun x => by
      rw [hks.1 x, mem_keys, hereP_mem]
      rcases hat x with ⟨g1, g2⟩ | ⟨z', g1, g2, g3⟩
      · rw [hke] at g2
        exact ⟨fun h => absurd g1 h, fun h => absurd h g2⟩
      · rw [hke] at g3
        exact ⟨fun _ => g3, fun _ => by rw [g2]; simp⟩
    subst hkk
    (refine KL.v rfl (Val.assign rfl) ?_)
    refine KL.nil ?_
    refine byCode ?_
    exact KE.fin byMarks rfl byRes byPart ⟨o, oks, rfl, rfl⟩
end Go.Proofs.Ytfgmofaadcbokaa
