/- Trace: tenants and their parts. -/
import Derived.Test.YtdkanfjpdnjhcaaTrW2
import Derived.Test.YtdkanfjpdnjhcaaKLib
namespace Go.Proofs.Ytdkanfjpdnjhcaa
open Go.RowKit
set_option linter.unusedVariables false
set_option linter.unusedSimpArgs false

structure Wat where
  t : Int
  s : Seen
  deriving DecidableEq
def wcell (x : Wat) : List Value := [.int .i64 x.t, .int .i64 x.s.e, .int .u64 x.s.h, .int .u64 x.s.w, .int .i64 x.s.addr, .int .i64 x.s.used, .int .i64 x.s.since, .int .i64 x.s.cycles, .bool x.s.active]
def wE : Enc Wat := ⟨wcell, 9, fun _ => rfl, by intro x v hv; simp [wcell] at hv; rcases hv with rfl | rfl | rfl | rfl | rfl | rfl | rfl | rfl | rfl <;> rfl⟩
def weqB (x y : Wat) : Bool := decide (x.t = y.t) && (seqB x.s y.s && true)
theorem weqB_iff (x y : Wat) : weqB x y = true ↔ x = y := by
  obtain ⟨t, s⟩ := x
  obtain ⟨t', s'⟩ := y
  simp [weqB, seqB_iff]
theorem weqB_ne {x y : Wat} (h : x ≠ y) : weqB x y = false := by
  cases hb : weqB x y with
  | false => rfl
  | true => exact absurd ((weqB_iff x y).1 hb) h

def ofP (l : List Wat) (t : Int) : List Seen := (l.filter fun x => decide (x.t = t)).map (·.s)

set_option maxRecDepth 10000 in
theorem Of1_K {w0 : World} {H : Heap} {b : Nat} {t : Int} (x : Wat) (hc : w0.cell? ⟨b, 0, none⟩ = some (.int .i64 t)) :
    Call Try.prog w0 32 [.agg (wcell x).toArray, .pointer (some ⟨b, 0, none⟩)] H (fun r H' => r = .tuple #[.agg (scell x.s).toArray, .bool (decide (x.t = t))] ∧ H' = H) := by
  refine Call.enter (n := 11) [(0, .agg (wcell x).toArray), (1, .pointer (some ⟨b, 0, none⟩))] (by kernel_rfl) Try.func32 rfl rfl rfl ⟨rfl, rfl, trivial⟩ ?_
  refine byCode ?_
  (refine KL.e rfl (Eff.box rfl rfl) ?_; rintro _ _ ⟨b2, rfl, rfl⟩)
  (refine KL.e rfl (Eff.alloc rfl) ?_; rintro _ _ ⟨b3, rfl, rfl⟩)
  (refine KL.v rfl (Val.assign rfl) ?_)
  refine KL.nil ?_
  refine byCodeD ?_
  (first | refine K.seq (K.drawn ((b2, cells (wcell x) 48) :: H) [(0, 0), (1, 0), (2, 1), (3, 1), (4, 1), (5, 1), (6, 2), (7, 0)] (by kernel_rfl) (by kernel_rfl) (by kernel_rfl) (by kernel_rfl) (by kernel_rfl) (by kernel_rfl) byPart ?_) | refine K.seq (K.seq (K.drawn ((b2, cells (wcell x) 48) :: H) [(0, 0), (1, 0), (2, 1), (3, 1), (4, 1), (5, 1), (6, 2), (7, 0)] (by kernel_rfl) (by kernel_rfl) (by kernel_rfl) (by kernel_rfl) (by kernel_rfl) (by kernel_rfl) byPart ?_)) | refine K.drawn ((b2, cells (wcell x) 48) :: H) [(0, 0), (1, 0), (2, 1), (3, 1), (4, 1), (5, 1), (6, 2), (7, 0)] (by kernel_rfl) (by kernel_rfl) (by kernel_rfl) (by kernel_rfl) (by kernel_rfl) (by kernel_rfl) byPart ?_)
  (first | refine KD.v0 rfl rfl (Val.fieldSl rfl rfl) ?_ | refine KD.v0 rfl rfl (Val.fieldAddr0 rfl rfl) ?_ | refine KD.v0 rfl rfl (Val.fieldAddrZ rfl rfl) ?_ | refine KD.v0 rfl rfl (Val.fieldAddr rfl rfl) ?_)
  (first | refine KD.v0 rfl rfl (Val.loadAP rfl rfl rfl bySeeA) ?_ | refine KD.v0 rfl rfl (Val.loadA rfl rfl rfl bySeeN) ?_)
  (first | refine KD.v1 rfl rfl (Val.fieldSl rfl rfl) ?_ | refine KD.v1 rfl rfl (Val.fieldAddr0 rfl rfl) ?_ | refine KD.v1 rfl rfl (Val.fieldAddrZ rfl rfl) ?_ | refine KD.v1 rfl rfl (Val.fieldAddr rfl rfl) ?_)
  refine KD.v1 rfl rfl (Val.loadP rfl rfl bySee) ?_
  refine KD.v1 rfl rfl (Val.loadP rfl rfl bySee) ?_
  (first | refine KD.v1 rfl rfl (Val.isT (Val.eql rfl rfl) byLt) ?_ | refine KD.v1 rfl rfl (Val.isF (Val.eql rfl rfl) byLt) ?_ | refine KD.v1 rfl rfl (Val.eql rfl rfl) ?_)
  (first | (refine KD.eN rfl (Eff.storeAL rfl rfl rfl byTake byLay byOnes) ?_; rintro _ _ rfl; refine ⟨byPart, ?_⟩) | (refine KD.eN rfl (Eff.stSlA rfl rfl rfl rfl byTakeL (by assumption) (by assumption)) ?_; rintro _ _ rfl; refine ⟨byPart, ?_⟩))
  refine KD.v0 rfl rfl (Val.assign rfl) ?_
  refine KD.nil ?_
  refine byCode ?_
  exact KE.fin byMarks rfl byRes byPart ⟨rfl, rfl⟩

set_option maxRecDepth 10000 in
theorem Tenants1_K {w0 : World} {H : Heap} (x : Wat) :
    Call Try.prog w0 28 [.agg (wcell x).toArray] H (fun r H' => r = .tuple #[.int .i64 x.t, .bool true] ∧ H' = H) := by
  refine Call.enter (n := 6) [(0, .agg (wcell x).toArray)] (by kernel_rfl) Try.func28 rfl rfl rfl ⟨rfl, trivial⟩ ?_
  refine byCode ?_
  (refine KL.e rfl (Eff.box rfl rfl) ?_; rintro _ _ ⟨b1, rfl, rfl⟩)
  (refine KL.v rfl (Val.assign rfl) ?_)
  (refine KL.v rfl (Val.assign rfl) ?_)
  refine KL.nil ?_
  refine byCode ?_
  (first | (refine KL.v rfl (Val.fieldSl rfl rfl) ?_) | (refine KL.v rfl (Val.fieldAddr0 rfl rfl) ?_) | (refine KL.v rfl (Val.fieldAddrZ rfl rfl) ?_) | (refine KL.v rfl (Val.fieldAddr rfl rfl) ?_))
  (refine KL.v rfl (Val.loadP rfl rfl bySee) ?_)
  (refine KL.v rfl (Val.assign rfl) ?_)
  (refine KL.v rfl (Val.assign rfl) ?_)
  refine KL.nil ?_
  refine byCode ?_
  exact KE.fin byMarks rfl byRes byPart ⟨rfl, rfl⟩

theorem filter_snoc {α β : Type} (p : α → Bool) (f : α → β) {l : List α} {k : Nat} {x : α} (h : l[k]? = some x) : ((l.take (k + 1)).filter p).map f = ((l.take k).filter p).map f ++ (if p x then [f x] else []) := by
  rw [take_snoc h, List.filter_append, List.map_append]
  cases hp : p x <;> simp [hp]
theorem filter_len {α β : Type} (p : α → Bool) (f : α → β) (l : List α) (k : Nat) : (((l.take k).filter p).map f).length ≤ k := by
  rw [List.length_map]
  exact Nat.le_trans (List.length_filter_le _ _) (by simp; omega)

set_option maxRecDepth 10000 in
theorem pickedI_K {w0 : World} {v fv : Value} {l : List Wat} (hS : SlW w0 wE v l) (hl : l.length ≤ 100000) (p : Wat → Bool) (f : Wat → Int)
    (hp : ∀ H x, CallV Try.prog w0 fv [.agg (wcell x).toArray] H (fun r H' => r = .tuple #[.int .i64 (f x), .bool (p x)] ∧ H' = H)) :
    Call Try.prog w0 27 [v, fv] [] (fun r H' => ∃ o, oOk iE ((l.filter p).map f) o ∧ r = oV o ((l.filter p).map f).length ∧ H' = oH iE 3 ((l.filter p).map f) o) := by
  refine Call.enter (n := 29) [(0, v), (1, fv)] (by kernel_rfl) Try.func27 rfl rfl rfl ⟨rfl, rfl, trivial⟩ ?_
  refine byCode ?_
  (refine KL.v rfl (Val.assign rfl) ?_)
  refine KL.nil ?_
  refine byCode ?_
  (refine KL.v rfl (Val.assign rfl) ?_)
  refine KL.nil ?_
  refine byCode ?_
  (refine KL.v rfl (Val.move rfl) ?_)
  (first | (refine KL.v rfl (Val.lenSl rfl rfl bySli) ?_) | (refine KL.v rfl (Val.lenS rfl rfl) ?_))
  (refine KL.v rfl (Val.move rfl) ?_)
  refine KL.nil ?_
  refine byBlk ?_
  refine K.loop (σ := Nat × Own) (fun s => [(12, .int .i64 (s.1 : Nat)), (11, .int .i64 (l.length : Nat)), (10, v), (1, fv), (5, oV s.2 (((l.take s.1).filter p).map f).length)]) (fun s => oH iE 3 (((l.take s.1).filter p).map f) s.2 ++ [])
    (fun s => s.1 ≤ l.length ∧ oOk iE (((l.take s.1).filter p).map f) s.2) (fun s => l.length - s.1) (0, none) bySub byPart ⟨by simp, rfl⟩ ?_
  rintro ⟨k, o⟩ ⟨hk, ok⟩
  dsimp only at hk ok ⊢
  by_cases hlt : k < l.length
  · obtain ⟨x, hx⟩ := get_of_lt hlt
    have hsn := filter_snoc p f hx
    have hfl := filter_len p f l (k + 1)
    have hfl2 : (((l.take (k + 1)).filter p).map f).length ≤ 4294967296 := by omega
    refine byCode ?_
    (first | (refine KL.v rfl (Val.isT (Val.lss rfl rfl) byLt) ?_) | (refine KL.v rfl (Val.isF (Val.lss rfl rfl) byLt) ?_) | (refine KL.v rfl (Val.lss rfl rfl) ?_))
    refine KL.nil ?_
    refine byCode ?_
    refine K.seq (K.block ?_)
    refine byCode ?_
    (first | (refine KL.v rfl (Val.idxSl rfl rfl rfl bySli rfl byLt) ?_) | (refine KL.v rfl (Val.idxSlZ rfl rfl rfl bySli rfl (by omega)) ?_) | (refine KL.v rfl (Val.indexS1 rfl rfl rfl rfl (by omega)) ?_) | (refine KL.v rfl (Val.indexS rfl rfl rfl rfl (by omega)) ?_) | (refine KL.v rfl (Val.indexSO rfl rfl rfl rfl (by omega)) ?_) | (refine KL.v rfl (Val.indexSG rfl rfl rfl rfl (by omega)) ?_))
    (first | (refine KL.v rfl (Val.loadAP rfl rfl rfl bySeeA) ?_) | (refine KL.v rfl (Val.loadA rfl rfl rfl bySeeN) ?_))
    (refine KL.e rfl (Eff.alloc rfl) ?_; rintro _ _ ⟨b7, rfl, rfl⟩)
    (first | (refine KL.eN (Eff.storeAL rfl rfl rfl byTake byLay byOnes) ?_; rintro _ _ rfl) | (refine KL.eN (Eff.stSlA rfl rfl rfl rfl byTakeL (by assumption) (by assumption)) ?_; rintro _ _ rfl))
    refine KL.nil ?_
    refine byCode ?_
    (refine KL.v rfl (Val.move rfl) ?_)
    (first | (refine KL.v rfl (Val.loadAP rfl rfl rfl bySeeA) ?_) | (refine KL.v rfl (Val.loadA rfl rfl rfl bySeeN) ?_))
    (refine KL.callc rfl rfl byEvL fun T hT => ?_)
    refine (hp _ x).mono ?_
    rintro _ _ ⟨rfl, rfl⟩
    refine hT _ _ ?_; clear hT; clear T
    cases hpx : p x with
    | true =>
      rw [hpx] at hsn
      (refine KL.v rfl (Val.move rfl) ?_)
      (refine KL.v rfl (Val.extract rfl rfl) ?_)
      (refine KL.v rfl (Val.extract rfl rfl) ?_)
      (refine KL.v rfl (Val.assign rfl) ?_)
      (refine KL.v rfl (Val.assign rfl) ?_)
      refine KL.nil ?_
      refine byCode ?_
      (refine KL.v rfl (Val.move rfl) ?_)
      refine KL.nil ?_
      refine byCode ?_
      (refine KL.v rfl (Val.move rfl) ?_)
      (refine KL.v rfl (Val.move rfl) ?_)
      (refine KL.e rfl (Eff.buildS byParts rfl rfl rfl rfl rfl byFill) ?_; rintro _ _ ⟨b25, rfl, rfl⟩)
      -- STOP at region 7 op 3: {"h": "Op.call", "a": [{"callee": {"h": "Callee.builtin", "a": ["Builtin.append"]}, "args": [{"h": "Operand.tmp", "a": [23]}, {"h": "Operand.tmp", "a": [25]}], "argTypes": [33, 33]}]}
      (refine KL.e rfl (Eff.appZ (E := iE) (xs := ((l.take k).filter p).map f) (o := o) (ys := [f x]) (zs := ((l.take (k + 1)).filter p).map f) rfl rfl rfl rfl rfl rfl byTakeL (by assumption) (by first | exact Sli.blk byTake rfl (by first | decide | simp) (by first | decide | (unfold maxLen; omega)) rfl | exact Sli.old (by assumption) | exact Sli.own byTakeL (by assumption) byLen | assumption | exact Sli.part (by assumption) byPart) (hsn.symm) (by first | assumption | omega | (simp <;> fail) | (simp; omega)) rfl) ?_; rintro _ _ ⟨o', ok', rfl, rfl⟩)
      (refine KL.v rfl (Val.assign rfl) ?_)
      refine KL.nil ?_
      refine byCode ?_
      (first | (refine KL.v rfl (Val.add rfl rfl (by simp only [Go.Proofs.Ytdkanfjpdnjhcaa.lo, Go.Proofs.Ytdkanfjpdnjhcaa.hi]; omega)) ?_) | (refine KL.v rfl (Val.addW rfl rfl) ?_))
      (refine KL.v rfl (Val.move rfl) ?_)
      refine KL.nil ?_
      exact KE.again (k + 1, o') bySub byPart ⟨by show k + 1 ≤ _; omega, ok'⟩ (by show l.length - (k + 1) < l.length - k; omega)
    | false =>
      rw [hpx] at hsn
      have hsn' : ((l.take k).filter p).map f = ((l.take (k + 1)).filter p).map f := by rw [hsn]; simp
      rw [hsn'] at ok ⊢
      (refine KL.v rfl (Val.move rfl) ?_)
      (refine KL.v rfl (Val.extract rfl rfl) ?_)
      (refine KL.v rfl (Val.extract rfl rfl) ?_)
      (refine KL.v rfl (Val.assign rfl) ?_)
      (refine KL.v rfl (Val.assign rfl) ?_)
      refine KL.nil ?_
      refine byCode ?_
      (refine KL.v rfl (Val.move rfl) ?_)
      refine KL.nil ?_
      refine byCode ?_
      (first | (refine KL.v rfl (Val.add rfl rfl (by simp only [Go.Proofs.Ytdkanfjpdnjhcaa.lo, Go.Proofs.Ytdkanfjpdnjhcaa.hi]; omega)) ?_) | (refine KL.v rfl (Val.addW rfl rfl) ?_))
      (refine KL.v rfl (Val.move rfl) ?_)
      refine KL.nil ?_
      exact KE.again (k + 1, o) bySub byPart ⟨by show k + 1 ≤ _; omega, ok⟩ (by show l.length - (k + 1) < l.length - k; omega)
  · have : k = l.length := by omega
    subst this
    rw [List.take_length] at ok ⊢
    refine byCode ?_
    (first | (refine KL.v rfl (Val.isT (Val.lss rfl rfl) byLt) ?_) | (refine KL.v rfl (Val.isF (Val.lss rfl rfl) byLt) ?_) | (refine KL.v rfl (Val.lss rfl rfl) ?_))
    refine KL.nil ?_
    refine byCode ?_
    (refine KL.v rfl (Val.move rfl) ?_)
    (refine KL.v rfl (Val.assign rfl) ?_)
    refine KL.nil ?_
    refine byCode ?_
    exact KE.fin byMarks rfl byRes byPart ⟨o, ok, rfl, rfl⟩

set_option maxRecDepth 10000 in
theorem pickedS_K {w0 : World} {v fv : Value} {l : List Wat} (hS : SlW w0 wE v l) (hl : l.length ≤ 100000) (p : Wat → Bool) (f : Wat → Seen)
    (hp : ∀ H x, CallV Try.prog w0 fv [.agg (wcell x).toArray] H (fun r H' => r = .tuple #[.agg (scell (f x)).toArray, .bool (p x)] ∧ H' = H)) :
    Call Try.prog w0 31 [v, fv] [] (fun r H' => ∃ o, oOk sE ((l.filter p).map f) o ∧ r = oV o ((l.filter p).map f).length ∧ H' = oH sE 46 ((l.filter p).map f) o) := by
  refine Call.enter (n := 29) [(0, v), (1, fv)] (by kernel_rfl) Try.func31 rfl rfl rfl ⟨rfl, rfl, trivial⟩ ?_
  refine byCode ?_
  (refine KL.v rfl (Val.assign rfl) ?_)
  refine KL.nil ?_
  refine byCode ?_
  (refine KL.v rfl (Val.assign rfl) ?_)
  refine KL.nil ?_
  refine byCode ?_
  (refine KL.v rfl (Val.move rfl) ?_)
  (first | (refine KL.v rfl (Val.lenSl rfl rfl bySli) ?_) | (refine KL.v rfl (Val.lenS rfl rfl) ?_))
  (refine KL.v rfl (Val.move rfl) ?_)
  refine KL.nil ?_
  refine byBlk ?_
  refine K.loop (σ := Nat × Own) (fun s => [(12, .int .i64 (s.1 : Nat)), (11, .int .i64 (l.length : Nat)), (10, v), (1, fv), (5, oV s.2 (((l.take s.1).filter p).map f).length)]) (fun s => oH sE 46 (((l.take s.1).filter p).map f) s.2 ++ [])
    (fun s => s.1 ≤ l.length ∧ oOk sE (((l.take s.1).filter p).map f) s.2) (fun s => l.length - s.1) (0, none) bySub byPart ⟨by simp, rfl⟩ ?_
  rintro ⟨k, o⟩ ⟨hk, ok⟩
  dsimp only at hk ok ⊢
  by_cases hlt : k < l.length
  · obtain ⟨x, hx⟩ := get_of_lt hlt
    have hsn := filter_snoc p f hx
    have hfl := filter_len p f l (k + 1)
    have hfl2 : (((l.take (k + 1)).filter p).map f).length ≤ 4294967296 := by omega
    refine byCode ?_
    (first | (refine KL.v rfl (Val.isT (Val.lss rfl rfl) byLt) ?_) | (refine KL.v rfl (Val.isF (Val.lss rfl rfl) byLt) ?_) | (refine KL.v rfl (Val.lss rfl rfl) ?_))
    refine KL.nil ?_
    refine byCode ?_
    refine K.seq (K.block ?_)
    refine byCode ?_
    (first | (refine KL.v rfl (Val.idxSl rfl rfl rfl bySli rfl byLt) ?_) | (refine KL.v rfl (Val.idxSlZ rfl rfl rfl bySli rfl (by omega)) ?_) | (refine KL.v rfl (Val.indexS1 rfl rfl rfl rfl (by omega)) ?_) | (refine KL.v rfl (Val.indexS rfl rfl rfl rfl (by omega)) ?_) | (refine KL.v rfl (Val.indexSO rfl rfl rfl rfl (by omega)) ?_) | (refine KL.v rfl (Val.indexSG rfl rfl rfl rfl (by omega)) ?_))
    (first | (refine KL.v rfl (Val.loadAP rfl rfl rfl bySeeA) ?_) | (refine KL.v rfl (Val.loadA rfl rfl rfl bySeeN) ?_))
    (refine KL.e rfl (Eff.alloc rfl) ?_; rintro _ _ ⟨b7, rfl, rfl⟩)
    (first | (refine KL.eN (Eff.storeAL rfl rfl rfl byTake byLay byOnes) ?_; rintro _ _ rfl) | (refine KL.eN (Eff.stSlA rfl rfl rfl rfl byTakeL (by assumption) (by assumption)) ?_; rintro _ _ rfl))
    refine KL.nil ?_
    refine byCode ?_
    (refine KL.v rfl (Val.move rfl) ?_)
    (first | (refine KL.v rfl (Val.loadAP rfl rfl rfl bySeeA) ?_) | (refine KL.v rfl (Val.loadA rfl rfl rfl bySeeN) ?_))
    (refine KL.callc rfl rfl byEvL fun T hT => ?_)
    refine (hp _ x).mono ?_
    rintro _ _ ⟨rfl, rfl⟩
    refine hT _ _ ?_; clear hT; clear T
    cases hpx : p x with
    | true =>
      rw [hpx] at hsn
      (refine KL.v rfl (Val.move rfl) ?_)
      (refine KL.v rfl (Val.extract rfl rfl) ?_)
      (refine KL.v rfl (Val.extract rfl rfl) ?_)
      (refine KL.e rfl (Eff.alloc rfl) ?_; rintro _ _ ⟨b8, rfl, rfl⟩)
      (first | (refine KL.eN (Eff.storeAL rfl rfl rfl byTake byLay byOnes) ?_; rintro _ _ rfl) | (refine KL.eN (Eff.stSlA rfl rfl rfl rfl byTakeL (by assumption) (by assumption)) ?_; rintro _ _ rfl))
      (refine KL.v rfl (Val.assign rfl) ?_)
      refine KL.nil ?_
      refine byCode ?_
      (refine KL.v rfl (Val.move rfl) ?_)
      refine KL.nil ?_
      refine byCode ?_
      (refine KL.v rfl (Val.move rfl) ?_)
      (first | (refine KL.v rfl (Val.loadAP rfl rfl rfl bySeeA) ?_) | (refine KL.v rfl (Val.loadA rfl rfl rfl bySeeN) ?_))
      (refine KL.e rfl (Eff.buildS byParts rfl rfl rfl rfl rfl byFill) ?_; rintro _ _ ⟨b25, rfl, rfl⟩)
      -- STOP at region 7 op 3: {"h": "Op.call", "a": [{"callee": {"h": "Callee.builtin", "a": ["Builtin.append"]}, "args": [{"h": "Operand.tmp", "a": [23]}, {"h": "Operand.tmp", "a": [25]}], "argTypes": [22, 22]}]}
      (refine KL.e rfl (Eff.appZ (E := sE) (xs := ((l.take k).filter p).map f) (o := o) (ys := [f x]) (zs := ((l.take (k + 1)).filter p).map f) rfl rfl rfl rfl rfl rfl byTakeL (by assumption) (by first | exact Sli.blk byTake rfl (by first | decide | simp) (by first | decide | (unfold maxLen; omega)) rfl | exact Sli.old (by assumption) | exact Sli.own byTakeL (by assumption) byLen | assumption | exact Sli.part (by assumption) byPart) (hsn.symm) (by first | assumption | omega | (simp <;> fail) | (simp; omega)) rfl) ?_; rintro _ _ ⟨o', ok', rfl, rfl⟩)
      (refine KL.v rfl (Val.assign rfl) ?_)
      refine KL.nil ?_
      refine byCode ?_
      (first | (refine KL.v rfl (Val.add rfl rfl (by simp only [Go.Proofs.Ytdkanfjpdnjhcaa.lo, Go.Proofs.Ytdkanfjpdnjhcaa.hi]; omega)) ?_) | (refine KL.v rfl (Val.addW rfl rfl) ?_))
      (refine KL.v rfl (Val.move rfl) ?_)
      refine KL.nil ?_
      exact KE.again (k + 1, o') bySub byPart ⟨by show k + 1 ≤ _; omega, ok'⟩ (by show l.length - (k + 1) < l.length - k; omega)
    | false =>
      rw [hpx] at hsn
      have hsn' : ((l.take k).filter p).map f = ((l.take (k + 1)).filter p).map f := by rw [hsn]; simp
      rw [hsn'] at ok ⊢
      (refine KL.v rfl (Val.move rfl) ?_)
      (refine KL.v rfl (Val.extract rfl rfl) ?_)
      (refine KL.v rfl (Val.extract rfl rfl) ?_)
      (refine KL.e rfl (Eff.alloc rfl) ?_; rintro _ _ ⟨b8, rfl, rfl⟩)
      (first | (refine KL.eN (Eff.storeAL rfl rfl rfl byTake byLay byOnes) ?_; rintro _ _ rfl) | (refine KL.eN (Eff.stSlA rfl rfl rfl rfl byTakeL (by assumption) (by assumption)) ?_; rintro _ _ rfl))
      (refine KL.v rfl (Val.assign rfl) ?_)
      refine KL.nil ?_
      refine byCode ?_
      (refine KL.v rfl (Val.move rfl) ?_)
      refine KL.nil ?_
      refine byCode ?_
      (first | (refine KL.v rfl (Val.add rfl rfl (by simp only [Go.Proofs.Ytdkanfjpdnjhcaa.lo, Go.Proofs.Ytdkanfjpdnjhcaa.hi]; omega)) ?_) | (refine KL.v rfl (Val.addW rfl rfl) ?_))
      (refine KL.v rfl (Val.move rfl) ?_)
      refine KL.nil ?_
      exact KE.again (k + 1, o) bySub byPart ⟨by show k + 1 ≤ _; omega, ok⟩ (by show l.length - (k + 1) < l.length - k; omega)
  · have : k = l.length := by omega
    subst this
    rw [List.take_length] at ok ⊢
    refine byCode ?_
    (first | (refine KL.v rfl (Val.isT (Val.lss rfl rfl) byLt) ?_) | (refine KL.v rfl (Val.isF (Val.lss rfl rfl) byLt) ?_) | (refine KL.v rfl (Val.lss rfl rfl) ?_))
    refine KL.nil ?_
    refine byCode ?_
    (refine KL.v rfl (Val.move rfl) ?_)
    (refine KL.v rfl (Val.assign rfl) ?_)
    refine KL.nil ?_
    refine byCode ?_
    exact KE.fin byMarks rfl byRes byPart ⟨o, ok, rfl, rfl⟩

set_option maxRecDepth 10000 in
theorem Of_K {w0 : World} {v : Value} {l : List Wat} (hS : SlW w0 wE v l) (hl : l.length ≤ 100000) (t : Int) :
    Call Try.prog w0 14 [v, .int .i64 t] [] (fun r H' => ∃ o, oOk sE (ofP l t) o ∧ r = oV o (ofP l t).length ∧ H' = oH sE 46 (ofP l t) o) := by
  refine Call.enter (n := 8) [(0, v), (1, .int .i64 t)] (by kernel_rfl) Try.func14 rfl rfl rfl ⟨rfl, rfl, trivial⟩ ?_
  refine byCode ?_
  (refine KL.e rfl (Eff.box rfl rfl) ?_; rintro _ _ ⟨b3, rfl, rfl⟩)
  (refine KL.v rfl (Val.assign rfl) ?_)
  refine KL.nil ?_
  refine byCode ?_
  (refine KL.v rfl (Val.move rfl) ?_)
  (refine KL.v rfl (Val.makeFunc byEvL byEvL) ?_)
  (refine KL.callc rfl rfl byEvL fun T hT => ?_)
  refine (CallV.pure fun w hw => CallV.fn (pickedS_K (hS.only hw.old) hl (fun x => decide (x.t = t)) (·.s) (fun H x => CallV.clo (cap := [.pointer (some ⟨b3, 0, none⟩)]) (Of1_K x ((Sees.cell byTake rfl) w hw))))).mono ?_
  rintro _ _ ⟨_, ⟨o, ok, rfl, rfl⟩, rfl⟩
  refine hT _ _ ?_; clear hT; clear T
  (refine KL.v rfl (Val.assign rfl) ?_)
  refine KL.nil ?_
  refine byCode ?_
  exact KE.fin byMarks rfl byRes byPart ⟨o, ok, rfl, rfl⟩

set_option maxRecDepth 10000 in
theorem rOf_K {w0 : World} {v : Value} {l : List Wat} (hS : SlW w0 wE v l) (hl : l.length ≤ 100000) (t : Int) :
    Call Try.prog w0 17 [v, .int .i64 t] [] (fun r H' => ∃ o, oOk sE (ofP l t) o ∧ r = oV o (ofP l t).length ∧ H' = oH sE 46 (ofP l t) o) := by
  refine Call.enter (n := 29) [(0, v), (1, .int .i64 t)] (by kernel_rfl) Try.func17 rfl rfl rfl ⟨rfl, rfl, trivial⟩ ?_
  refine byCode ?_
  (refine KL.v rfl (Val.assign rfl) ?_)
  refine KL.nil ?_
  refine byCode ?_
  (refine KL.v rfl (Val.assign rfl) ?_)
  refine KL.nil ?_
  refine byCode ?_
  (refine KL.v rfl (Val.assign rfl) ?_)
  refine KL.nil ?_
  refine byBlk ?_
  refine K.loop (σ := Nat × Own) (fun s => [(6, .int .i64 (s.1 : Nat)), (0, v), (1, .int .i64 t), (5, oV s.2 (ofP (l.take s.1) t).length)]) (fun s => oH sE 46 (ofP (l.take s.1) t) s.2 ++ [])
    (fun s => s.1 ≤ l.length ∧ oOk sE (ofP (l.take s.1) t) s.2) (fun s => l.length - s.1) (0, none) bySub byPart ⟨by simp, rfl⟩ ?_
  rintro ⟨k, o⟩ ⟨hk, ok⟩
  dsimp only at hk ok ⊢
  by_cases hlt : k < l.length
  · obtain ⟨x, hx⟩ := get_of_lt hlt
    have hsn : ofP (l.take (k + 1)) t = ofP (l.take k) t ++ (if decide (x.t = t) then [x.s] else []) := filter_snoc (fun x : Wat => decide (x.t = t)) (fun x : Wat => x.s) hx
    have hfl : (ofP (l.take (k + 1)) t).length ≤ k + 1 := filter_len (fun x : Wat => decide (x.t = t)) (fun x : Wat => x.s) l (k + 1)
    have hfl2 : (ofP (l.take (k + 1)) t).length ≤ 4294967296 := by omega
    refine byCode ?_
    (refine KL.v rfl (Val.move rfl) ?_)
    (refine KL.v rfl (Val.move rfl) ?_)
    (first | (refine KL.v rfl (Val.lenSl rfl rfl bySli) ?_) | (refine KL.v rfl (Val.lenS rfl rfl) ?_))
    (first | (refine KL.v rfl (Val.isT (Val.lss rfl rfl) byLt) ?_) | (refine KL.v rfl (Val.isF (Val.lss rfl rfl) byLt) ?_) | (refine KL.v rfl (Val.lss rfl rfl) ?_))
    refine KL.nil ?_
    refine byCode ?_
    refine K.seq (K.block ?_)
    by_cases hxt : x.t = t
    · rw [decide_eq_true hxt] at hsn
      refine byCode ?_
      (refine KL.v rfl (Val.move rfl) ?_)
      (refine KL.v rfl (Val.move rfl) ?_)
      (first | (refine KL.v rfl (Val.idxSl rfl rfl rfl bySli rfl byLt) ?_) | (refine KL.v rfl (Val.idxSlZ rfl rfl rfl bySli rfl (by omega)) ?_) | (refine KL.v rfl (Val.indexS1 rfl rfl rfl rfl (by omega)) ?_) | (refine KL.v rfl (Val.indexS rfl rfl rfl rfl (by omega)) ?_) | (refine KL.v rfl (Val.indexSO rfl rfl rfl rfl (by omega)) ?_) | (refine KL.v rfl (Val.indexSG rfl rfl rfl rfl (by omega)) ?_))
      (first | (refine KL.v rfl (Val.fieldSl rfl rfl) ?_) | (refine KL.v rfl (Val.fieldAddr0 rfl rfl) ?_) | (refine KL.v rfl (Val.fieldAddrZ rfl rfl) ?_) | (refine KL.v rfl (Val.fieldAddr rfl rfl) ?_))
      (refine KL.v rfl (Val.loadP rfl rfl bySee) ?_)
      (refine KL.v rfl (Val.move rfl) ?_)
      (first | (refine KL.v rfl (Val.isT (Val.eql rfl rfl) byLt) ?_) | (refine KL.v rfl (Val.isF (Val.eql rfl rfl) byLt) ?_) | (refine KL.v rfl (Val.eql rfl rfl) ?_))
      refine KL.nil ?_
      refine byCode ?_
      (refine KL.v rfl (Val.move rfl) ?_)
      (refine KL.v rfl (Val.move rfl) ?_)
      (refine KL.v rfl (Val.move rfl) ?_)
      (first | (refine KL.v rfl (Val.idxSl rfl rfl rfl bySli rfl byLt) ?_) | (refine KL.v rfl (Val.idxSlZ rfl rfl rfl bySli rfl (by omega)) ?_) | (refine KL.v rfl (Val.indexS1 rfl rfl rfl rfl (by omega)) ?_) | (refine KL.v rfl (Val.indexS rfl rfl rfl rfl (by omega)) ?_) | (refine KL.v rfl (Val.indexSO rfl rfl rfl rfl (by omega)) ?_) | (refine KL.v rfl (Val.indexSG rfl rfl rfl rfl (by omega)) ?_))
      refine KL.v rfl (Val.fieldSl rfl rfl) ?_
      refine KL.v rfl (Val.loadAP (cs := scell x.s) rfl rfl rfl ⟨rfl, fun j u hj => by
        rw [adr_add]
        have h9 : (wE.enc x)[1 + j]? = some u := by rw [Nat.add_comm]; exact hj
        have := Sees.sl (w0 := w0) (H := oH sE 46 (ofP (l.take k) t) o ++ []) (Sli.old hS) hx h9
        rw [← Nat.add_assoc] at this
        exact this⟩) ?_
      (refine KL.e rfl (Eff.buildS byParts rfl rfl rfl rfl rfl byFill) ?_; rintro _ _ ⟨b26, rfl, rfl⟩)
      (refine KL.e rfl (Eff.appZ (E := sE) (xs := ofP (l.take k) t) (o := o) (ys := [x.s]) (zs := ofP (l.take (k + 1)) t) rfl rfl rfl rfl rfl rfl byTakeL (by assumption) (by first | exact Sli.blk byTake rfl (by first | decide | simp) (by first | decide | (unfold maxLen; omega)) rfl | exact Sli.old (by assumption) | exact Sli.own byTakeL (by assumption) byLen | assumption | exact Sli.part (by assumption) byPart) (hsn.symm) (by first | assumption | omega | (simp <;> fail) | (simp; omega)) rfl) ?_; rintro _ _ ⟨o', ok', rfl, rfl⟩)
      (refine KL.v rfl (Val.assign rfl) ?_)
      refine KL.nil ?_
      refine byCode ?_
      (refine KL.v rfl (Val.move rfl) ?_)
      (first | (refine KL.v rfl (Val.add rfl rfl (by simp only [Go.Proofs.Ytdkanfjpdnjhcaa.lo, Go.Proofs.Ytdkanfjpdnjhcaa.hi]; omega)) ?_) | (refine KL.v rfl (Val.addW rfl rfl) ?_))
      (refine KL.v rfl (Val.assign rfl) ?_)
      refine KL.nil ?_
      exact KE.again (k + 1, o') bySub byPart ⟨by show k + 1 ≤ _; omega, ok'⟩ (by show l.length - (k + 1) < l.length - k; omega)
    · rw [decide_eq_false hxt] at hsn
      have hsn' : ofP (l.take k) t = ofP (l.take (k + 1)) t := by rw [hsn]; simp
      rw [hsn'] at ok ⊢
      refine byCode ?_
      (refine KL.v rfl (Val.move rfl) ?_)
      (refine KL.v rfl (Val.move rfl) ?_)
      (first | (refine KL.v rfl (Val.idxSl rfl rfl rfl bySli rfl byLt) ?_) | (refine KL.v rfl (Val.idxSlZ rfl rfl rfl bySli rfl (by omega)) ?_) | (refine KL.v rfl (Val.indexS1 rfl rfl rfl rfl (by omega)) ?_) | (refine KL.v rfl (Val.indexS rfl rfl rfl rfl (by omega)) ?_) | (refine KL.v rfl (Val.indexSO rfl rfl rfl rfl (by omega)) ?_) | (refine KL.v rfl (Val.indexSG rfl rfl rfl rfl (by omega)) ?_))
      (first | (refine KL.v rfl (Val.fieldSl rfl rfl) ?_) | (refine KL.v rfl (Val.fieldAddr0 rfl rfl) ?_) | (refine KL.v rfl (Val.fieldAddrZ rfl rfl) ?_) | (refine KL.v rfl (Val.fieldAddr rfl rfl) ?_))
      (refine KL.v rfl (Val.loadP rfl rfl bySee) ?_)
      (refine KL.v rfl (Val.move rfl) ?_)
      (first | (refine KL.v rfl (Val.isT (Val.eql rfl rfl) byLt) ?_) | (refine KL.v rfl (Val.isF (Val.eql rfl rfl) byLt) ?_) | (refine KL.v rfl (Val.eql rfl rfl) ?_))
      refine KL.nil ?_
      refine byCode ?_
      (refine KL.v rfl (Val.move rfl) ?_)
      (first | (refine KL.v rfl (Val.add rfl rfl (by simp only [Go.Proofs.Ytdkanfjpdnjhcaa.lo, Go.Proofs.Ytdkanfjpdnjhcaa.hi]; omega)) ?_) | (refine KL.v rfl (Val.addW rfl rfl) ?_))
      (refine KL.v rfl (Val.assign rfl) ?_)
      refine KL.nil ?_
      exact KE.again (k + 1, o) bySub byPart ⟨by show k + 1 ≤ _; omega, ok⟩ (by show l.length - (k + 1) < l.length - k; omega)
  · have : k = l.length := by omega
    subst this
    rw [List.take_length] at ok ⊢
    refine byCode ?_
    (refine KL.v rfl (Val.move rfl) ?_)
    (refine KL.v rfl (Val.move rfl) ?_)
    (first | (refine KL.v rfl (Val.lenSl rfl rfl bySli) ?_) | (refine KL.v rfl (Val.lenS rfl rfl) ?_))
    (first | (refine KL.v rfl (Val.isT (Val.lss rfl rfl) byLt) ?_) | (refine KL.v rfl (Val.isF (Val.lss rfl rfl) byLt) ?_) | (refine KL.v rfl (Val.lss rfl rfl) ?_))
    refine KL.nil ?_
    refine byCode ?_
    (refine KL.v rfl (Val.move rfl) ?_)
    (refine KL.v rfl (Val.assign rfl) ?_)
    refine KL.nil ?_
    refine byCode ?_
    exact KE.fin byMarks rfl byRes byPart ⟨o, ok, rfl, rfl⟩

def tenP (l : List Wat) : List Int := Lib.compact (sortP (l.map (·.t)))

set_option maxRecDepth 10000 in
theorem Tenants_K {w0 : World} {v : Value} {l : List Wat} (hS : SlW w0 wE v l) (hl : l.length ≤ 100000) :
    Call Try.prog w0 13 [v] [] (fun r H' => ∃ o, oOk iE (tenP l) o ∧ r = oV o (tenP l).length ∧ H' = oH iE 3 (tenP l) o) := by
  refine Call.enter (n := 10) [(0, v)] (by kernel_rfl) Try.func13 rfl rfl rfl ⟨rfl, trivial⟩ ?_
  have hft : l.filter (fun _ => true) = l := by simp
  have hsl := sortP_len (l.map (·.t))
  have hml : (l.map (·.t)).length = l.length := by simp
  refine byCode ?_
  (refine KL.v rfl (Val.assign rfl) ?_)
  refine KL.nil ?_
  refine byCode ?_
  (refine KL.v rfl (Val.move rfl) ?_)
  (refine KL.callc rfl rfl byEvL fun T hT => ?_)
  refine (CallV.fn (pickedI_K hS hl (fun _ => true) (·.t) (fun H x => CallV.fn (Tenants1_K x)))).mono ?_
  rintro _ _ ⟨o, ok, rfl, rfl⟩
  refine hT _ _ ?_; clear hT; clear T
  rw [hft] at ok ⊢
  (refine KL.v rfl (Val.assign rfl) ?_)
  refine KL.nil ?_
  refine byCode ?_
  (refine KL.v rfl (Val.move rfl) ?_)
  (refine KL.callc rfl rfl byEvL fun T hT => ?_)
  refine (CallV.part (CallV.fn (Sort_K (F := []) ok (by omega))) byPart).mono ?_
  rintro _ _ ⟨rfl, ok2, rfl⟩
  refine hT _ _ ?_; clear hT; clear T
  rw [← hsl]
  refine KL.nil ?_
  refine byCode ?_
  (refine KL.v rfl (Val.move rfl) ?_)
  (refine KL.callc rfl rfl byEvL fun T hT => ?_)
  refine (CallV.part (CallV.fn (Compact_K (F := []) ok2 (by omega))) byPart).mono ?_
  rintro _ _ ⟨o3, ok3, rfl, rfl⟩
  refine hT _ _ ?_; clear hT; clear T
  (refine KL.v rfl (Val.assign rfl) ?_)
  refine KL.nil ?_
  refine byCode ?_
  exact KE.fin byMarks rfl byRes byPart ⟨o3, ok3, rfl, rfl⟩
end Go.Proofs.Ytdkanfjpdnjhcaa
