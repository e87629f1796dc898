/- Trace: the document's Merge. -/
import Derived.Test.YtdkanfjpdnjhcaaTrW8
namespace Go.Proofs.Ytdkanfjpdnjhcaa
open Go.RowKit
set_option linter.unusedVariables false
set_option linter.unusedSimpArgs false

def nE : Enc Nat := ⟨fun z => [.int .i64 (z : Nat)], 1, fun _ => rfl, by intro x v hv; simp at hv; subst hv; rfl⟩
/-- how much of each part was told -/
structure Told (rows : List (List Seen)) (rs : List (List Seen)) (told : List Nat) : Prop where
  len : told.length = rows.length
  len2 : rs.length = rows.length
  at_ : ∀ (i n : Nat) (r : List Seen), told[i]? = some n → rows[i]? = some r → n ≤ r.length ∧ rs[i]? = some (r.drop n)

theorem Told.next {rows rs : List (List Seen)} {told : List Nat} (h : Told rows rs told) {i n : Nat} {r : List Seen} (hn : told[i]? = some n) (hr : rows[i]? = some r) (hlt : n < r.length) : Told rows (rs.set i (r.drop (n + 1))) (told.set i (n + 1)) := by
  refine ⟨by simp [h.len], by simp [h.len2], ?_⟩
  intro j m r' hm hr'
  by_cases hj : i = j
  · subst hj
    rw [List.getElem?_set_self (lt_of_get hn)] at hm
    cases hm
    rw [hr] at hr'; cases hr'
    refine ⟨hlt, ?_⟩
    rw [List.getElem?_set_self (by rw [h.len2]; exact lt_of_get hr)]
  · rw [List.getElem?_set_ne hj] at hm ⊢
    exact h.at_ j m r' hm hr'

theorem row_le {rows : List (List Seen)} {n : Nat} {r : List Seen} (h : rows[n]? = some r) : r.length ≤ tot rows := by
  induction rows generalizing n with
  | nil => simp at h
  | cons x rows ih =>
    cases n with
    | zero => simp at h; subst h; simp [tot]
    | succ n => simp at h; have := ih h; simp only [tot, List.map_cons, List.sum_cons] at this ⊢; omega
theorem tot_app (a b : List (List Seen)) : tot (a ++ b) = tot a + tot b := by simp [tot]

structure MS where
  k : Nat
  told : List Nat
  ot : Own
  oo : Own

set_option maxRecDepth 10000 in
set_option maxHeartbeats 2000000 in
theorem rMerge_K {w0 : World} {vp vt : Value} {ps : List SV} {rows : List (List Seen)} {ts : List Int} (hP : SlW w0 svE vp ps) (hR0 : RowsOf w0 ps rows) (hT : SlW w0 iE vt ts) (hl : ps.length ≤ 1000) (htot : tot rows ≤ 100000) (hlt : ts.length ≤ 100000) :
    Call Try.prog w0 22 [vp, vt] [] (fun r H' => ∃ o, oOk wE (mergeP rows ts) o ∧ r = oV o (mergeP rows ts).length ∧ H' = oH wE 48 (mergeP rows ts) o) := by
  refine Call.enter (n := 97) [(0, vp), (1, vt)] (by kernel_rfl) Try.func22 rfl rfl rfl ⟨rfl, rfl, trivial⟩ ?_
  have hpl := hR0.len
  refine byCode ?_
  (refine KL.v rfl (Val.assign rfl) ?_)
  refine KL.nil ?_
  refine byCode ?_
  (refine KL.v rfl (Val.move rfl) ?_)
  (first | (refine KL.v rfl (Val.lenSl rfl rfl bySli) ?_) | (refine KL.v rfl (Val.lenS rfl rfl) ?_))
  (refine KL.e rfl (Eff.makeS (E := nE) (x0 := 0) rfl rfl rfl rfl rfl rfl (by omega)) ?_; rintro _ _ ⟨b13, rfl, rfl⟩)
  (refine KL.v rfl (Val.assign rfl) ?_)
  refine KL.nil ?_
  refine byCode ?_
  (refine KL.v rfl (Val.assign rfl) ?_)
  refine KL.nil ?_
  refine byCode ?_
  (refine KL.v rfl (Val.assign rfl) ?_)
  refine KL.nil ?_
  refine byBlk ?_
  refine K.loop (σ := MS) (fun s => [(7, .int .i64 (s.k : Nat)), (5, oV s.ot s.told.length), (6, oV s.oo (mst rows (ts.take s.k)).2.length), (0, vp), (1, vt)])
    (fun s => oH nE 3 s.told s.ot ++ (oH wE 48 (mst rows (ts.take s.k)).2 s.oo ++ []))
    (fun s => s.k ≤ ts.length ∧ oOk nE s.told s.ot ∧ oOk wE (mst rows (ts.take s.k)).2 s.oo ∧ Told rows (mst rows (ts.take s.k)).1 s.told) (fun s => ts.length - s.k)
    ⟨0, List.replicate ps.length 0, some ⟨b13, ps.length, []⟩, none⟩ bySub byPart ⟨by simp, ⟨by simp, by show ps.length ≤ maxLen; unfold maxLen; omega, by simp⟩, rfl, ⟨by simp [hpl], rfl, fun i n r hn hr => by
      have : n = 0 := by
        have := List.mem_of_getElem? hn
        exact (List.mem_replicate.1 this).2
      subst this
      exact ⟨Nat.zero_le _, by simpa [mst] using hr⟩⟩⟩ ?_
  rintro ⟨k, told, ot, oo⟩ ⟨hk, okt, oko, hTo⟩
  dsimp only at hk okt oko hTo ⊢
  have hinv := mst_inv rows (ts.take k)
  by_cases hlk : k < ts.length
  · obtain ⟨t, ht⟩ := get_of_lt hlk
    have hsn := mst_snoc rows ht
    refine byCode ?_
    (refine KL.v rfl (Val.move rfl) ?_)
    (refine KL.v rfl (Val.move rfl) ?_)
    (first | (refine KL.v rfl (Val.lenSl rfl rfl bySli) ?_) | (refine KL.v rfl (Val.lenS rfl rfl) ?_))
    (first | (refine KL.v rfl (Val.isT (Val.lss rfl rfl) byLt) ?_) | (refine KL.v rfl (Val.isF (Val.lss rfl rfl) byLt) ?_) | (refine KL.v rfl (Val.lss rfl rfl) ?_))
    refine KL.nil ?_
    refine byCode ?_
    refine K.seq (K.block ?_)
    refine byCode ?_
    (refine KL.v rfl (Val.move rfl) ?_)
    (refine KL.v rfl (Val.move rfl) ?_)
    (first | (refine KL.v rfl (Val.idxSl rfl rfl rfl bySli rfl byLt) ?_) | (refine KL.v rfl (Val.idxSlZ rfl rfl rfl bySli rfl (by omega)) ?_) | (refine KL.v rfl (Val.indexS1 rfl rfl rfl rfl (by omega)) ?_) | (refine KL.v rfl (Val.indexS rfl rfl rfl rfl (by omega)) ?_) | (refine KL.v rfl (Val.indexSO rfl rfl rfl rfl (by omega)) ?_) | (refine KL.v rfl (Val.indexSG rfl rfl rfl rfl (by omega)) ?_))
    (refine KL.v rfl (Val.loadP rfl rfl bySee) ?_)
    (refine KL.v rfl (Val.assign rfl) ?_)
    refine KL.nil ?_
    have stay : popAt (mst rows (ts.take k)).1 t = none → mst rows (ts.take (k + 1)) = mst rows (ts.take k) := fun hp => by rw [hsn]; unfold mstep; rw [hp]
    by_cases h0 : t < 0
    · have hst := stay (by unfold popAt; rw [if_pos h0])
      clear stay
      rw [← hst] at oko hTo ⊢
      refine byCodeD ?_
      (first | refine K.seq (K.drawn _ [(0, 0), (1, 0), (2, 0), (3, 0), (4, 0), (5, 0), (6, 0), (7, 0), (8, 0), (9, 0), (10, 0), (11, 0), (12, 0), (13, 0), (14, 0), (15, 0), (16, 0), (17, 0), (18, 0), (19, 0)] (by kernel_rfl) (by kernel_rfl) (by kernel_rfl) (by kernel_rfl) (by kernel_rfl) (by kernel_rfl) Part.all ?_) | refine K.seq (K.seq (K.drawn _ [(0, 0), (1, 0), (2, 0), (3, 0), (4, 0), (5, 0), (6, 0), (7, 0), (8, 0), (9, 0), (10, 0), (11, 0), (12, 0), (13, 0), (14, 0), (15, 0), (16, 0), (17, 0), (18, 0), (19, 0)] (by kernel_rfl) (by kernel_rfl) (by kernel_rfl) (by kernel_rfl) (by kernel_rfl) (by kernel_rfl) Part.all ?_)) | refine K.drawn _ [(0, 0), (1, 0), (2, 0), (3, 0), (4, 0), (5, 0), (6, 0), (7, 0), (8, 0), (9, 0), (10, 0), (11, 0), (12, 0), (13, 0), (14, 0), (15, 0), (16, 0), (17, 0), (18, 0), (19, 0)] (by kernel_rfl) (by kernel_rfl) (by kernel_rfl) (by kernel_rfl) (by kernel_rfl) (by kernel_rfl) Part.all ?_)
      refine KD.v0 rfl rfl (Val.move rfl) ?_
      (first | refine KD.v0 rfl rfl (Val.isT (Val.geq rfl rfl) byLt) ?_ | refine KD.v0 rfl rfl (Val.isF (Val.geq rfl rfl) byLt) ?_ | refine KD.v0 rfl rfl (Val.geq rfl rfl) ?_)
      refine KD.v0 rfl rfl (Val.move rfl) ?_
      (first | refine KD.no rfl rfl rfl rfl rfl ?_ | refine KD.noU rfl rfl rfl rfl rfl ?_ | refine KD.y0 rfl rfl rfl rfl (Val.move rfl) ?_)
      (first | refine KD.no rfl rfl rfl rfl rfl ?_ | refine KD.noU rfl rfl rfl rfl rfl ?_ | refine KD.y0 rfl rfl rfl rfl (Val.move rfl) ?_)
      (first | refine KD.no rfl rfl rfl rfl rfl ?_ | refine KD.noU rfl rfl rfl rfl rfl ?_ | refine KD.y0 rfl rfl rfl rfl (Val.lenSl rfl rfl bySli) ?_ | refine KD.y0 rfl rfl rfl rfl (Val.lenS rfl rfl) ?_)
      (first | refine KD.no rfl rfl rfl rfl rfl ?_ | refine KD.noU rfl rfl rfl rfl rfl ?_ | refine KD.y0 rfl rfl rfl rfl (Val.isT (Val.lss rfl rfl) byLt) ?_ | refine KD.y0 rfl rfl rfl rfl (Val.isF (Val.lss rfl rfl) byLt) ?_ | refine KD.y0 rfl rfl rfl rfl (Val.lss rfl rfl) ?_)
      (first | refine KD.v0 rfl rfl (Val.pickT rfl rfl rfl) ?_ | refine KD.v0 rfl rfl (Val.pickF rfl rfl rfl) ?_ | refine KD.v0 rfl rfl (Val.pickB rfl rfl rfl) ?_)
      refine KD.v0 rfl rfl (Val.move rfl) ?_
      (first | refine KD.no rfl rfl rfl rfl rfl ?_ | refine KD.noU rfl rfl rfl rfl rfl ?_ | refine KD.y0 rfl rfl rfl rfl (Val.move rfl) ?_)
      (first | refine KD.no rfl rfl rfl rfl rfl ?_ | refine KD.noU rfl rfl rfl rfl rfl ?_ | refine KD.y0 rfl rfl rfl rfl (Val.move rfl) ?_)
      (first | refine KD.no rfl rfl rfl rfl rfl ?_ | refine KD.noU rfl rfl rfl rfl rfl ?_ | refine KD.y0 rfl rfl rfl rfl (Val.idxSl rfl rfl rfl bySli rfl byLt) ?_ | refine KD.y0 rfl rfl rfl rfl (Val.idxSlZ rfl rfl rfl bySli rfl (by omega)) ?_ | refine KD.y0 rfl rfl rfl rfl (Val.indexS1 rfl rfl rfl rfl (by omega)) ?_ | refine KD.y0 rfl rfl rfl rfl (Val.indexS rfl rfl rfl rfl (by omega)) ?_ | refine KD.y0 rfl rfl rfl rfl (Val.indexSO rfl rfl rfl rfl (by omega)) ?_ | refine KD.y0 rfl rfl rfl rfl (Val.indexSG rfl rfl rfl rfl (by omega)) ?_)
      (first | refine KD.no rfl rfl rfl rfl rfl ?_ | refine KD.noU rfl rfl rfl rfl rfl ?_ | refine KD.y0 rfl rfl rfl rfl (Val.loadP rfl rfl bySee) ?_)
      (first | refine KD.no rfl rfl rfl rfl rfl ?_ | refine KD.noU rfl rfl rfl rfl rfl ?_ | refine KD.y0 rfl rfl rfl rfl (Val.move rfl) ?_)
      (first | refine KD.no rfl rfl rfl rfl rfl ?_ | refine KD.noU rfl rfl rfl rfl rfl ?_ | refine KD.y0 rfl rfl rfl rfl (Val.move rfl) ?_)
      (first | refine KD.no rfl rfl rfl rfl rfl ?_ | refine KD.noU rfl rfl rfl rfl rfl ?_ | refine KD.y0 rfl rfl rfl rfl (Val.idxSl rfl rfl rfl bySli rfl byLt) ?_ | refine KD.y0 rfl rfl rfl rfl (Val.idxSlZ rfl rfl rfl bySli rfl (by omega)) ?_ | refine KD.y0 rfl rfl rfl rfl (Val.indexS1 rfl rfl rfl rfl (by omega)) ?_ | refine KD.y0 rfl rfl rfl rfl (Val.indexS rfl rfl rfl rfl (by omega)) ?_ | refine KD.y0 rfl rfl rfl rfl (Val.indexSO rfl rfl rfl rfl (by omega)) ?_ | refine KD.y0 rfl rfl rfl rfl (Val.indexSG rfl rfl rfl rfl (by omega)) ?_)
      (first | refine KD.no rfl rfl rfl rfl rfl ?_ | refine KD.noU rfl rfl rfl rfl rfl ?_ | refine KD.y0 rfl rfl rfl rfl (Val.loadP rfl rfl bySee) ?_)
      (first | refine KD.no rfl rfl rfl rfl rfl ?_ | refine KD.noU rfl rfl rfl rfl rfl ?_ | refine KD.y0 rfl rfl rfl rfl (Val.lenSl rfl rfl bySli) ?_ | refine KD.y0 rfl rfl rfl rfl (Val.lenS rfl rfl) ?_)
      (first | refine KD.no rfl rfl rfl rfl rfl ?_ | refine KD.noU rfl rfl rfl rfl rfl ?_ | refine KD.y0 rfl rfl rfl rfl (Val.isT (Val.lss rfl rfl) byLt) ?_ | refine KD.y0 rfl rfl rfl rfl (Val.isF (Val.lss rfl rfl) byLt) ?_ | refine KD.y0 rfl rfl rfl rfl (Val.lss rfl rfl) ?_)
      (first | refine KD.v0 rfl rfl (Val.pickT rfl rfl rfl) ?_ | refine KD.v0 rfl rfl (Val.pickF rfl rfl rfl) ?_ | refine KD.v0 rfl rfl (Val.pickB rfl rfl rfl) ?_)
      refine KD.nil ?_
      refine byCode ?_
      (refine KL.v rfl (Val.move rfl) ?_)
      (first | (refine KL.v rfl (Val.add rfl rfl (by simp only [Go.Proofs.Ytdkanfjpdnjhcaa.lo, Go.Proofs.Ytdkanfjpdnjhcaa.hi]; omega)) ?_) | (refine KL.v rfl (Val.addW rfl rfl) ?_))
      (refine KL.v rfl (Val.assign rfl) ?_)
      refine KL.nil ?_
      exact KE.again ⟨k + 1, told, ot, oo⟩ bySub byPart ⟨by show k + 1 ≤ _; omega, okt, oko, hTo⟩ (by show ts.length - (k + 1) < ts.length - k; omega)
    · obtain ⟨n, rfl⟩ := Int.eq_ofNat_of_zero_le (show 0 ≤ t by omega)
      by_cases h1 : n < ps.length
      · obtain ⟨p, hp⟩ := get_of_lt h1
        obtain ⟨r, hr⟩ := get_of_lt (l := rows) (k := n) (by omega)
        have hnt : n < told.length := by rw [hTo.len]; omega
        obtain ⟨m, hm⟩ := get_of_lt hnt
        obtain ⟨hmr, hrs⟩ := hTo.at_ n m r hm hr
        have hrow := hR0.row n p r hp hr
        by_cases hmlt : m < r.length
        · obtain ⟨s, hs⟩ := get_of_lt hmlt
          have hds : r.drop m = s :: r.drop (m + 1) := by rw [List.drop_eq_getElem_cons hmlt]; congr 1; exact (List.getElem?_eq_some_iff.1 hs).2
          have hpop : popAt (mst rows (ts.take k)).1 (n : Nat) = some (s, (mst rows (ts.take k)).1.set n (r.drop (m + 1))) := by
            unfold popAt
            rw [if_neg (by omega), Int.toNat_natCast, hrs, hds]
          have hst : mst rows (ts.take (k + 1)) = ((mst rows (ts.take k)).1.set n (r.drop (m + 1)), (mst rows (ts.take k)).2 ++ [⟨(n : Int), s⟩]) := by rw [hsn]; unfold mstep; rw [hpop]
          clear stay
          have hrlen : r.length ≤ 100000 := Nat.le_trans (row_le hr) htot
          have hz : ((mst rows (ts.take k)).2 ++ [(⟨(n : Int), s⟩ : Wat)]).length ≤ 4294967296 := by simp; omega
          refine byCodeD ?_
          (first | refine K.seq (K.drawn _ [(0, 0), (1, 0), (2, 0), (3, 0), (4, 0), (5, 0), (6, 0), (7, 0), (8, 0), (9, 0), (10, 0), (11, 0), (12, 0), (13, 0), (14, 0), (15, 0), (16, 0), (17, 0), (18, 0), (19, 0)] (by kernel_rfl) (by kernel_rfl) (by kernel_rfl) (by kernel_rfl) (by kernel_rfl) (by kernel_rfl) Part.all ?_) | refine K.seq (K.seq (K.drawn _ [(0, 0), (1, 0), (2, 0), (3, 0), (4, 0), (5, 0), (6, 0), (7, 0), (8, 0), (9, 0), (10, 0), (11, 0), (12, 0), (13, 0), (14, 0), (15, 0), (16, 0), (17, 0), (18, 0), (19, 0)] (by kernel_rfl) (by kernel_rfl) (by kernel_rfl) (by kernel_rfl) (by kernel_rfl) (by kernel_rfl) Part.all ?_)) | refine K.drawn _ [(0, 0), (1, 0), (2, 0), (3, 0), (4, 0), (5, 0), (6, 0), (7, 0), (8, 0), (9, 0), (10, 0), (11, 0), (12, 0), (13, 0), (14, 0), (15, 0), (16, 0), (17, 0), (18, 0), (19, 0)] (by kernel_rfl) (by kernel_rfl) (by kernel_rfl) (by kernel_rfl) (by kernel_rfl) (by kernel_rfl) Part.all ?_)
          refine KD.v0 rfl rfl (Val.move rfl) ?_
          (first | refine KD.v0 rfl rfl (Val.isT (Val.geq rfl rfl) byLt) ?_ | refine KD.v0 rfl rfl (Val.isF (Val.geq rfl rfl) byLt) ?_ | refine KD.v0 rfl rfl (Val.geq rfl rfl) ?_)
          refine KD.v0 rfl rfl (Val.move rfl) ?_
          (first | refine KD.no rfl rfl rfl rfl rfl ?_ | refine KD.noU rfl rfl rfl rfl rfl ?_ | refine KD.y0 rfl rfl rfl rfl (Val.move rfl) ?_)
          (first | refine KD.no rfl rfl rfl rfl rfl ?_ | refine KD.noU rfl rfl rfl rfl rfl ?_ | refine KD.y0 rfl rfl rfl rfl (Val.move rfl) ?_)
          (first | refine KD.no rfl rfl rfl rfl rfl ?_ | refine KD.noU rfl rfl rfl rfl rfl ?_ | refine KD.y0 rfl rfl rfl rfl (Val.lenSl rfl rfl bySli) ?_ | refine KD.y0 rfl rfl rfl rfl (Val.lenS rfl rfl) ?_)
          (first | refine KD.no rfl rfl rfl rfl rfl ?_ | refine KD.noU rfl rfl rfl rfl rfl ?_ | refine KD.y0 rfl rfl rfl rfl (Val.isT (Val.lss rfl rfl) byLt) ?_ | refine KD.y0 rfl rfl rfl rfl (Val.isF (Val.lss rfl rfl) byLt) ?_ | refine KD.y0 rfl rfl rfl rfl (Val.lss rfl rfl) ?_)
          (first | refine KD.v0 rfl rfl (Val.pickT rfl rfl rfl) ?_ | refine KD.v0 rfl rfl (Val.pickF rfl rfl rfl) ?_ | refine KD.v0 rfl rfl (Val.pickB rfl rfl rfl) ?_)
          refine KD.v0 rfl rfl (Val.move rfl) ?_
          (first | refine KD.no rfl rfl rfl rfl rfl ?_ | refine KD.noU rfl rfl rfl rfl rfl ?_ | refine KD.y0 rfl rfl rfl rfl (Val.move rfl) ?_)
          (first | refine KD.no rfl rfl rfl rfl rfl ?_ | refine KD.noU rfl rfl rfl rfl rfl ?_ | refine KD.y0 rfl rfl rfl rfl (Val.move rfl) ?_)
          (first | refine KD.no rfl rfl rfl rfl rfl ?_ | refine KD.noU rfl rfl rfl rfl rfl ?_ | refine KD.y0 rfl rfl rfl rfl (Val.idxSl rfl rfl rfl bySli rfl byLt) ?_ | refine KD.y0 rfl rfl rfl rfl (Val.idxSlZ rfl rfl rfl bySli rfl (by omega)) ?_ | refine KD.y0 rfl rfl rfl rfl (Val.indexS1 rfl rfl rfl rfl (by omega)) ?_ | refine KD.y0 rfl rfl rfl rfl (Val.indexS rfl rfl rfl rfl (by omega)) ?_ | refine KD.y0 rfl rfl rfl rfl (Val.indexSO rfl rfl rfl rfl (by omega)) ?_ | refine KD.y0 rfl rfl rfl rfl (Val.indexSG rfl rfl rfl rfl (by omega)) ?_)
          (first | refine KD.no rfl rfl rfl rfl rfl ?_ | refine KD.noU rfl rfl rfl rfl rfl ?_ | refine KD.y0 rfl rfl rfl rfl (Val.loadP rfl rfl bySee) ?_)
          (first | refine KD.no rfl rfl rfl rfl rfl ?_ | refine KD.noU rfl rfl rfl rfl rfl ?_ | refine KD.y0 rfl rfl rfl rfl (Val.move rfl) ?_)
          (first | refine KD.no rfl rfl rfl rfl rfl ?_ | refine KD.noU rfl rfl rfl rfl rfl ?_ | refine KD.y0 rfl rfl rfl rfl (Val.move rfl) ?_)
          (first | refine KD.no rfl rfl rfl rfl rfl ?_ | refine KD.noU rfl rfl rfl rfl rfl ?_ | refine KD.y0 rfl rfl rfl rfl (Val.idxSl rfl rfl rfl bySli rfl byLt) ?_ | refine KD.y0 rfl rfl rfl rfl (Val.idxSlZ rfl rfl rfl bySli rfl (by omega)) ?_ | refine KD.y0 rfl rfl rfl rfl (Val.indexS1 rfl rfl rfl rfl (by omega)) ?_ | refine KD.y0 rfl rfl rfl rfl (Val.indexS rfl rfl rfl rfl (by omega)) ?_ | refine KD.y0 rfl rfl rfl rfl (Val.indexSO rfl rfl rfl rfl (by omega)) ?_ | refine KD.y0 rfl rfl rfl rfl (Val.indexSG rfl rfl rfl rfl (by omega)) ?_)
          (first | refine KD.no rfl rfl rfl rfl rfl ?_ | refine KD.noU rfl rfl rfl rfl rfl ?_ | refine KD.y0 rfl rfl rfl rfl (Val.loadP rfl rfl bySee) ?_)
          (first | refine KD.no rfl rfl rfl rfl rfl ?_ | refine KD.noU rfl rfl rfl rfl rfl ?_ | refine KD.y0 rfl rfl rfl rfl (Val.lenSl rfl rfl bySli) ?_ | refine KD.y0 rfl rfl rfl rfl (Val.lenS rfl rfl) ?_)
          (first | refine KD.no rfl rfl rfl rfl rfl ?_ | refine KD.noU rfl rfl rfl rfl rfl ?_ | refine KD.y0 rfl rfl rfl rfl (Val.isT (Val.lss rfl rfl) byLt) ?_ | refine KD.y0 rfl rfl rfl rfl (Val.isF (Val.lss rfl rfl) byLt) ?_ | refine KD.y0 rfl rfl rfl rfl (Val.lss rfl rfl) ?_)
          (first | refine KD.v0 rfl rfl (Val.pickT rfl rfl rfl) ?_ | refine KD.v0 rfl rfl (Val.pickF rfl rfl rfl) ?_ | refine KD.v0 rfl rfl (Val.pickB rfl rfl rfl) ?_)
          refine KD.nil ?_
          refine byCodeD ?_
          (first | refine K.seq (K.drawn (([] : Heap)) [(0, 1), (1, 0), (2, 0), (3, 0), (4, 0), (5, 0), (6, 0), (7, 0), (8, 0), (9, 0), (10, 0), (11, 0), (12, 0), (13, 2), (14, 2), (15, 0)] (by kernel_rfl) (by kernel_rfl) (by kernel_rfl) (by kernel_rfl) (by kernel_rfl) (by kernel_rfl) byPart ?_) | refine K.seq (K.seq (K.drawn (([] : Heap)) [(0, 1), (1, 0), (2, 0), (3, 0), (4, 0), (5, 0), (6, 0), (7, 0), (8, 0), (9, 0), (10, 0), (11, 0), (12, 0), (13, 2), (14, 2), (15, 0)] (by kernel_rfl) (by kernel_rfl) (by kernel_rfl) (by kernel_rfl) (by kernel_rfl) (by kernel_rfl) byPart ?_)) | refine K.drawn (([] : Heap)) [(0, 1), (1, 0), (2, 0), (3, 0), (4, 0), (5, 0), (6, 0), (7, 0), (8, 0), (9, 0), (10, 0), (11, 0), (12, 0), (13, 2), (14, 2), (15, 0)] (by kernel_rfl) (by kernel_rfl) (by kernel_rfl) (by kernel_rfl) (by kernel_rfl) (by kernel_rfl) byPart ?_)
          refine KD.v1 rfl rfl (Val.move rfl) ?_
          refine KD.v0 rfl rfl (Val.move rfl) ?_
          refine KD.v0 rfl rfl (Val.move rfl) ?_
          refine KD.v0 rfl rfl (Val.move rfl) ?_
          (first | refine KD.v0 rfl rfl (Val.idxSl rfl rfl rfl bySli rfl byLt) ?_ | refine KD.v0 rfl rfl (Val.idxSlZ rfl rfl rfl bySli rfl (by omega)) ?_ | refine KD.v0 rfl rfl (Val.indexS1 rfl rfl rfl rfl (by omega)) ?_ | refine KD.v0 rfl rfl (Val.indexS rfl rfl rfl rfl (by omega)) ?_ | refine KD.v0 rfl rfl (Val.indexSO rfl rfl rfl rfl (by omega)) ?_ | refine KD.v0 rfl rfl (Val.indexSG rfl rfl rfl rfl (by omega)) ?_)
          refine KD.v0 rfl rfl (Val.loadP rfl rfl bySee) ?_
          refine KD.v0 rfl rfl (Val.move rfl) ?_
          refine KD.v0 rfl rfl (Val.move rfl) ?_
          (first | refine KD.v0 rfl rfl (Val.idxSl rfl rfl rfl bySli rfl byLt) ?_ | refine KD.v0 rfl rfl (Val.idxSlZ rfl rfl rfl bySli rfl (by omega)) ?_ | refine KD.v0 rfl rfl (Val.indexS1 rfl rfl rfl rfl (by omega)) ?_ | refine KD.v0 rfl rfl (Val.indexS rfl rfl rfl rfl (by omega)) ?_ | refine KD.v0 rfl rfl (Val.indexSO rfl rfl rfl rfl (by omega)) ?_ | refine KD.v0 rfl rfl (Val.indexSG rfl rfl rfl rfl (by omega)) ?_)
          refine KD.v0 rfl rfl (Val.loadP rfl rfl bySee) ?_
          (first | refine KD.v0 rfl rfl (Val.idxSl rfl rfl rfl bySli rfl byLt) ?_ | refine KD.v0 rfl rfl (Val.idxSlZ rfl rfl rfl bySli rfl (by omega)) ?_ | refine KD.v0 rfl rfl (Val.indexS1 rfl rfl rfl rfl (by omega)) ?_ | refine KD.v0 rfl rfl (Val.indexS rfl rfl rfl rfl (by omega)) ?_ | refine KD.v0 rfl rfl (Val.indexSO rfl rfl rfl rfl (by omega)) ?_ | refine KD.v0 rfl rfl (Val.indexSG rfl rfl rfl rfl (by omega)) ?_)
          (first | refine KD.v0 rfl rfl (Val.loadAP rfl rfl rfl bySeeA) ?_ | refine KD.v0 rfl rfl (Val.loadA rfl rfl rfl bySeeN) ?_)
          refine KD.v0 rfl rfl (Val.build byParts rfl rfl byFill) ?_
          (refine KD.e rfl rfl (Eff.buildS byParts rfl rfl rfl rfl rfl byFill) ?_; rintro _ _ ⟨b57, rfl, rfl⟩; refine ⟨byPart, ?_⟩)
          -- STOP at region 8 op 14: {"h": "Op.call", "a": [{"callee": {"h": "Callee.builtin", "a": ["Builtin.append"]}, "args": [{"h": "Operand.tmp", "a": [44]}, {"h": "Operand.tmp", "a": [57]}], "argTypes": [32, 32]}]}
          (refine KD.e rfl rfl (Eff.appZ (E := wE) (xs := (mst rows (ts.take k)).2) (o := oo) (ys := [⟨(n : Int), s⟩]) (zs := (mst rows (ts.take k)).2 ++ [⟨(n : Int), s⟩]) rfl rfl rfl rfl rfl rfl byTakeL (by assumption) (by first | exact Sli.blk byTake rfl (by first | decide | simp) (by first | decide | (unfold maxLen; omega)) rfl | exact Sli.old (by assumption) | exact Sli.own byTakeL (by assumption) byLen | assumption | exact Sli.part (by assumption) byPart) (rfl) (by first | assumption | omega | (simp <;> fail) | (simp; omega)) rfl) ?_; rintro _ _ ⟨o', ok', rfl, rfl⟩; refine ⟨byPart, ?_⟩)
          refine KD.v0 rfl rfl (Val.assign rfl) ?_
          refine KD.nil ?_
          refine byCode ?_
          (refine KL.v rfl (Val.move rfl) ?_)
          (refine KL.v rfl (Val.move rfl) ?_)
          (first | (refine KL.v rfl (Val.idxSl rfl rfl rfl bySli rfl byLt) ?_) | (refine KL.v rfl (Val.idxSlZ rfl rfl rfl bySli rfl (by omega)) ?_) | (refine KL.v rfl (Val.indexS1 rfl rfl rfl rfl (by omega)) ?_) | (refine KL.v rfl (Val.indexS rfl rfl rfl rfl (by omega)) ?_) | (refine KL.v rfl (Val.indexSO rfl rfl rfl rfl (by omega)) ?_) | (refine KL.v rfl (Val.indexSG rfl rfl rfl rfl (by omega)) ?_))
          (refine KL.v rfl (Val.loadP rfl rfl bySee) ?_)
          (first | (refine KL.v rfl (Val.add rfl rfl (by simp only [Go.Proofs.Ytdkanfjpdnjhcaa.lo, Go.Proofs.Ytdkanfjpdnjhcaa.hi]; omega)) ?_) | (refine KL.v rfl (Val.addW rfl rfl) ?_))
          (first | (refine KL.v rfl (Val.idxSl rfl rfl rfl bySli rfl byLt) ?_) | (refine KL.v rfl (Val.idxSlZ rfl rfl rfl bySli rfl (by omega)) ?_) | (refine KL.v rfl (Val.indexS1 rfl rfl rfl rfl (by omega)) ?_) | (refine KL.v rfl (Val.indexS rfl rfl rfl rfl (by omega)) ?_) | (refine KL.v rfl (Val.indexSO rfl rfl rfl rfl (by omega)) ?_) | (refine KL.v rfl (Val.indexSG rfl rfl rfl rfl (by omega)) ?_))
          (first | (refine KL.eN (Eff.stSl (x1 := m + 1) rfl rfl rfl rfl byTakeL (by assumption) (by assumption) rfl rfl) ?_; rintro _ _ rfl) | (refine KL.eN (Eff.stSl0 (x1 := m + 1) rfl rfl rfl rfl byTakeL (by assumption) (by assumption) rfl rfl) ?_; rintro _ _ rfl))
          refine KL.nil ?_
          have okt' := okt.set n (m + 1)
          have hTo' := hTo.next hm hr hmlt
          refine byCode ?_
          (refine KL.v rfl (Val.move rfl) ?_)
          (first | (refine KL.v rfl (Val.add rfl rfl (by simp only [Go.Proofs.Ytdkanfjpdnjhcaa.lo, Go.Proofs.Ytdkanfjpdnjhcaa.hi]; omega)) ?_) | (refine KL.v rfl (Val.addW rfl rfl) ?_))
          (refine KL.v rfl (Val.assign rfl) ?_)
          refine KL.nil ?_
          exact KE.again ⟨k + 1, told.set n (m + 1), ot, o'⟩ ⟨⟨_, rfl, by dsimp only; congr 1⟩, ⟨_, rfl, by dsimp only; rw [List.length_set]⟩, ⟨_, rfl, by dsimp only; rw [hst]⟩, ⟨_, rfl, rfl⟩, ⟨_, rfl, rfl⟩, trivial⟩ (by dsimp only; rw [hst]; exact byPart) ⟨by show k + 1 ≤ _; omega, okt', by dsimp only; rw [hst]; exact ok', by dsimp only; rw [hst]; exact hTo'⟩ (by show ts.length - (k + 1) < ts.length - k; omega)
        · have hst := stay (by
            unfold popAt
            rw [if_neg (by omega), Int.toNat_natCast, hrs, List.drop_of_length_le (by omega)])
          clear stay
          rw [← hst] at oko hTo ⊢
          refine byCodeD ?_
          (first | refine K.seq (K.drawn _ [(0, 0), (1, 0), (2, 0), (3, 0), (4, 0), (5, 0), (6, 0), (7, 0), (8, 0), (9, 0), (10, 0), (11, 0), (12, 0), (13, 0), (14, 0), (15, 0), (16, 0), (17, 0), (18, 0), (19, 0)] (by kernel_rfl) (by kernel_rfl) (by kernel_rfl) (by kernel_rfl) (by kernel_rfl) (by kernel_rfl) Part.all ?_) | refine K.seq (K.seq (K.drawn _ [(0, 0), (1, 0), (2, 0), (3, 0), (4, 0), (5, 0), (6, 0), (7, 0), (8, 0), (9, 0), (10, 0), (11, 0), (12, 0), (13, 0), (14, 0), (15, 0), (16, 0), (17, 0), (18, 0), (19, 0)] (by kernel_rfl) (by kernel_rfl) (by kernel_rfl) (by kernel_rfl) (by kernel_rfl) (by kernel_rfl) Part.all ?_)) | refine K.drawn _ [(0, 0), (1, 0), (2, 0), (3, 0), (4, 0), (5, 0), (6, 0), (7, 0), (8, 0), (9, 0), (10, 0), (11, 0), (12, 0), (13, 0), (14, 0), (15, 0), (16, 0), (17, 0), (18, 0), (19, 0)] (by kernel_rfl) (by kernel_rfl) (by kernel_rfl) (by kernel_rfl) (by kernel_rfl) (by kernel_rfl) Part.all ?_)
          refine KD.v0 rfl rfl (Val.move rfl) ?_
          (first | refine KD.v0 rfl rfl (Val.isT (Val.geq rfl rfl) byLt) ?_ | refine KD.v0 rfl rfl (Val.isF (Val.geq rfl rfl) byLt) ?_ | refine KD.v0 rfl rfl (Val.geq rfl rfl) ?_)
          refine KD.v0 rfl rfl (Val.move rfl) ?_
          (first | refine KD.no rfl rfl rfl rfl rfl ?_ | refine KD.noU rfl rfl rfl rfl rfl ?_ | refine KD.y0 rfl rfl rfl rfl (Val.move rfl) ?_)
          (first | refine KD.no rfl rfl rfl rfl rfl ?_ | refine KD.noU rfl rfl rfl rfl rfl ?_ | refine KD.y0 rfl rfl rfl rfl (Val.move rfl) ?_)
          (first | refine KD.no rfl rfl rfl rfl rfl ?_ | refine KD.noU rfl rfl rfl rfl rfl ?_ | refine KD.y0 rfl rfl rfl rfl (Val.lenSl rfl rfl bySli) ?_ | refine KD.y0 rfl rfl rfl rfl (Val.lenS rfl rfl) ?_)
          (first | refine KD.no rfl rfl rfl rfl rfl ?_ | refine KD.noU rfl rfl rfl rfl rfl ?_ | refine KD.y0 rfl rfl rfl rfl (Val.isT (Val.lss rfl rfl) byLt) ?_ | refine KD.y0 rfl rfl rfl rfl (Val.isF (Val.lss rfl rfl) byLt) ?_ | refine KD.y0 rfl rfl rfl rfl (Val.lss rfl rfl) ?_)
          (first | refine KD.v0 rfl rfl (Val.pickT rfl rfl rfl) ?_ | refine KD.v0 rfl rfl (Val.pickF rfl rfl rfl) ?_ | refine KD.v0 rfl rfl (Val.pickB rfl rfl rfl) ?_)
          refine KD.v0 rfl rfl (Val.move rfl) ?_
          (first | refine KD.no rfl rfl rfl rfl rfl ?_ | refine KD.noU rfl rfl rfl rfl rfl ?_ | refine KD.y0 rfl rfl rfl rfl (Val.move rfl) ?_)
          (first | refine KD.no rfl rfl rfl rfl rfl ?_ | refine KD.noU rfl rfl rfl rfl rfl ?_ | refine KD.y0 rfl rfl rfl rfl (Val.move rfl) ?_)
          (first | refine KD.no rfl rfl rfl rfl rfl ?_ | refine KD.noU rfl rfl rfl rfl rfl ?_ | refine KD.y0 rfl rfl rfl rfl (Val.idxSl rfl rfl rfl bySli rfl byLt) ?_ | refine KD.y0 rfl rfl rfl rfl (Val.idxSlZ rfl rfl rfl bySli rfl (by omega)) ?_ | refine KD.y0 rfl rfl rfl rfl (Val.indexS1 rfl rfl rfl rfl (by omega)) ?_ | refine KD.y0 rfl rfl rfl rfl (Val.indexS rfl rfl rfl rfl (by omega)) ?_ | refine KD.y0 rfl rfl rfl rfl (Val.indexSO rfl rfl rfl rfl (by omega)) ?_ | refine KD.y0 rfl rfl rfl rfl (Val.indexSG rfl rfl rfl rfl (by omega)) ?_)
          (first | refine KD.no rfl rfl rfl rfl rfl ?_ | refine KD.noU rfl rfl rfl rfl rfl ?_ | refine KD.y0 rfl rfl rfl rfl (Val.loadP rfl rfl bySee) ?_)
          (first | refine KD.no rfl rfl rfl rfl rfl ?_ | refine KD.noU rfl rfl rfl rfl rfl ?_ | refine KD.y0 rfl rfl rfl rfl (Val.move rfl) ?_)
          (first | refine KD.no rfl rfl rfl rfl rfl ?_ | refine KD.noU rfl rfl rfl rfl rfl ?_ | refine KD.y0 rfl rfl rfl rfl (Val.move rfl) ?_)
          (first | refine KD.no rfl rfl rfl rfl rfl ?_ | refine KD.noU rfl rfl rfl rfl rfl ?_ | refine KD.y0 rfl rfl rfl rfl (Val.idxSl rfl rfl rfl bySli rfl byLt) ?_ | refine KD.y0 rfl rfl rfl rfl (Val.idxSlZ rfl rfl rfl bySli rfl (by omega)) ?_ | refine KD.y0 rfl rfl rfl rfl (Val.indexS1 rfl rfl rfl rfl (by omega)) ?_ | refine KD.y0 rfl rfl rfl rfl (Val.indexS rfl rfl rfl rfl (by omega)) ?_ | refine KD.y0 rfl rfl rfl rfl (Val.indexSO rfl rfl rfl rfl (by omega)) ?_ | refine KD.y0 rfl rfl rfl rfl (Val.indexSG rfl rfl rfl rfl (by omega)) ?_)
          (first | refine KD.no rfl rfl rfl rfl rfl ?_ | refine KD.noU rfl rfl rfl rfl rfl ?_ | refine KD.y0 rfl rfl rfl rfl (Val.loadP rfl rfl bySee) ?_)
          (first | refine KD.no rfl rfl rfl rfl rfl ?_ | refine KD.noU rfl rfl rfl rfl rfl ?_ | refine KD.y0 rfl rfl rfl rfl (Val.lenSl rfl rfl bySli) ?_ | refine KD.y0 rfl rfl rfl rfl (Val.lenS rfl rfl) ?_)
          (first | refine KD.no rfl rfl rfl rfl rfl ?_ | refine KD.noU rfl rfl rfl rfl rfl ?_ | refine KD.y0 rfl rfl rfl rfl (Val.isT (Val.lss rfl rfl) byLt) ?_ | refine KD.y0 rfl rfl rfl rfl (Val.isF (Val.lss rfl rfl) byLt) ?_ | refine KD.y0 rfl rfl rfl rfl (Val.lss rfl rfl) ?_)
          (first | refine KD.v0 rfl rfl (Val.pickT rfl rfl rfl) ?_ | refine KD.v0 rfl rfl (Val.pickF rfl rfl rfl) ?_ | refine KD.v0 rfl rfl (Val.pickB rfl rfl rfl) ?_)
          refine KD.nil ?_
          refine byCode ?_
          (refine KL.v rfl (Val.move rfl) ?_)
          (first | (refine KL.v rfl (Val.add rfl rfl (by simp only [Go.Proofs.Ytdkanfjpdnjhcaa.lo, Go.Proofs.Ytdkanfjpdnjhcaa.hi]; omega)) ?_) | (refine KL.v rfl (Val.addW rfl rfl) ?_))
          (refine KL.v rfl (Val.assign rfl) ?_)
          refine KL.nil ?_
          exact KE.again ⟨k + 1, told, ot, oo⟩ bySub byPart ⟨by show k + 1 ≤ _; omega, okt, oko, hTo⟩ (by show ts.length - (k + 1) < ts.length - k; omega)
      · have hst := stay (by
          unfold popAt
          rw [if_neg (by omega), Int.toNat_natCast, List.getElem?_eq_none (by omega)])
        clear stay
        rw [← hst] at oko hTo ⊢
        refine byCodeD ?_
        (first | refine K.seq (K.drawn _ [(0, 0), (1, 0), (2, 0), (3, 0), (4, 0), (5, 0), (6, 0), (7, 0), (8, 0), (9, 0), (10, 0), (11, 0), (12, 0), (13, 0), (14, 0), (15, 0), (16, 0), (17, 0), (18, 0), (19, 0)] (by kernel_rfl) (by kernel_rfl) (by kernel_rfl) (by kernel_rfl) (by kernel_rfl) (by kernel_rfl) Part.all ?_) | refine K.seq (K.seq (K.drawn _ [(0, 0), (1, 0), (2, 0), (3, 0), (4, 0), (5, 0), (6, 0), (7, 0), (8, 0), (9, 0), (10, 0), (11, 0), (12, 0), (13, 0), (14, 0), (15, 0), (16, 0), (17, 0), (18, 0), (19, 0)] (by kernel_rfl) (by kernel_rfl) (by kernel_rfl) (by kernel_rfl) (by kernel_rfl) (by kernel_rfl) Part.all ?_)) | refine K.drawn _ [(0, 0), (1, 0), (2, 0), (3, 0), (4, 0), (5, 0), (6, 0), (7, 0), (8, 0), (9, 0), (10, 0), (11, 0), (12, 0), (13, 0), (14, 0), (15, 0), (16, 0), (17, 0), (18, 0), (19, 0)] (by kernel_rfl) (by kernel_rfl) (by kernel_rfl) (by kernel_rfl) (by kernel_rfl) (by kernel_rfl) Part.all ?_)
        refine KD.v0 rfl rfl (Val.move rfl) ?_
        (first | refine KD.v0 rfl rfl (Val.isT (Val.geq rfl rfl) byLt) ?_ | refine KD.v0 rfl rfl (Val.isF (Val.geq rfl rfl) byLt) ?_ | refine KD.v0 rfl rfl (Val.geq rfl rfl) ?_)
        refine KD.v0 rfl rfl (Val.move rfl) ?_
        (first | refine KD.no rfl rfl rfl rfl rfl ?_ | refine KD.noU rfl rfl rfl rfl rfl ?_ | refine KD.y0 rfl rfl rfl rfl (Val.move rfl) ?_)
        (first | refine KD.no rfl rfl rfl rfl rfl ?_ | refine KD.noU rfl rfl rfl rfl rfl ?_ | refine KD.y0 rfl rfl rfl rfl (Val.move rfl) ?_)
        (first | refine KD.no rfl rfl rfl rfl rfl ?_ | refine KD.noU rfl rfl rfl rfl rfl ?_ | refine KD.y0 rfl rfl rfl rfl (Val.lenSl rfl rfl bySli) ?_ | refine KD.y0 rfl rfl rfl rfl (Val.lenS rfl rfl) ?_)
        (first | refine KD.no rfl rfl rfl rfl rfl ?_ | refine KD.noU rfl rfl rfl rfl rfl ?_ | refine KD.y0 rfl rfl rfl rfl (Val.isT (Val.lss rfl rfl) byLt) ?_ | refine KD.y0 rfl rfl rfl rfl (Val.isF (Val.lss rfl rfl) byLt) ?_ | refine KD.y0 rfl rfl rfl rfl (Val.lss rfl rfl) ?_)
        (first | refine KD.v0 rfl rfl (Val.pickT rfl rfl rfl) ?_ | refine KD.v0 rfl rfl (Val.pickF rfl rfl rfl) ?_ | refine KD.v0 rfl rfl (Val.pickB rfl rfl rfl) ?_)
        refine KD.v0 rfl rfl (Val.move rfl) ?_
        (first | refine KD.no rfl rfl rfl rfl rfl ?_ | refine KD.noU rfl rfl rfl rfl rfl ?_ | refine KD.y0 rfl rfl rfl rfl (Val.move rfl) ?_)
        (first | refine KD.no rfl rfl rfl rfl rfl ?_ | refine KD.noU rfl rfl rfl rfl rfl ?_ | refine KD.y0 rfl rfl rfl rfl (Val.move rfl) ?_)
        (first | refine KD.no rfl rfl rfl rfl rfl ?_ | refine KD.noU rfl rfl rfl rfl rfl ?_ | refine KD.y0 rfl rfl rfl rfl (Val.idxSl rfl rfl rfl bySli rfl byLt) ?_ | refine KD.y0 rfl rfl rfl rfl (Val.idxSlZ rfl rfl rfl bySli rfl (by omega)) ?_ | refine KD.y0 rfl rfl rfl rfl (Val.indexS1 rfl rfl rfl rfl (by omega)) ?_ | refine KD.y0 rfl rfl rfl rfl (Val.indexS rfl rfl rfl rfl (by omega)) ?_ | refine KD.y0 rfl rfl rfl rfl (Val.indexSO rfl rfl rfl rfl (by omega)) ?_ | refine KD.y0 rfl rfl rfl rfl (Val.indexSG rfl rfl rfl rfl (by omega)) ?_)
        (first | refine KD.no rfl rfl rfl rfl rfl ?_ | refine KD.noU rfl rfl rfl rfl rfl ?_ | refine KD.y0 rfl rfl rfl rfl (Val.loadP rfl rfl bySee) ?_)
        (first | refine KD.no rfl rfl rfl rfl rfl ?_ | refine KD.noU rfl rfl rfl rfl rfl ?_ | refine KD.y0 rfl rfl rfl rfl (Val.move rfl) ?_)
        (first | refine KD.no rfl rfl rfl rfl rfl ?_ | refine KD.noU rfl rfl rfl rfl rfl ?_ | refine KD.y0 rfl rfl rfl rfl (Val.move rfl) ?_)
        (first | refine KD.no rfl rfl rfl rfl rfl ?_ | refine KD.noU rfl rfl rfl rfl rfl ?_ | refine KD.y0 rfl rfl rfl rfl (Val.idxSl rfl rfl rfl bySli rfl byLt) ?_ | refine KD.y0 rfl rfl rfl rfl (Val.idxSlZ rfl rfl rfl bySli rfl (by omega)) ?_ | refine KD.y0 rfl rfl rfl rfl (Val.indexS1 rfl rfl rfl rfl (by omega)) ?_ | refine KD.y0 rfl rfl rfl rfl (Val.indexS rfl rfl rfl rfl (by omega)) ?_ | refine KD.y0 rfl rfl rfl rfl (Val.indexSO rfl rfl rfl rfl (by omega)) ?_ | refine KD.y0 rfl rfl rfl rfl (Val.indexSG rfl rfl rfl rfl (by omega)) ?_)
        (first | refine KD.no rfl rfl rfl rfl rfl ?_ | refine KD.noU rfl rfl rfl rfl rfl ?_ | refine KD.y0 rfl rfl rfl rfl (Val.loadP rfl rfl bySee) ?_)
        (first | refine KD.no rfl rfl rfl rfl rfl ?_ | refine KD.noU rfl rfl rfl rfl rfl ?_ | refine KD.y0 rfl rfl rfl rfl (Val.lenSl rfl rfl bySli) ?_ | refine KD.y0 rfl rfl rfl rfl (Val.lenS rfl rfl) ?_)
        (first | refine KD.no rfl rfl rfl rfl rfl ?_ | refine KD.noU rfl rfl rfl rfl rfl ?_ | refine KD.y0 rfl rfl rfl rfl (Val.isT (Val.lss rfl rfl) byLt) ?_ | refine KD.y0 rfl rfl rfl rfl (Val.isF (Val.lss rfl rfl) byLt) ?_ | refine KD.y0 rfl rfl rfl rfl (Val.lss rfl rfl) ?_)
        (first | refine KD.v0 rfl rfl (Val.pickT rfl rfl rfl) ?_ | refine KD.v0 rfl rfl (Val.pickF rfl rfl rfl) ?_ | refine KD.v0 rfl rfl (Val.pickB rfl rfl rfl) ?_)
        refine KD.nil ?_
        refine byCode ?_
        (refine KL.v rfl (Val.move rfl) ?_)
        (first | (refine KL.v rfl (Val.add rfl rfl (by simp only [Go.Proofs.Ytdkanfjpdnjhcaa.lo, Go.Proofs.Ytdkanfjpdnjhcaa.hi]; omega)) ?_) | (refine KL.v rfl (Val.addW rfl rfl) ?_))
        (refine KL.v rfl (Val.assign rfl) ?_)
        refine KL.nil ?_
        exact KE.again ⟨k + 1, told, ot, oo⟩ bySub byPart ⟨by show k + 1 ≤ _; omega, okt, oko, hTo⟩ (by show ts.length - (k + 1) < ts.length - k; omega)
  · have hke : ts.take k = ts := List.take_of_length_le (by omega)
    rw [hke] at oko hTo hinv ⊢
    obtain ⟨rs, hrs⟩ : ∃ rs, rs = (mst rows ts).1 := ⟨_, rfl⟩
    obtain ⟨out, hout⟩ : ∃ out, out = (mst rows ts).2 := ⟨_, rfl⟩
    have hmp : mergeP rows ts = out ++ finFrom 0 rs := by rw [hrs, hout]; rfl
    rw [← hrs] at hTo hinv
    rw [← hout] at oko hinv ⊢
    rw [hmp]
    clear hmp hrs hout hke
    refine byCode ?_
    (refine KL.v rfl (Val.move rfl) ?_)
    (refine KL.v rfl (Val.move rfl) ?_)
    (first | (refine KL.v rfl (Val.lenSl rfl rfl bySli) ?_) | (refine KL.v rfl (Val.lenS rfl rfl) ?_))
    (first | (refine KL.v rfl (Val.isT (Val.lss rfl rfl) byLt) ?_) | (refine KL.v rfl (Val.isF (Val.lss rfl rfl) byLt) ?_) | (refine KL.v rfl (Val.lss rfl rfl) ?_))
    refine KL.nil ?_
    refine byCode ?_
    (refine KL.v rfl (Val.assign rfl) ?_)
    refine KL.nil ?_
    refine byBlk ?_
    refine K.loop (σ := Nat × Own) (fun s => [(9, .int .i64 (s.1 : Nat)), (5, oV ot told.length), (6, oV s.2 (out ++ finFrom 0 (rs.take s.1)).length), (0, vp)])
      (fun s => oH nE 3 told ot ++ (oH wE 48 (out ++ finFrom 0 (rs.take s.1)) s.2 ++ [])) (fun s => s.1 ≤ ps.length ∧ oOk wE (out ++ finFrom 0 (rs.take s.1)) s.2) (fun s => ps.length - s.1) (0, oo) ⟨⟨_, rfl, rfl⟩, ⟨_, rfl, rfl⟩, ⟨_, rfl, by simp [finFrom]⟩, ⟨_, rfl, rfl⟩, trivial⟩ (by
        dsimp only
        rw [show out ++ finFrom 0 (rs.take 0) = out by simp [finFrom]]
        exact byPart) ⟨by simp, by simpa [finFrom] using oko⟩ ?_
    rintro ⟨t, o2⟩ ⟨ht, ok2⟩
    dsimp only at ht ok2 ⊢
    by_cases htl : t < ps.length
    · obtain ⟨p, hp⟩ := get_of_lt htl
      obtain ⟨r, hr⟩ := get_of_lt (l := rows) (k := t) (by omega)
      have htt : t < told.length := by rw [hTo.len]; omega
      obtain ⟨m, hm⟩ := get_of_lt htt
      obtain ⟨hmr, hrs⟩ := hTo.at_ t m r hm hr
      have hrow := hR0.row t p r hp hr
      have hfin : finFrom 0 (rs.take (t + 1)) = finFrom 0 (rs.take t) ++ (r.drop m).map (fun s => ⟨(t : Int), s⟩) := by
        rw [take_snoc hrs, finFrom_snoc]
        rw [show 0 + (rs.take t).length = t by simp; have := hTo.len2; omega]
      have hrlen : r.length ≤ 100000 := Nat.le_trans (row_le hr) htot
      have hbd : (out ++ finFrom 0 (rs.take t)).length ≤ 100000 := by
        have h1 : tot rs = tot (rs.take t) + tot (rs.drop t) := by
          rw [← tot_app, List.take_append_drop]
        rw [List.length_append, finFrom_len]
        omega
      refine byCode ?_
      (refine KL.v rfl (Val.move rfl) ?_)
      (refine KL.v rfl (Val.move rfl) ?_)
      (first | (refine KL.v rfl (Val.lenSl rfl rfl bySli) ?_) | (refine KL.v rfl (Val.lenS rfl rfl) ?_))
      (first | (refine KL.v rfl (Val.isT (Val.lss rfl rfl) byLt) ?_) | (refine KL.v rfl (Val.isF (Val.lss rfl rfl) byLt) ?_) | (refine KL.v rfl (Val.lss rfl rfl) ?_))
      refine KL.nil ?_
      refine byCode ?_
      refine K.seq (K.block ?_)
      refine byCode ?_
      (refine KL.v rfl (Val.move rfl) ?_)
      (refine KL.v rfl (Val.move rfl) ?_)
      (first | (refine KL.v rfl (Val.idxSl rfl rfl rfl bySli rfl byLt) ?_) | (refine KL.v rfl (Val.idxSlZ rfl rfl rfl bySli rfl (by omega)) ?_) | (refine KL.v rfl (Val.indexS1 rfl rfl rfl rfl (by omega)) ?_) | (refine KL.v rfl (Val.indexS rfl rfl rfl rfl (by omega)) ?_) | (refine KL.v rfl (Val.indexSO rfl rfl rfl rfl (by omega)) ?_) | (refine KL.v rfl (Val.indexSG rfl rfl rfl rfl (by omega)) ?_))
      (refine KL.v rfl (Val.loadP rfl rfl bySee) ?_)
      (refine KL.v rfl (Val.assign rfl) ?_)
      refine KL.nil ?_
      refine byBlk ?_
      refine K.loop (σ := Nat × Own) (fun s => [(10, .int .i64 ((m + s.1 : Nat) : Int)), (9, .int .i64 (t : Nat)), (5, oV ot told.length), (6, oV s.2 (out ++ finFrom 0 (rs.take t) ++ ((r.drop m).take s.1).map (fun s => (⟨(t : Int), s⟩ : Wat))).length), (0, vp)])
        (fun s => oH nE 3 told ot ++ (oH wE 48 (out ++ finFrom 0 (rs.take t) ++ ((r.drop m).take s.1).map (fun s => (⟨(t : Int), s⟩ : Wat))) s.2 ++ []))
        (fun s => m + s.1 ≤ r.length ∧ oOk wE (out ++ finFrom 0 (rs.take t) ++ ((r.drop m).take s.1).map (fun s => (⟨(t : Int), s⟩ : Wat))) s.2) (fun s => r.length - (m + s.1)) (0, o2) bySub (by
          dsimp only
          simp only [List.take_zero, List.map_nil, List.append_nil]
          exact byPart) ⟨by simpa using hmr, by simpa using ok2⟩ ?_
      rintro ⟨j, o3⟩ ⟨hj, ok3⟩
      dsimp only at hj ok3 ⊢
      by_cases hjl : m + j < r.length
      · obtain ⟨s, hs⟩ := get_of_lt hjl
        have hs2 : (r.drop m)[j]? = some s := by rw [List.getElem?_drop]; exact hs
        have hnx : out ++ finFrom 0 (rs.take t) ++ ((r.drop m).take j).map (fun s => ⟨(t : Int), s⟩) ++ [⟨(t : Int), s⟩] = out ++ finFrom 0 (rs.take t) ++ ((r.drop m).take (j + 1)).map (fun s => (⟨(t : Int), s⟩ : Wat)) := by
          rw [take_snoc hs2]; simp
        have hz : (out ++ finFrom 0 (rs.take t) ++ ((r.drop m).take (j + 1)).map (fun s => (⟨(t : Int), s⟩ : Wat))).length ≤ 4294967296 := by
          rw [List.length_append, List.length_map, List.length_take, List.length_drop]; omega
        refine byCode ?_
        (refine KL.v rfl (Val.move rfl) ?_)
        (refine KL.v rfl (Val.move rfl) ?_)
        (refine KL.v rfl (Val.move rfl) ?_)
        (first | (refine KL.v rfl (Val.idxSl rfl rfl rfl bySli rfl byLt) ?_) | (refine KL.v rfl (Val.idxSlZ rfl rfl rfl bySli rfl (by omega)) ?_) | (refine KL.v rfl (Val.indexS1 rfl rfl rfl rfl (by omega)) ?_) | (refine KL.v rfl (Val.indexS rfl rfl rfl rfl (by omega)) ?_) | (refine KL.v rfl (Val.indexSO rfl rfl rfl rfl (by omega)) ?_) | (refine KL.v rfl (Val.indexSG rfl rfl rfl rfl (by omega)) ?_))
        (refine KL.v rfl (Val.loadP rfl rfl bySee) ?_)
        (first | (refine KL.v rfl (Val.lenSl rfl rfl bySli) ?_) | (refine KL.v rfl (Val.lenS rfl rfl) ?_))
        (first | (refine KL.v rfl (Val.isT (Val.lss rfl rfl) byLt) ?_) | (refine KL.v rfl (Val.isF (Val.lss rfl rfl) byLt) ?_) | (refine KL.v rfl (Val.lss rfl rfl) ?_))
        refine KL.nil ?_
        refine byCode ?_
        refine K.seq (K.block ?_)
        refine byCode ?_
        (refine KL.v rfl (Val.move rfl) ?_)
        (refine KL.v rfl (Val.move rfl) ?_)
        (refine KL.v rfl (Val.move rfl) ?_)
        (refine KL.v rfl (Val.move rfl) ?_)
        (first | (refine KL.v rfl (Val.idxSl rfl rfl rfl bySli rfl byLt) ?_) | (refine KL.v rfl (Val.idxSlZ rfl rfl rfl bySli rfl (by omega)) ?_) | (refine KL.v rfl (Val.indexS1 rfl rfl rfl rfl (by omega)) ?_) | (refine KL.v rfl (Val.indexS rfl rfl rfl rfl (by omega)) ?_) | (refine KL.v rfl (Val.indexSO rfl rfl rfl rfl (by omega)) ?_) | (refine KL.v rfl (Val.indexSG rfl rfl rfl rfl (by omega)) ?_))
        (refine KL.v rfl (Val.loadP rfl rfl bySee) ?_)
        (refine KL.v rfl (Val.move rfl) ?_)
        (first | (refine KL.v rfl (Val.idxSl rfl rfl rfl bySli rfl byLt) ?_) | (refine KL.v rfl (Val.idxSlZ rfl rfl rfl bySli rfl (by omega)) ?_) | (refine KL.v rfl (Val.indexS1 rfl rfl rfl rfl (by omega)) ?_) | (refine KL.v rfl (Val.indexS rfl rfl rfl rfl (by omega)) ?_) | (refine KL.v rfl (Val.indexSO rfl rfl rfl rfl (by omega)) ?_) | (refine KL.v rfl (Val.indexSG rfl rfl rfl rfl (by omega)) ?_))
        (first | (refine KL.v rfl (Val.loadAP rfl rfl rfl bySeeA) ?_) | (refine KL.v rfl (Val.loadA rfl rfl rfl bySeeN) ?_))
        (refine KL.v rfl (Val.build byParts rfl rfl byFill) ?_)
        (refine KL.e rfl (Eff.buildS byParts rfl rfl rfl rfl rfl byFill) ?_; rintro _ _ ⟨b94, rfl, rfl⟩)
        -- STOP at region 16 op 11: {"h": "Op.call", "a": [{"callee": {"h": "Callee.builtin", "a": ["Builtin.append"]}, "args": [{"h": "Operand.tmp", "a": [84]}, {"h": "Operand.tmp", "a": [94]}], "argTypes": [32, 32]}]}
        (refine KL.e rfl (Eff.appZ (E := wE) (xs := out ++ finFrom 0 (rs.take t) ++ ((r.drop m).take j).map (fun s => ⟨(t : Int), s⟩)) (o := o3) (ys := [⟨(t : Int), s⟩]) (zs := out ++ finFrom 0 (rs.take t) ++ ((r.drop m).take (j + 1)).map (fun s => ⟨(t : Int), s⟩)) rfl rfl rfl rfl rfl rfl byTakeL (by assumption) (by first | exact Sli.blk byTake rfl (by first | decide | simp) (by first | decide | (unfold maxLen; omega)) rfl | exact Sli.old (by assumption) | exact Sli.own byTakeL (by assumption) byLen | assumption | exact Sli.part (by assumption) byPart) (hnx) (by first | assumption | omega | (simp <;> fail) | (simp; omega)) rfl) ?_; rintro _ _ ⟨o', ok', rfl, rfl⟩)
        (refine KL.v rfl (Val.assign rfl) ?_)
        refine KL.nil ?_
        refine byCode ?_
        (refine KL.v rfl (Val.move rfl) ?_)
        (first | (refine KL.v rfl (Val.add rfl rfl (by simp only [Go.Proofs.Ytdkanfjpdnjhcaa.lo, Go.Proofs.Ytdkanfjpdnjhcaa.hi]; omega)) ?_) | (refine KL.v rfl (Val.addW rfl rfl) ?_))
        (refine KL.v rfl (Val.assign rfl) ?_)
        refine KL.nil ?_
        exact KE.again (j + 1, o') bySub byPart ⟨by show m + (j + 1) ≤ _; omega, ok'⟩ (by show r.length - (m + (j + 1)) < r.length - (m + j); omega)
      · have hje : (r.drop m).take j = r.drop m := List.take_of_length_le (by simp; omega)
        rw [hje, List.append_assoc, ← hfin] at ok3 ⊢
        refine byCode ?_
        (refine KL.v rfl (Val.move rfl) ?_)
        (refine KL.v rfl (Val.move rfl) ?_)
        (refine KL.v rfl (Val.move rfl) ?_)
        (first | (refine KL.v rfl (Val.idxSl rfl rfl rfl bySli rfl byLt) ?_) | (refine KL.v rfl (Val.idxSlZ rfl rfl rfl bySli rfl (by omega)) ?_) | (refine KL.v rfl (Val.indexS1 rfl rfl rfl rfl (by omega)) ?_) | (refine KL.v rfl (Val.indexS rfl rfl rfl rfl (by omega)) ?_) | (refine KL.v rfl (Val.indexSO rfl rfl rfl rfl (by omega)) ?_) | (refine KL.v rfl (Val.indexSG rfl rfl rfl rfl (by omega)) ?_))
        (refine KL.v rfl (Val.loadP rfl rfl bySee) ?_)
        (first | (refine KL.v rfl (Val.lenSl rfl rfl bySli) ?_) | (refine KL.v rfl (Val.lenS rfl rfl) ?_))
        (first | (refine KL.v rfl (Val.isT (Val.lss rfl rfl) byLt) ?_) | (refine KL.v rfl (Val.isF (Val.lss rfl rfl) byLt) ?_) | (refine KL.v rfl (Val.lss rfl rfl) ?_))
        refine KL.nil ?_
        refine byCode ?_
        (refine KL.v rfl (Val.move rfl) ?_)
        (first | (refine KL.v rfl (Val.add rfl rfl (by simp only [Go.Proofs.Ytdkanfjpdnjhcaa.lo, Go.Proofs.Ytdkanfjpdnjhcaa.hi]; omega)) ?_) | (refine KL.v rfl (Val.addW rfl rfl) ?_))
        (refine KL.v rfl (Val.assign rfl) ?_)
        refine KL.nil ?_
        exact KE.again (t + 1, o3) bySub byPart ⟨by show t + 1 ≤ _; omega, ok3⟩ (by show ps.length - (t + 1) < ps.length - t; omega)
    · have hte : rs.take t = rs := List.take_of_length_le (by have := hTo.len2; omega)
      rw [hte] at ok2 ⊢
      refine byCode ?_
      (refine KL.v rfl (Val.move rfl) ?_)
      (refine KL.v rfl (Val.move rfl) ?_)
      (first | (refine KL.v rfl (Val.lenSl rfl rfl bySli) ?_) | (refine KL.v rfl (Val.lenS rfl rfl) ?_))
      (first | (refine KL.v rfl (Val.isT (Val.lss rfl rfl) byLt) ?_) | (refine KL.v rfl (Val.isF (Val.lss rfl rfl) byLt) ?_) | (refine KL.v rfl (Val.lss rfl rfl) ?_))
      refine KL.nil ?_
      refine byCode ?_
      (refine KL.v rfl (Val.move rfl) ?_)
      (refine KL.v rfl (Val.assign rfl) ?_)
      refine KL.nil ?_
      refine byCode ?_
      exact KE.fin byMarks rfl byRes byPart ⟨o2, ok2, rfl, rfl⟩
end Go.Proofs.Ytdkanfjpdnjhcaa
