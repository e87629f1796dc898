/- Trace: parts that are merged: the program's. -/
import Derived.Test.YtdkanfjpdnjhcaaTrW6
namespace Go.Proofs.Ytdkanfjpdnjhcaa
open Go.RowKit
set_option linter.unusedVariables false
set_option linter.unusedSimpArgs false

/-- a slice value as an element -/
structure SV where
  a : Option Addr
  n : Nat
  c : Nat
def svE : Enc SV := ⟨fun x => [.slice x.a x.n x.c], 1, fun _ => rfl, by intro x v hv; simp at hv; subst hv; rfl⟩
def tlV (p : SV) (k : Nat) : SV := ⟨if p.c = 1 then p.a else p.a.map (·.add (1 * 8)), k - 1, p.c - 1⟩
structure RowsOf (w0 : World) (ls : List SV) (rows : List (List Seen)) : Prop where
  len : ls.length = rows.length
  row : ∀ (i : Nat) (p : SV) (r : List Seen), ls[i]? = some p → rows[i]? = some r → SlW w0 sE (.slice p.a p.n p.c) r

def popAt (rows : List (List Seen)) (t : Int) : Option (Seen × List (List Seen)) := if t < 0 then none else match rows[t.toNat]? with
  | some (s :: r) => some (s, rows.set t.toNat r)
  | _ => none

theorem RowsOf.pop {w0 : World} {ls : List SV} {rows : List (List Seen)} (h : RowsOf w0 ls rows) {n : Nat} {p : SV} {s : Seen} {r : List Seen} (hp : ls[n]? = some p) (hr : rows[n]? = some (s :: r)) : RowsOf w0 (ls.set n (tlV p (s :: r).length)) (rows.set n r) := by
  refine ⟨by simp [h.len], ?_⟩
  intro i q r' hq hr'
  by_cases hi : n = i
  · subst hi
    rw [List.getElem?_set_self (lt_of_get hp)] at hq
    rw [List.getElem?_set_self (lt_of_get hr)] at hr'
    cases hq; cases hr'
    have := (h.row n p _ hp hr).sub (l := 1) (h := (s :: r).length) (by simp) (Nat.le_refl _)
    rw [List.take_length] at this
    exact this
  · rw [List.getElem?_set_ne hi] at hq hr'
    exact h.row i q r' hq hr'

def MergeH (w0 : World) (b5 b6 : Nat) (rows : List (List Seen)) (out : List Wat) (A : Heap) : Prop := ∃ ls ol oo, oOk svE ls ol ∧ oOk wE out oo ∧ RowsOf w0 ls rows ∧
  A = (b5, cells [oV ol ls.length] 40) :: (b6, cells [oV oo out.length] 32) :: (oH svE 22 ls ol ++ (oH wE 48 out oo ++ []))

set_option maxRecDepth 10000 in
theorem turnNo_K {w0 : World} {F A : Heap} {b5 b6 : Nat} {rows : List (List Seen)} {out : List Wat} {t : Int} (hM : MergeH w0 b5 b6 rows out A) (hp : popAt rows t = none) :
    Call Try.prog w0 34 [.int .i64 t, .pointer (some ⟨b5, 0, none⟩), .pointer (some ⟨b6, 0, none⟩)] (A ++ F) (fun v H' => v = .bool false ∧ H' = A ++ F) := by
  obtain ⟨ls, ol, oo, ok1, ok2, hR, rfl⟩ := hM
  refine Call.enter (n := 40) [(0, .int .i64 t), (1, .pointer (some ⟨b5, 0, none⟩)), (2, .pointer (some ⟨b6, 0, none⟩))] (by kernel_rfl) Try.func34 rfl rfl rfl ⟨rfl, rfl, rfl, trivial⟩ ?_
  simp only [List.cons_append, List.append_assoc, List.nil_append]
  by_cases h0 : t < 0
  · refine byCode ?_
    (refine KL.v rfl (Val.assign rfl) ?_)
    refine KL.nil ?_
    refine byCode ?_
    (refine KL.v rfl (Val.move rfl) ?_)
    (first | (refine KL.v rfl (Val.isT (Val.lss rfl rfl) byLt) ?_) | (refine KL.v rfl (Val.isF (Val.lss rfl rfl) byLt) ?_) | (refine KL.v rfl (Val.lss rfl rfl) ?_))
    (refine KL.v rfl (Val.move rfl) ?_)
    (first | refine KL.skipG rfl rfl rfl ?_ | refine KL.skipU rfl rfl rfl ?_ | (refine KL.yes rfl rfl ?_; refine KL.v rfl (Val.move rfl) ?_))
    (first | refine KL.skipG rfl rfl rfl ?_ | refine KL.skipU rfl rfl rfl ?_ | (refine KL.yes rfl rfl ?_; refine KL.v rfl (Val.loadP rfl rfl bySee) ?_))
    (first | refine KL.skipG rfl rfl rfl ?_ | refine KL.skipU rfl rfl rfl ?_ | (refine KL.yes rfl rfl ?_; refine KL.v rfl (Val.lenSl rfl rfl bySli) ?_) | (refine KL.yes rfl rfl ?_; refine KL.v rfl (Val.lenS rfl rfl) ?_))
    (first | refine KL.skipG rfl rfl rfl ?_ | refine KL.skipU rfl rfl rfl ?_ | (refine KL.yes rfl rfl ?_; refine KL.v rfl (Val.isT (Val.geq rfl rfl) byLt) ?_) | (refine KL.yes rfl rfl ?_; refine KL.v rfl (Val.isF (Val.geq rfl rfl) byLt) ?_) | (refine KL.yes rfl rfl ?_; refine KL.v rfl (Val.geq rfl rfl) ?_))
    (first | (refine KL.v rfl (Val.pickT rfl rfl rfl) ?_) | (refine KL.v rfl (Val.pickF rfl rfl rfl) ?_) | (refine KL.v rfl (Val.pickB rfl rfl rfl) ?_))
    (refine KL.v rfl (Val.move rfl) ?_)
    (first | refine KL.skipG rfl rfl rfl ?_ | refine KL.skipU rfl rfl rfl ?_ | (refine KL.yes rfl rfl ?_; refine KL.v rfl (Val.loadP rfl rfl bySee) ?_))
    (first | refine KL.skipG rfl rfl rfl ?_ | refine KL.skipU rfl rfl rfl ?_ | (refine KL.yes rfl rfl ?_; refine KL.v rfl (Val.move rfl) ?_))
    (first | refine KL.skipG rfl rfl rfl ?_ | refine KL.skipU rfl rfl rfl ?_ | (refine KL.yes rfl rfl ?_; refine KL.v rfl (Val.idxSl rfl rfl rfl bySli rfl byLt) ?_) | (refine KL.yes rfl rfl ?_; refine KL.v rfl (Val.idxSlZ rfl rfl rfl bySli rfl (by omega)) ?_) | (refine KL.yes rfl rfl ?_; refine KL.v rfl (Val.indexS1 rfl rfl rfl rfl (by omega)) ?_) | (refine KL.yes rfl rfl ?_; refine KL.v rfl (Val.indexS rfl rfl rfl rfl (by omega)) ?_) | (refine KL.yes rfl rfl ?_; refine KL.v rfl (Val.indexSO rfl rfl rfl rfl (by omega)) ?_) | (refine KL.yes rfl rfl ?_; refine KL.v rfl (Val.indexSG rfl rfl rfl rfl (by omega)) ?_))
    (first | refine KL.skipG rfl rfl rfl ?_ | refine KL.skipU rfl rfl rfl ?_ | (refine KL.yes rfl rfl ?_; refine KL.v rfl (Val.loadP rfl rfl bySee) ?_))
    (first | refine KL.skipG rfl rfl rfl ?_ | refine KL.skipU rfl rfl rfl ?_ | (refine KL.yes rfl rfl ?_; refine KL.v rfl (Val.lenSl rfl rfl bySli) ?_) | (refine KL.yes rfl rfl ?_; refine KL.v rfl (Val.lenS rfl rfl) ?_))
    (first | refine KL.skipG rfl rfl rfl ?_ | refine KL.skipU rfl rfl rfl ?_ | (refine KL.yes rfl rfl ?_; refine KL.v rfl (Val.isT (Val.eql rfl rfl) byLt) ?_) | (refine KL.yes rfl rfl ?_; refine KL.v rfl (Val.isF (Val.eql rfl rfl) byLt) ?_) | (refine KL.yes rfl rfl ?_; refine KL.v rfl (Val.eql rfl rfl) ?_))
    (first | (refine KL.v rfl (Val.pickT rfl rfl rfl) ?_) | (refine KL.v rfl (Val.pickF rfl rfl rfl) ?_) | (refine KL.v rfl (Val.pickB rfl rfl rfl) ?_))
    refine KL.nil ?_
    refine byCode ?_
    (refine KL.v rfl (Val.assign rfl) ?_)
    refine KL.nil ?_
    refine byCode ?_
    exact KE.fin byMarks rfl byRes byPart ⟨rfl, rfl⟩
  · obtain ⟨n, rfl⟩ := Int.eq_ofNat_of_zero_le (show 0 ≤ t by omega)
    by_cases h1 : (ls.length : Int) ≤ n
    · refine byCode ?_
      (refine KL.v rfl (Val.assign rfl) ?_)
      refine KL.nil ?_
      refine byCode ?_
      (refine KL.v rfl (Val.move rfl) ?_)
      (first | (refine KL.v rfl (Val.isT (Val.lss rfl rfl) byLt) ?_) | (refine KL.v rfl (Val.isF (Val.lss rfl rfl) byLt) ?_) | (refine KL.v rfl (Val.lss rfl rfl) ?_))
      (refine KL.v rfl (Val.move rfl) ?_)
      (first | refine KL.skipG rfl rfl rfl ?_ | refine KL.skipU rfl rfl rfl ?_ | (refine KL.yes rfl rfl ?_; refine KL.v rfl (Val.move rfl) ?_))
      (first | refine KL.skipG rfl rfl rfl ?_ | refine KL.skipU rfl rfl rfl ?_ | (refine KL.yes rfl rfl ?_; refine KL.v rfl (Val.loadP rfl rfl bySee) ?_))
      (first | refine KL.skipG rfl rfl rfl ?_ | refine KL.skipU rfl rfl rfl ?_ | (refine KL.yes rfl rfl ?_; refine KL.v rfl (Val.lenSl rfl rfl bySli) ?_) | (refine KL.yes rfl rfl ?_; refine KL.v rfl (Val.lenS rfl rfl) ?_))
      (first | refine KL.skipG rfl rfl rfl ?_ | refine KL.skipU rfl rfl rfl ?_ | (refine KL.yes rfl rfl ?_; refine KL.v rfl (Val.isT (Val.geq rfl rfl) byLt) ?_) | (refine KL.yes rfl rfl ?_; refine KL.v rfl (Val.isF (Val.geq rfl rfl) byLt) ?_) | (refine KL.yes rfl rfl ?_; refine KL.v rfl (Val.geq rfl rfl) ?_))
      (first | (refine KL.v rfl (Val.pickT rfl rfl rfl) ?_) | (refine KL.v rfl (Val.pickF rfl rfl rfl) ?_) | (refine KL.v rfl (Val.pickB rfl rfl rfl) ?_))
      (refine KL.v rfl (Val.move rfl) ?_)
      (first | refine KL.skipG rfl rfl rfl ?_ | refine KL.skipU rfl rfl rfl ?_ | (refine KL.yes rfl rfl ?_; refine KL.v rfl (Val.loadP rfl rfl bySee) ?_))
      (first | refine KL.skipG rfl rfl rfl ?_ | refine KL.skipU rfl rfl rfl ?_ | (refine KL.yes rfl rfl ?_; refine KL.v rfl (Val.move rfl) ?_))
      (first | refine KL.skipG rfl rfl rfl ?_ | refine KL.skipU rfl rfl rfl ?_ | (refine KL.yes rfl rfl ?_; refine KL.v rfl (Val.idxSl rfl rfl rfl bySli rfl byLt) ?_) | (refine KL.yes rfl rfl ?_; refine KL.v rfl (Val.idxSlZ rfl rfl rfl bySli rfl (by omega)) ?_) | (refine KL.yes rfl rfl ?_; refine KL.v rfl (Val.indexS1 rfl rfl rfl rfl (by omega)) ?_) | (refine KL.yes rfl rfl ?_; refine KL.v rfl (Val.indexS rfl rfl rfl rfl (by omega)) ?_) | (refine KL.yes rfl rfl ?_; refine KL.v rfl (Val.indexSO rfl rfl rfl rfl (by omega)) ?_) | (refine KL.yes rfl rfl ?_; refine KL.v rfl (Val.indexSG rfl rfl rfl rfl (by omega)) ?_))
      (first | refine KL.skipG rfl rfl rfl ?_ | refine KL.skipU rfl rfl rfl ?_ | (refine KL.yes rfl rfl ?_; refine KL.v rfl (Val.loadP rfl rfl bySee) ?_))
      (first | refine KL.skipG rfl rfl rfl ?_ | refine KL.skipU rfl rfl rfl ?_ | (refine KL.yes rfl rfl ?_; refine KL.v rfl (Val.lenSl rfl rfl bySli) ?_) | (refine KL.yes rfl rfl ?_; refine KL.v rfl (Val.lenS rfl rfl) ?_))
      (first | refine KL.skipG rfl rfl rfl ?_ | refine KL.skipU rfl rfl rfl ?_ | (refine KL.yes rfl rfl ?_; refine KL.v rfl (Val.isT (Val.eql rfl rfl) byLt) ?_) | (refine KL.yes rfl rfl ?_; refine KL.v rfl (Val.isF (Val.eql rfl rfl) byLt) ?_) | (refine KL.yes rfl rfl ?_; refine KL.v rfl (Val.eql rfl rfl) ?_))
      (first | (refine KL.v rfl (Val.pickT rfl rfl rfl) ?_) | (refine KL.v rfl (Val.pickF rfl rfl rfl) ?_) | (refine KL.v rfl (Val.pickB rfl rfl rfl) ?_))
      refine KL.nil ?_
      refine byCode ?_
      (refine KL.v rfl (Val.assign rfl) ?_)
      refine KL.nil ?_
      refine byCode ?_
      exact KE.fin byMarks rfl byRes byPart ⟨rfl, rfl⟩
    · have hn : n < ls.length := by omega
      obtain ⟨p, hpn⟩ := get_of_lt hn
      obtain ⟨r, hr⟩ := get_of_lt (l := rows) (k := n) (by rw [← hR.len]; exact hn)
      have hrow := hR.row n p r hpn hr
      have hre : r = [] := by
        unfold popAt at hp
        rw [if_neg h0, Int.toNat_natCast, hr] at hp
        cases r with
        | nil => rfl
        | cons s r => cases hp
      subst hre
      refine byCode ?_
      (refine KL.v rfl (Val.assign rfl) ?_)
      refine KL.nil ?_
      refine byCode ?_
      (refine KL.v rfl (Val.move rfl) ?_)
      (first | (refine KL.v rfl (Val.isT (Val.lss rfl rfl) byLt) ?_) | (refine KL.v rfl (Val.isF (Val.lss rfl rfl) byLt) ?_) | (refine KL.v rfl (Val.lss rfl rfl) ?_))
      (refine KL.v rfl (Val.move rfl) ?_)
      (first | refine KL.skipG rfl rfl rfl ?_ | refine KL.skipU rfl rfl rfl ?_ | (refine KL.yes rfl rfl ?_; refine KL.v rfl (Val.move rfl) ?_))
      (first | refine KL.skipG rfl rfl rfl ?_ | refine KL.skipU rfl rfl rfl ?_ | (refine KL.yes rfl rfl ?_; refine KL.v rfl (Val.loadP rfl rfl bySee) ?_))
      (first | refine KL.skipG rfl rfl rfl ?_ | refine KL.skipU rfl rfl rfl ?_ | (refine KL.yes rfl rfl ?_; refine KL.v rfl (Val.lenSl rfl rfl bySli) ?_) | (refine KL.yes rfl rfl ?_; refine KL.v rfl (Val.lenS rfl rfl) ?_))
      (first | refine KL.skipG rfl rfl rfl ?_ | refine KL.skipU rfl rfl rfl ?_ | (refine KL.yes rfl rfl ?_; refine KL.v rfl (Val.isT (Val.geq rfl rfl) byLt) ?_) | (refine KL.yes rfl rfl ?_; refine KL.v rfl (Val.isF (Val.geq rfl rfl) byLt) ?_) | (refine KL.yes rfl rfl ?_; refine KL.v rfl (Val.geq rfl rfl) ?_))
      (first | (refine KL.v rfl (Val.pickT rfl rfl rfl) ?_) | (refine KL.v rfl (Val.pickF rfl rfl rfl) ?_) | (refine KL.v rfl (Val.pickB rfl rfl rfl) ?_))
      (refine KL.v rfl (Val.move rfl) ?_)
      (first | refine KL.skipG rfl rfl rfl ?_ | refine KL.skipU rfl rfl rfl ?_ | (refine KL.yes rfl rfl ?_; refine KL.v rfl (Val.loadP rfl rfl bySee) ?_))
      (first | refine KL.skipG rfl rfl rfl ?_ | refine KL.skipU rfl rfl rfl ?_ | (refine KL.yes rfl rfl ?_; refine KL.v rfl (Val.move rfl) ?_))
      (first | refine KL.skipG rfl rfl rfl ?_ | refine KL.skipU rfl rfl rfl ?_ | (refine KL.yes rfl rfl ?_; refine KL.v rfl (Val.idxSl rfl rfl rfl bySli rfl byLt) ?_) | (refine KL.yes rfl rfl ?_; refine KL.v rfl (Val.idxSlZ rfl rfl rfl bySli rfl (by omega)) ?_) | (refine KL.yes rfl rfl ?_; refine KL.v rfl (Val.indexS1 rfl rfl rfl rfl (by omega)) ?_) | (refine KL.yes rfl rfl ?_; refine KL.v rfl (Val.indexS rfl rfl rfl rfl (by omega)) ?_) | (refine KL.yes rfl rfl ?_; refine KL.v rfl (Val.indexSO rfl rfl rfl rfl (by omega)) ?_) | (refine KL.yes rfl rfl ?_; refine KL.v rfl (Val.indexSG rfl rfl rfl rfl (by omega)) ?_))
      (first | refine KL.skipG rfl rfl rfl ?_ | refine KL.skipU rfl rfl rfl ?_ | (refine KL.yes rfl rfl ?_; refine KL.v rfl (Val.loadP rfl rfl bySee) ?_))
      (first | refine KL.skipG rfl rfl rfl ?_ | refine KL.skipU rfl rfl rfl ?_ | (refine KL.yes rfl rfl ?_; refine KL.v rfl (Val.lenSl rfl rfl bySli) ?_) | (refine KL.yes rfl rfl ?_; refine KL.v rfl (Val.lenS rfl rfl) ?_))
      (first | refine KL.skipG rfl rfl rfl ?_ | refine KL.skipU rfl rfl rfl ?_ | (refine KL.yes rfl rfl ?_; refine KL.v rfl (Val.isT (Val.eql rfl rfl) byLt) ?_) | (refine KL.yes rfl rfl ?_; refine KL.v rfl (Val.isF (Val.eql rfl rfl) byLt) ?_) | (refine KL.yes rfl rfl ?_; refine KL.v rfl (Val.eql rfl rfl) ?_))
      (first | (refine KL.v rfl (Val.pickT rfl rfl rfl) ?_) | (refine KL.v rfl (Val.pickF rfl rfl rfl) ?_) | (refine KL.v rfl (Val.pickB rfl rfl rfl) ?_))
      refine KL.nil ?_
      refine byCode ?_
      (refine KL.v rfl (Val.assign rfl) ?_)
      refine KL.nil ?_
      refine byCode ?_
      exact KE.fin byMarks rfl byRes byPart ⟨rfl, rfl⟩

set_option maxRecDepth 10000 in
theorem turnYes_K {w0 : World} {F A : Heap} {b5 b6 : Nat} {rows rows' : List (List Seen)} {out : List Wat} {t : Int} {s : Seen} (hM : MergeH w0 b5 b6 rows out A) (hl : out.length ≤ 100000) (hp : popAt rows t = some (s, rows')) :
    Call Try.prog w0 34 [.int .i64 t, .pointer (some ⟨b5, 0, none⟩), .pointer (some ⟨b6, 0, none⟩)] (A ++ F) (fun v H' => v = .bool true ∧ ∃ A', MergeH w0 b5 b6 rows' (out ++ [⟨t, s⟩]) A' ∧ H' = A' ++ F) := by
  obtain ⟨ls, ol, oo, ok1, ok2, hR, rfl⟩ := hM
  refine Call.enter (n := 40) [(0, .int .i64 t), (1, .pointer (some ⟨b5, 0, none⟩)), (2, .pointer (some ⟨b6, 0, none⟩))] (by kernel_rfl) Try.func34 rfl rfl rfl ⟨rfl, rfl, rfl, trivial⟩ ?_
  simp only [List.cons_append, List.append_assoc, List.nil_append]
  by_cases h0 : t < 0
  · exfalso; unfold popAt at hp; rw [if_pos h0] at hp; cases hp
  obtain ⟨n, rfl⟩ := Int.eq_ofNat_of_zero_le (show 0 ≤ t by omega)
  obtain ⟨r, hr, rfl⟩ : ∃ r, rows[n]? = some (s :: r) ∧ rows' = rows.set n r := by
    unfold popAt at hp
    rw [if_neg h0, Int.toNat_natCast] at hp
    split at hp
    · rename_i s' r' h; cases hp; exact ⟨r', h, rfl⟩
    · cases hp
  have hn : n < ls.length := by rw [hR.len]; exact lt_of_get hr
  obtain ⟨p, hpn⟩ := get_of_lt hn
  have hrow := hR.row n p (s :: r) hpn hr
  have hrs : (s :: r)[(0 : Int).toNat]? = some s := rfl
  have hrl : 1 ≤ (s :: r).length := by simp
  have hz : (out ++ [(⟨(n : Int), s⟩ : Wat)]).length ≤ 4294967296 := by simp; omega
  refine byCode ?_
  (refine KL.v rfl (Val.assign rfl) ?_)
  refine KL.nil ?_
  refine byCode ?_
  (refine KL.v rfl (Val.move rfl) ?_)
  (first | (refine KL.v rfl (Val.isT (Val.lss rfl rfl) byLt) ?_) | (refine KL.v rfl (Val.isF (Val.lss rfl rfl) byLt) ?_) | (refine KL.v rfl (Val.lss rfl rfl) ?_))
  (refine KL.v rfl (Val.move rfl) ?_)
  (first | refine KL.skipG rfl rfl rfl ?_ | refine KL.skipU rfl rfl rfl ?_ | (refine KL.yes rfl rfl ?_; refine KL.v rfl (Val.move rfl) ?_))
  (first | refine KL.skipG rfl rfl rfl ?_ | refine KL.skipU rfl rfl rfl ?_ | (refine KL.yes rfl rfl ?_; refine KL.v rfl (Val.loadP rfl rfl bySee) ?_))
  (first | refine KL.skipG rfl rfl rfl ?_ | refine KL.skipU rfl rfl rfl ?_ | (refine KL.yes rfl rfl ?_; refine KL.v rfl (Val.lenSl rfl rfl bySli) ?_) | (refine KL.yes rfl rfl ?_; refine KL.v rfl (Val.lenS rfl rfl) ?_))
  (first | refine KL.skipG rfl rfl rfl ?_ | refine KL.skipU rfl rfl rfl ?_ | (refine KL.yes rfl rfl ?_; refine KL.v rfl (Val.isT (Val.geq rfl rfl) byLt) ?_) | (refine KL.yes rfl rfl ?_; refine KL.v rfl (Val.isF (Val.geq rfl rfl) byLt) ?_) | (refine KL.yes rfl rfl ?_; refine KL.v rfl (Val.geq rfl rfl) ?_))
  (first | (refine KL.v rfl (Val.pickT rfl rfl rfl) ?_) | (refine KL.v rfl (Val.pickF rfl rfl rfl) ?_) | (refine KL.v rfl (Val.pickB rfl rfl rfl) ?_))
  (refine KL.v rfl (Val.move rfl) ?_)
  (first | refine KL.skipG rfl rfl rfl ?_ | refine KL.skipU rfl rfl rfl ?_ | (refine KL.yes rfl rfl ?_; refine KL.v rfl (Val.loadP rfl rfl bySee) ?_))
  (first | refine KL.skipG rfl rfl rfl ?_ | refine KL.skipU rfl rfl rfl ?_ | (refine KL.yes rfl rfl ?_; refine KL.v rfl (Val.move rfl) ?_))
  (first | refine KL.skipG rfl rfl rfl ?_ | refine KL.skipU rfl rfl rfl ?_ | (refine KL.yes rfl rfl ?_; refine KL.v rfl (Val.idxSl rfl rfl rfl bySli rfl byLt) ?_) | (refine KL.yes rfl rfl ?_; refine KL.v rfl (Val.idxSlZ rfl rfl rfl bySli rfl (by omega)) ?_) | (refine KL.yes rfl rfl ?_; refine KL.v rfl (Val.indexS1 rfl rfl rfl rfl (by omega)) ?_) | (refine KL.yes rfl rfl ?_; refine KL.v rfl (Val.indexS rfl rfl rfl rfl (by omega)) ?_) | (refine KL.yes rfl rfl ?_; refine KL.v rfl (Val.indexSO rfl rfl rfl rfl (by omega)) ?_) | (refine KL.yes rfl rfl ?_; refine KL.v rfl (Val.indexSG rfl rfl rfl rfl (by omega)) ?_))
  (first | refine KL.skipG rfl rfl rfl ?_ | refine KL.skipU rfl rfl rfl ?_ | (refine KL.yes rfl rfl ?_; refine KL.v rfl (Val.loadP rfl rfl bySee) ?_))
  (first | refine KL.skipG rfl rfl rfl ?_ | refine KL.skipU rfl rfl rfl ?_ | (refine KL.yes rfl rfl ?_; refine KL.v rfl (Val.lenSl rfl rfl bySli) ?_) | (refine KL.yes rfl rfl ?_; refine KL.v rfl (Val.lenS rfl rfl) ?_))
  (first | refine KL.skipG rfl rfl rfl ?_ | refine KL.skipU rfl rfl rfl ?_ | (refine KL.yes rfl rfl ?_; refine KL.v rfl (Val.isT (Val.eql rfl rfl) byLt) ?_) | (refine KL.yes rfl rfl ?_; refine KL.v rfl (Val.isF (Val.eql rfl rfl) byLt) ?_) | (refine KL.yes rfl rfl ?_; refine KL.v rfl (Val.eql rfl rfl) ?_))
  (first | (refine KL.v rfl (Val.pickT rfl rfl rfl) ?_) | (refine KL.v rfl (Val.pickF rfl rfl rfl) ?_) | (refine KL.v rfl (Val.pickB rfl rfl rfl) ?_))
  refine KL.nil ?_
  refine byCodeD ?_
  (first | refine K.seq (K.drawn ((b5, cells [oV ol ls.length] 40) :: (oH svE 22 ls ol ++ F)) [(0, 1), (1, 1), (2, 0), (3, 0), (4, 0), (5, 0), (6, 0), (7, 0), (8, 0), (9, 0), (10, 0), (13, 1), (14, 1), (15, 1), (16, 1), (17, 1), (11, 5), (12, 2), (18, 2), (19, 0), (20, 4)] (by kernel_rfl) (by kernel_rfl) (by kernel_rfl) (by kernel_rfl) (by kernel_rfl) (by kernel_rfl) byPart ?_) | refine K.seq (K.seq (K.drawn ((b5, cells [oV ol ls.length] 40) :: (oH svE 22 ls ol ++ F)) [(0, 1), (1, 1), (2, 0), (3, 0), (4, 0), (5, 0), (6, 0), (7, 0), (8, 0), (9, 0), (10, 0), (13, 1), (14, 1), (15, 1), (16, 1), (17, 1), (11, 5), (12, 2), (18, 2), (19, 0), (20, 4)] (by kernel_rfl) (by kernel_rfl) (by kernel_rfl) (by kernel_rfl) (by kernel_rfl) (by kernel_rfl) byPart ?_)) | refine K.drawn ((b5, cells [oV ol ls.length] 40) :: (oH svE 22 ls ol ++ F)) [(0, 1), (1, 1), (2, 0), (3, 0), (4, 0), (5, 0), (6, 0), (7, 0), (8, 0), (9, 0), (10, 0), (13, 1), (14, 1), (15, 1), (16, 1), (17, 1), (11, 5), (12, 2), (18, 2), (19, 0), (20, 4)] (by kernel_rfl) (by kernel_rfl) (by kernel_rfl) (by kernel_rfl) (by kernel_rfl) (by kernel_rfl) byPart ?_)
  refine KD.v1 rfl rfl (Val.loadP rfl rfl bySee) ?_
  refine KD.v1 rfl rfl (Val.move rfl) ?_
  refine KD.v0 rfl rfl (Val.loadP rfl rfl bySee) ?_
  refine KD.v0 rfl rfl (Val.move rfl) ?_
  refine KD.v0 rfl rfl (Val.loadP rfl rfl bySee) ?_
  refine KD.v0 rfl rfl (Val.move rfl) ?_
  (first | refine KD.v0 rfl rfl (Val.idxSl rfl rfl rfl bySli rfl byLt) ?_ | refine KD.v0 rfl rfl (Val.idxSlZ rfl rfl rfl bySli rfl (by omega)) ?_ | refine KD.v0 rfl rfl (Val.indexS1 rfl rfl rfl rfl (by omega)) ?_ | refine KD.v0 rfl rfl (Val.indexS rfl rfl rfl rfl (by omega)) ?_ | refine KD.v0 rfl rfl (Val.indexSO rfl rfl rfl rfl (by omega)) ?_ | refine KD.v0 rfl rfl (Val.indexSG rfl rfl rfl rfl (by omega)) ?_)
  refine KD.v0 rfl rfl (Val.loadP rfl rfl bySee) ?_
  (first | refine KD.v0 rfl rfl (Val.idxSl rfl rfl rfl bySli rfl byLt) ?_ | refine KD.v0 rfl rfl (Val.idxSlZ rfl rfl rfl bySli rfl (by omega)) ?_ | refine KD.v0 rfl rfl (Val.indexS1 rfl rfl rfl rfl (by omega)) ?_ | refine KD.v0 rfl rfl (Val.indexS rfl rfl rfl rfl (by omega)) ?_ | refine KD.v0 rfl rfl (Val.indexSO rfl rfl rfl rfl (by omega)) ?_ | refine KD.v0 rfl rfl (Val.indexSG rfl rfl rfl rfl (by omega)) ?_)
  (first | refine KD.v0 rfl rfl (Val.loadAP rfl rfl rfl bySeeA) ?_ | refine KD.v0 rfl rfl (Val.loadA rfl rfl rfl bySeeN) ?_)
  refine KD.v0 rfl rfl (Val.build byParts rfl rfl byFill) ?_
  refine KD.v1 rfl rfl (Val.loadP rfl rfl bySee) ?_
  refine KD.v1 rfl rfl (Val.move rfl) ?_
  (first | refine KD.v1 rfl rfl (Val.idxSl rfl rfl rfl bySli rfl byLt) ?_ | refine KD.v1 rfl rfl (Val.idxSlZ rfl rfl rfl bySli rfl (by omega)) ?_ | refine KD.v1 rfl rfl (Val.indexS1 rfl rfl rfl rfl (by omega)) ?_ | refine KD.v1 rfl rfl (Val.indexS rfl rfl rfl rfl (by omega)) ?_ | refine KD.v1 rfl rfl (Val.indexSO rfl rfl rfl rfl (by omega)) ?_ | refine KD.v1 rfl rfl (Val.indexSG rfl rfl rfl rfl (by omega)) ?_)
  refine KD.v1 rfl rfl (Val.loadP rfl rfl bySee) ?_
  (first | refine KD.v1 rfl rfl (Val.sliceL rfl rfl rfl bySli rfl byLt) ?_ | refine KD.v1 rfl rfl (Val.sliceLZ rfl rfl rfl bySli rfl (by omega)) ?_)
  (refine KD.eM rfl rfl (Eff.buildS byParts rfl rfl rfl rfl rfl byFill) ?_; rintro _ _ ⟨b32, rfl, rfl⟩; refine ⟨byPart, ?_⟩)
  -- STOP at region 3 op 12: {"h": "Op.call", "a": [{"callee": {"h": "Callee.builtin", "a": ["Builtin.append"]}, "args": [{"h": "Operand.tmp", "a": [23]}, {"h": "Operand.tmp", "a": [32]}], "argTypes": [32, 32]}]}
  (refine KD.e rfl rfl (Eff.appZ (E := wE) (xs := out) (o := oo) (ys := [⟨(n : Int), s⟩]) (zs := out ++ [⟨(n : Int), s⟩]) rfl rfl rfl rfl rfl rfl byTakeL (by assumption) (by first | exact Sli.blk byTake rfl (by first | decide | simp) (by first | decide | (unfold maxLen; omega)) rfl | exact Sli.old (by assumption) | exact Sli.own byTakeL (by assumption) byLen | assumption | exact Sli.part (by assumption) byPart) (rfl) (by first | assumption | omega | (simp <;> fail) | (simp; omega)) rfl) ?_; rintro _ _ ⟨o', ok', rfl, rfl⟩; refine ⟨byPart, ?_⟩)
  (first | (refine KD.eN rfl (Eff.storeL rfl rfl byOne rfl byTake bySetAt) ?_; rintro _ _ rfl; refine ⟨byPart, ?_⟩) | (refine KD.eN rfl (Eff.stSl rfl rfl rfl rfl byTakeL (by assumption) (by assumption) rfl rfl) ?_; rintro _ _ rfl; refine ⟨byPart, ?_⟩) | (refine KD.eN rfl (Eff.stSl0 rfl rfl rfl rfl byTakeL (by assumption) (by assumption) rfl rfl) ?_; rintro _ _ rfl; refine ⟨byPart, ?_⟩))
  (first | refine KD.v0 rfl rfl (Val.idxSl rfl rfl rfl bySli rfl byLt) ?_ | refine KD.v0 rfl rfl (Val.idxSlZ rfl rfl rfl bySli rfl (by omega)) ?_ | refine KD.v0 rfl rfl (Val.indexS1 rfl rfl rfl rfl (by omega)) ?_ | refine KD.v0 rfl rfl (Val.indexS rfl rfl rfl rfl (by omega)) ?_ | refine KD.v0 rfl rfl (Val.indexSO rfl rfl rfl rfl (by omega)) ?_ | refine KD.v0 rfl rfl (Val.indexSG rfl rfl rfl rfl (by omega)) ?_)
  -- STOP before op 20
  (first | (refine KD.eNX rfl (Eff.stSl (x1 := tlV p (s :: r).length) rfl rfl byOne rfl byTakeL (by assumption) (by assumption) rfl rfl) ?_; rintro _ _ rfl) | (refine KD.eNX rfl (Eff.stSl0 (x1 := tlV p (s :: r).length) rfl rfl byOne rfl byTakeL (by assumption) (by assumption) rfl rfl) ?_; rintro _ _ rfl))
  refine KD.nil ?_
  refine byCode ?_
  (refine KL.v rfl (Val.assign rfl) ?_)
  refine KL.nil ?_
  refine byCode ?_
  have hlen : (ls.set n (tlV p (s :: r).length)).length = ls.length := by simp
  have ok3 := ok1.set n (tlV p (s :: r).length)
  refine KE.part ((b5, cells [oV ol ls.length] 40) :: (b6, cells [oV o' (out ++ [(⟨(n : Int), s⟩ : Wat)]).length] 32) :: (oH svE 22 (ls.set n (tlV p (s :: r).length)) ol ++ (oH wE 48 (out ++ [⟨(n : Int), s⟩]) o' ++ F))) byPart ?_
  exact KE.fin byMarks rfl byRes byPart ⟨rfl, _, ⟨ls.set n (tlV p (s :: r).length), ol, o', ok3, ok', hR.pop hpn hr, rfl⟩, by rw [hlen]; simp⟩
end Go.Proofs.Ytdkanfjpdnjhcaa
