/- Graph: Way. -/
import Derived.Test.YtfgmofaadcbokaaGrP1
namespace Go.Proofs.Ytfgmofaadcbokaa
open Go.RowKit
set_option linter.unusedVariables false
set_option linter.unusedSimpArgs false

/-! ## the way, in plain words -/
def dTo (rows : List (List Int)) (to x : Int) : Int := ((depthsP (turnP rows) [to])[x.toNat]?).getD (-1)
def candP (rows : List (List Int)) (to : Int) (k : Nat) (sm : List Int) : List Int := (hereP rows.length sm).filter fun x => decide (dTo rows to x = k)
def pickP (rows : List (List Int)) (to : Int) (k : Nat) (sm : List Int) : Int := (candP rows to k sm).headD (-1)
def wayGo (rows : List (List Int)) (to : Int) : Nat → List Int → List Int
  | 0, _ => []
  | k + 1, sm => pickP rows to k sm :: wayGo rows to k (rowP rows (pickP rows to k sm))
def dAt (rows : List (List Int)) (frm : List Int) (x : Int) : Int := ((depthsP rows frm)[x.toNat]?).getD (-1)
def wayP (rows : List (List Int)) (frm : List Int) (to : Int) : List Int := if 0 ≤ to ∧ to < (rows.length : Nat) then wayGo rows to (dAt rows frm to + 1).toNat frm else []

theorem Nd.nat {rows : List (List Int)} {x : Int} (h : Nd rows x) : ∃ q : Nat, x = (q : Int) ∧ q < rows.length := ⟨x.toNat, by have := h.1; omega, by have := h.1; have := h.2; omega⟩
theorem dAt_is {rows : List (List Int)} {frm : List Int} {x : Int} (hx : Nd rows x) : IsD rows frm x (dAt rows frm x) := by
  obtain ⟨q, rfl, hq⟩ := hx.nat
  obtain ⟨d, h1, h2, _⟩ := depths_get (frm := frm) hq
  simp only [dAt, Int.toNat_natCast, h1]
  exact h2
theorem dTo_is {rows : List (List Int)} {to x : Int} (hx : Nd rows x) : IsD rows [x] to (dTo rows to x) := isD_turn.1 (dAt_is (rows := turnP rows) (frm := [to]) (nd_turn.2 hx))
theorem mem_cand {rows : List (List Int)} {to : Int} {k : Nat} {sm : List Int} {x : Int} : x ∈ candP rows to k sm ↔ x ∈ sm ∧ Nd rows x ∧ dTo rows to x = k := by
  simp only [candP, List.mem_filter, hereP_mem, decide_eq_true_eq, Nd, and_assoc]
theorem pick_mem {rows : List (List Int)} {to : Int} {k : Nat} {sm : List Int} (h : candP rows to k sm ≠ []) : pickP rows to k sm ∈ candP rows to k sm := by
  unfold pickP
  cases hc : candP rows to k sm with
  | nil => exact absurd hc h
  | cons x l => simp
theorem IsD.pth {rows : List (List Int)} {frm : List Int} {x : Int} {k : Nat} (h : IsD rows frm x k) : Pth rows frm k x ∧ ∀ i, i < k → ¬ Pth rows frm i x := by
  rcases h with ⟨j, hj, h1, h2⟩ | ⟨h, _⟩
  · have : j = k := by omega
    subst this; exact ⟨h1, h2⟩
  · omega
theorem IsD.mk {rows : List (List Int)} {frm : List Int} {x : Int} {k : Nat} (h1 : Pth rows frm k x) (h2 : ∀ i, i < k → ¬ Pth rows frm i x) : IsD rows frm x k := .inl ⟨k, rfl, h1, h2⟩
theorem cand_from {rows : List (List Int)} {frm : List Int} {to : Int} {k : Nat} (h : IsD rows frm to k) : candP rows to k frm ≠ [] := by
  obtain ⟨⟨a, ha, hw⟩, hn⟩ := h.pth
  have hd : IsD rows [a] to k := IsD.mk (pth_one.2 hw) fun i hi hp => hn i hi ⟨a, ha, pth_one.1 hp⟩
  exact List.ne_nil_of_mem (mem_cand.2 ⟨ha, hw.nd.1, (dTo_is hw.nd.1).uniq hd⟩)
theorem cand_next {rows : List (List Int)} {to x : Int} {k : Nat} (hx : Nd rows x) (h : dTo rows to x = ((k + 1 : Nat) : Int)) : candP rows to k (rowP rows x) ≠ [] := by
  have hd : IsD rows [x] to ((k + 1 : Nat) : Int) := h ▸ dTo_is hx
  obtain ⟨hp, hn⟩ := hd.pth
  obtain ⟨b, e, hw⟩ := (pth_one.1 hp).uncons
  have hb : IsD rows [b] to k := IsD.mk (pth_one.2 hw) fun i hi hp => hn (i + 1) (by omega) (pth_one.2 (Wk.cons e (pth_one.1 hp)))
  exact List.ne_nil_of_mem (mem_cand.2 ⟨e.2.2, e.2.1, (dTo_is e.2.1).uniq hb⟩)
theorem dTo_zero {rows : List (List Int)} {to x : Int} (hx : Nd rows x) : dTo rows to x = 0 ↔ x = to := by
  have h := dTo_is (to := to) hx
  constructor
  · intro e
    rw [e] at h
    have := (h.pth (k := 0)).1
    exact (pth_one.1 this).2
  · rintro rfl
    exact h.uniq (IsD.mk (k := 0) (pth_one.2 ⟨hx, rfl⟩) fun i hi => by omega)

/-! ## Min -/
theorem foldl_min_le : ∀ (l : List Int) (a : Int), (∀ x ∈ l, a ≤ x) → l.foldl min a = a
  | [], a, _ => rfl
  | x :: l, a, h => by
    have := h x (.head _)
    simp only [List.foldl_cons]
    rw [Int.min_eq_left this]
    exact foldl_min_le l a fun y hy => h y (.tail _ hy)
theorem minOf_sorted {zs : List Int} (h : zs.Pairwise (· < ·)) : Lib.minOf zs = zs.headD 0 := by
  unfold Lib.minOf
  cases zs with
  | nil => rfl
  | cons x l =>
    refine foldl_min_le _ _ fun y hy => ?_
    rcases List.mem_cons.1 hy with rfl | hy
    · exact Int.le_refl _
    · have := (List.pairwise_cons.1 h).1 y hy
      simp only [List.headD_cons]; omega
theorem Min_K {w0 : World} {F : Heap} {o : Own} {zs : List Int} (ok : oOk iE zs o) (hs : zs.Pairwise (· < ·)) (h0 : zs ≠ []) :
    Call Try.prog w0 25 [oV o zs.length] (oH iE 3 zs o ++ F) (fun r H' => r = .int .i64 (zs.headD (-1)) ∧ H' = oH iE 3 zs o ++ F) := by
  refine ⟨by kernel_rfl, fun w hw => ?_⟩
  cases o with
  | none => simp only [oOk] at ok; exact absurd ok h0
  | some ob =>
    have hsl := hw.own ok rfl
    obtain ⟨g1, g2, g3⟩ := ok
    refine (Try.slices_Min_int ob.b 0 zs.length ob.c zs w (List.length_pos_iff.2 h0) (Nat.le_refl _) (by unfold maxLen at g2; omega) ?_).mono ?_
    · intro j hj
      have hx : zs[j]? = some zs[j] := List.getElem?_eq_getElem hj
      have := hsl.at_ j _ hx 0 (.int .i64 zs[j]) rfl
      simp only [adr, oV, iE] at this
      rw [List.getD_eq_getElem?_getD, hx]
      simpa using this
    · rintro e w' ⟨he, rfl⟩
      refine ⟨_, _, he, hw, ?_, rfl⟩
      rw [List.take_length, minOf_sorted hs]
      cases zs with
      | nil => exact absurd rfl h0
      | cons x l => rfl

/-! ## the two functions that are handed to DeleteFunc -/
set_option maxRecDepth 10000 in
theorem way1_K {w0 : World} {F : Heap} {x to : Nat} {bl bd bt n : Nat} {oL oD : Own} {L D : List Int} {lx dx : Int} (okL : oOk iE L oL) (okD : oOk iE D oD) (hL : n = L.length) (hD : n = D.length) (hlx : L[x]? = some lx) (hdx : D[to]? = some dx) :
    Call Try.prog w0 28 [.int .i64 (x : Nat), .pointer (some ⟨bl, 0, none⟩), .pointer (some ⟨bd, 0, none⟩), .pointer (some ⟨bt, 0, none⟩)]
      ((bl, cells [oV oL n] 23) :: (bd, cells [oV oD n] 23) :: (bt, cells [.int .i64 (to : Nat)] 3) :: (oH iE 3 L oL ++ (oH iE 3 D oD ++ F)))
      (fun r H' => r = .bool (decide (lx ≠ dx)) ∧ H' = (bl, cells [oV oL n] 23) :: (bd, cells [oV oD n] 23) :: (bt, cells [.int .i64 (to : Nat)] 3) :: (oH iE 3 L oL ++ (oH iE 3 D oD ++ F))) := by
  refine Call.enter4 (n := 15) (by kernel_rfl) Try.func28 rfl rfl rfl ?_
  have h1 := lt_of_get hlx
  have h2 := lt_of_get hdx
  refine K.seq ?_
  refine K.region ?_
  (refine KL.v rfl (Val.assign rfl) ?_)
  refine KL.nil ?_
  refine KE.next ?_
  refine K.seq ?_
  refine K.drawn _ [(0, 0), (1, 0), (2, 0), (3, 0), (4, 0), (5, 0), (6, 0), (7, 0), (8, 0), (9, 0)] (by kernel_rfl) (by kernel_rfl) (by kernel_rfl) (by kernel_rfl) (by kernel_rfl) (by kernel_rfl) Part.all ?_
  refine KD.v0 rfl rfl (Val.loadP rfl rfl bySee) ?_
  refine KD.v0 rfl rfl (Val.move rfl) ?_
  refine KD.v0 rfl rfl (Val.idxSl rfl rfl rfl bySli rfl byLt) ?_
  refine KD.v0 rfl rfl (Val.loadP rfl rfl bySee) ?_
  refine KD.v0 rfl rfl (Val.loadP rfl rfl bySee) ?_
  refine KD.v0 rfl rfl (Val.loadP rfl rfl bySee) ?_
  refine KD.v0 rfl rfl (Val.idxSl rfl rfl rfl bySli rfl byLt) ?_
  refine KD.v0 rfl rfl (Val.loadP rfl rfl bySee) ?_
  refine KD.v0 rfl rfl (Val.neq rfl rfl) ?_
  refine KD.v0 rfl rfl (Val.assign rfl) ?_
  refine KD.nil ?_
  refine KE.next ?_
  refine K.ret ?_
  exact KE.fin byMarks rfl byRes byPart ⟨rfl, rfl⟩
set_option maxRecDepth 10000 in
theorem way2_K {w0 : World} {F : Heap} {x at_ : Nat} {bl ba n : Nat} {oL : Own} {L : List Int} {lx la : Int} (okL : oOk iE L oL) (hL : n = L.length) (hlx : L[x]? = some lx) (hla : L[at_]? = some la) (hb : -1 ≤ la ∧ la ≤ 1000) :
    Call Try.prog w0 29 [.int .i64 (x : Nat), .pointer (some ⟨bl, 0, none⟩), .pointer (some ⟨ba, 0, none⟩)]
      ((bl, cells [oV oL n] 23) :: (ba, cells [.int .i64 (at_ : Nat)] 3) :: (oH iE 3 L oL ++ F))
      (fun r H' => r = .bool (decide (lx ≠ la - 1)) ∧ H' = (bl, cells [oV oL n] 23) :: (ba, cells [.int .i64 (at_ : Nat)] 3) :: (oH iE 3 L oL ++ F)) := by
  refine Call.enter3 (n := 15) (by kernel_rfl) Try.func29 rfl rfl rfl ?_
  have h1 := lt_of_get hlx
  have h2 := lt_of_get hla
  refine K.seq ?_
  refine K.region ?_
  (refine KL.v rfl (Val.assign rfl) ?_)
  refine KL.nil ?_
  refine KE.next ?_
  refine K.seq ?_
  refine K.drawn _ [(0, 0), (1, 0), (2, 0), (3, 0), (4, 0), (5, 0), (6, 0), (7, 0), (8, 0), (9, 0), (10, 0)] (by kernel_rfl) (by kernel_rfl) (by kernel_rfl) (by kernel_rfl) (by kernel_rfl) (by kernel_rfl) Part.all ?_
  refine KD.v0 rfl rfl (Val.loadP rfl rfl bySee) ?_
  refine KD.v0 rfl rfl (Val.move rfl) ?_
  refine KD.v0 rfl rfl (Val.idxSl rfl rfl rfl bySli rfl byLt) ?_
  refine KD.v0 rfl rfl (Val.loadP rfl rfl bySee) ?_
  refine KD.v0 rfl rfl (Val.loadP rfl rfl bySee) ?_
  refine KD.v0 rfl rfl (Val.loadP rfl rfl bySee) ?_
  refine KD.v0 rfl rfl (Val.idxSl rfl rfl rfl bySli rfl byLt) ?_
  refine KD.v0 rfl rfl (Val.loadP rfl rfl bySee) ?_
  refine KD.v0 rfl rfl (Val.sub rfl rfl (by simp only [Go.Proofs.Ytfgmofaadcbokaa.lo, Go.Proofs.Ytfgmofaadcbokaa.hi]; omega)) ?_
  refine KD.v0 rfl rfl (Val.neq rfl rfl) ?_
  refine KD.v0 rfl rfl (Val.assign rfl) ?_
  refine KD.nil ?_
  refine KE.next ?_
  refine K.ret ?_
  exact KE.fin byMarks rfl byRes byPart ⟨rfl, rfl⟩
end Go.Proofs.Ytfgmofaadcbokaa
