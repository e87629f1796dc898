/- Graph: Turned. -/
import Derived.Test.YtfgmofaadcbokaaGrW8
namespace Go.Proofs.Ytfgmofaadcbokaa
open Go.RowKit
set_option linter.unusedVariables false
set_option linter.unusedSimpArgs false

abbrev WR := Own × List Int
def wE : Enc WR := ⟨fun p => [oV p.1 p.2.length], 1, fun _ => rfl, by intro x v hv; simp at hv; subst hv; exact oV_one _ _⟩
def wsH (ws : List WR) : Heap := ws.flatMap fun p => oH iE 3 p.2 p.1
theorem wsH_app (a b : List WR) : wsH (a ++ b) = wsH a ++ wsH b := by simp [wsH]
theorem wsH_split {ws : List WR} {k : Nat} {p : WR} (h : ws[k]? = some p) : wsH ws = wsH (ws.take k) ++ (oH iE 3 p.2 p.1 ++ wsH (ws.drop (k + 1))) := by
  have e : ws = ws.take k ++ (p :: ws.drop (k + 1)) := by
    obtain ⟨hl, he⟩ := List.getElem?_eq_some_iff.1 h
    rw [← he, ← List.drop_eq_getElem_cons hl, List.take_append_drop]
  conv => lhs; rw [e, wsH_app]
  simp [wsH]
theorem wsH_set {ws : List WR} {k : Nat} (hk : k < ws.length) (q : WR) : wsH (ws.set k q) = wsH (ws.take k) ++ (oH iE 3 q.2 q.1 ++ wsH (ws.drop (k + 1))) := by
  have := wsH_split (ws := ws.set k q) (k := k) (p := q) (by simp [hk])
  rw [this, List.take_set_of_le (Nat.le_refl _), List.drop_set_of_lt (by omega)]
theorem wsH_rep (n : Nat) : wsH (List.replicate n (none, [])) = [] := by
  induction n with
  | zero => rfl
  | succ n ih => rw [List.replicate_succ]; show oH iE 3 [] none ++ wsH (List.replicate n (none, [])) = []; rw [ih]; rfl

/-- the sources of edges to x, of the first i rows -/
def srcP (rows : List (List Int)) (x : Int) (i : Nat) : List Int := (List.range i).flatMap fun (m : Nat) => List.replicate (((rows[m]?).getD []).count x) (m : Int)
def turnP (rows : List (List Int)) : List (List Int) := (List.range rows.length).map fun (x : Nat) => srcP rows (x : Int) rows.length
theorem srcP_succ (rows : List (List Int)) (x : Int) (i : Nat) : srcP rows x (i + 1) = srcP rows x i ++ List.replicate (((rows[i]?).getD []).count x) (i : Int) := by simp [srcP, List.range_succ]
theorem srcP_len {rows : List (List Int)} {B : Nat} (hb : ∀ r ∈ rows, r.length ≤ B) (x : Int) : ∀ i, (srcP rows x i).length ≤ i * B
  | 0 => by simp [srcP]
  | i + 1 => by
    have ih := srcP_len hb x i
    have hr : ((rows[i]?).getD []).count x ≤ B := by
      cases h : rows[i]? with
      | none => simp
      | some r => exact Nat.le_trans List.count_le_length (hb r (List.mem_of_getElem? h))
    rw [srcP_succ, List.length_append, List.length_replicate, Nat.succ_mul]; omega

structure TS where
  i : Nat
  ws : List WR
def TurnAt (rows : List (List Int)) (i : Nat) (r : List Int) (ws : List WR) : Prop := ws.length = rows.length ∧ ∀ (x : Nat) (p : WR), ws[x]? = some p → p.2 = srcP rows (x : Int) i ++ List.replicate (r.count (x : Int)) (i : Int) ∧ oOk iE p.2 p.1
theorem TurnAt.next {rows : List (List Int)} {i : Nat} {r : List Int} {ws : List WR} (h : TurnAt rows i r ws) (hr : rows[i]? = some r) : TurnAt rows (i + 1) [] ws := by
  refine ⟨h.1, fun x p hp => ⟨?_, (h.2 x p hp).2⟩⟩
  rw [(h.2 x p hp).1, srcP_succ, hr]; simp
theorem TurnAt.skip {rows : List (List Int)} {i : Nat} {r : List Int} {ws : List WR} {t : Int} (h : TurnAt rows i r ws) (ht : ¬ (0 ≤ t ∧ t < (rows.length : Nat))) : TurnAt rows i (r ++ [t]) ws := by
  refine ⟨h.1, fun x p hp => ⟨?_, (h.2 x p hp).2⟩⟩
  have hx := lt_of_get hp
  rw [h.1] at hx
  have hne : (t == (x : Int)) = false := by simp; intro e; omega
  rw [(h.2 x p hp).1, List.count_append, List.count_singleton, hne]; simp
theorem TurnAt.put {rows : List (List Int)} {i : Nat} {r : List Int} {ws : List WR} {t : Nat} {p : WR} {o' : Own} (h : TurnAt rows i r ws) (hp : ws[t]? = some p) (ok : oOk iE (p.2 ++ [(i : Int)]) o') : TurnAt rows i (r ++ [(t : Int)]) (ws.set t (o', p.2 ++ [(i : Int)])) := by
  refine ⟨by simpa using h.1, fun x q hq => ?_⟩
  by_cases hx : t = x
  · subst hx
    rw [List.getElem?_set_self (lt_of_get hp)] at hq
    cases hq
    refine ⟨?_, ok⟩
    rw [(h.2 t p hp).1, List.count_append]
    simp [List.append_assoc, List.replicate_succ']
  · rw [List.getElem?_set_ne hx] at hq
    refine ⟨?_, (h.2 x q hq).2⟩
    have hne : ((t : Int) == (x : Int)) = false := by simp; omega
    rw [(h.2 x q hq).1, List.count_append, List.count_singleton, hne]; simp

set_option maxRecDepth 10000 in
set_option maxHeartbeats 2000000 in
theorem Turned_K {w0 : World} {vg : Value} {gs : List SV} {rows : List (List Int)} (hG : SlW w0 svE vg gs) (hR : RowsI w0 gs rows) (hn : gs.length ≤ 100) (hb : ∀ r ∈ rows, r.length ≤ 1000) :
    Call Try.prog w0 10 [vg] [] (fun r H' => ∃ ws ow, oOk wE ws ow ∧ ws.map (·.2) = turnP rows ∧ (∀ p ∈ ws, oOk iE p.2 p.1) ∧ r = oV ow ws.length ∧ H' = oH wE 23 ws ow ++ wsH ws) := by
  refine Call.enter1 (n := 45) (by kernel_rfl) Try.func10 rfl rfl rfl ?_
  have hgl := hR.len
  refine K.seq ?_
  refine K.region ?_
  (refine KL.v rfl (Val.assign rfl) ?_)
  refine KL.nil ?_
  refine KE.next ?_
  refine K.seq ?_
  refine K.region ?_
  (refine KL.v rfl (Val.move rfl) ?_)
  (refine KL.v rfl (Val.lenSl rfl rfl bySli) ?_)
  (refine KL.e rfl (Eff.makeR (E := wE) (x0 := (none, [])) rfl rfl rfl rfl rfl rfl (by omega)) ?_; rintro _ _ ⟨o, ok, rfl, rfl⟩)
  (refine KL.v rfl (Val.assign rfl) ?_)
  refine KL.nil ?_
  refine KE.next ?_
  refine K.seq ?_
  refine K.seq ?_
  refine K.region ?_
  (refine KL.v rfl (Val.move rfl) ?_)
  (refine KL.v rfl (Val.lenSl rfl rfl bySli) ?_)
  (refine KL.v rfl (Val.move rfl) ?_)
  refine KL.nil ?_
  refine KE.next ?_
  refine K.block ?_
  refine K.loopT (σ := TS) [(0, _), (11, _), (12, _)] (fun s r => (13, .int .i64 (s.i : Nat)) :: (3, oV o s.ws.length) :: r) (fun s => oH wE 23 s.ws o ++ wsH s.ws) (fun s => s.i ≤ rows.length ∧ TurnAt rows s.i [] s.ws ∧ oOk wE s.ws o) (fun s => rows.length - s.i) (⟨0, List.replicate gs.length (none, [])⟩) bySub (by dsimp only; rw [wsH_rep]; exact Part.all) (⟨by simp, ⟨by simp [hgl], fun x p hp => by dsimp only at hp; rw [List.getElem?_replicate] at hp; split at hp <;> cases hp; exact ⟨by simp [srcP], rfl⟩⟩, ok⟩) ?_
  rintro ⟨i, ws⟩ ⟨hi, hT, okw⟩
  dsimp only at hi hT okw ⊢
  by_cases hlt : i < rows.length
  · obtain ⟨r, hr⟩ := get_of_lt hlt
    obtain ⟨p, hp⟩ := get_of_lt (l := gs) (k := i) (by omega)
    have hrow := hR.row i p r hp hr
    have hrl := hb r (List.mem_of_getElem? hr)
    refine K.seq ?_
    refine K.region ?_
    (refine KL.v rfl (Val.isT (Val.lss rfl rfl) byLt) ?_)
    refine KL.nil ?_
    refine KE.next ?_
    refine K.seq ?_
    refine K.condT rfl ?_
    refine K.skip ?_
    refine KE.next ?_
    refine K.seq ?_
    refine K.block ?_
    refine K.seq ?_
    refine K.region ?_
    (refine KL.v rfl (Val.move rfl) ?_)
    (refine KL.v rfl (Val.idxSl rfl rfl rfl bySli rfl byLt) ?_)
    (refine KL.v rfl (Val.loadP rfl rfl bySee) ?_)
    (refine KL.v rfl (Val.assign rfl) ?_)
    (refine KL.v rfl (Val.assign rfl) ?_)
    refine KL.nil ?_
    refine KE.next ?_
    refine K.seq ?_
    refine K.region ?_
    (refine KL.v rfl (Val.move rfl) ?_)
    (refine KL.v rfl (Val.lenSl rfl rfl bySli) ?_)
    (refine KL.v rfl (Val.move rfl) ?_)
    refine KL.nil ?_
    refine KE.next ?_
    refine K.block ?_
    refine K.loopT (σ := TS) [(0, _), (4, _), (11, _), (12, _), (13, _), (18, _), (19, _)] (fun s r => (20, .int .i64 (s.i : Nat)) :: (3, oV o s.ws.length) :: r) (fun s => oH wE 23 s.ws o ++ wsH s.ws) (fun s => s.i ≤ r.length ∧ TurnAt rows i (r.take s.i) s.ws ∧ oOk wE s.ws o) (fun s => r.length - s.i) (⟨0, ws⟩) bySub byPart (⟨by simp, by simpa using hT, okw⟩) ?_
    rintro ⟨j, us⟩ ⟨hj, hU, oku⟩
    dsimp only at hj hU oku ⊢
    by_cases hjl : j < r.length
    · obtain ⟨t, ht⟩ := get_of_lt hjl
      by_cases h01 : 0 ≤ t ∧ t < (rows.length : Nat)
      · obtain ⟨h0, h1⟩ := h01
        obtain ⟨q, rfl⟩ : ∃ q : Nat, t = (q : Int) := ⟨t.toNat, by omega⟩
        have hq : q < us.length := by rw [hU.1]; omega
        obtain ⟨pp, hpp⟩ := get_of_lt hq
        have h1g : (q : Int) < (gs.length : Nat) := by omega
        have hpo := (hU.2 q pp hpp).2
        have hln : (pp.2 ++ [(i : Int)]).length ≤ 4294967296 := by
          rw [(hU.2 q pp hpp).1]
          have h1 := srcP_len hb (q : Int) i
          have h2 : (r.take j).count (q : Int) ≤ 1000 := Nat.le_trans List.count_le_length (by rw [List.length_take]; omega)
          have h3 : i * 1000 ≤ 100 * 1000 := Nat.mul_le_mul_right _ (by omega)
          simp only [List.length_append, List.length_replicate, List.length_singleton]
          omega
        rw [wsH_split hpp]
        refine K.seq ?_
        refine K.region ?_
        (refine KL.v rfl (Val.isT (Val.lss rfl rfl) byLt) ?_)
        refine KL.nil ?_
        refine KE.next ?_
        refine K.seq ?_
        refine K.condT rfl ?_
        refine K.skip ?_
        refine KE.next ?_
        refine K.seq ?_
        refine K.block ?_
        refine K.seq ?_
        refine K.region ?_
        (refine KL.v rfl (Val.idxSl rfl rfl rfl bySli rfl byLt) ?_)
        (refine KL.v rfl (Val.loadP rfl rfl bySee) ?_)
        (refine KL.v rfl (Val.assign rfl) ?_)
        refine KL.nil ?_
        refine KE.next ?_
        refine K.seq ?_
        refine K.region ?_
        (refine KL.v rfl (Val.move rfl) ?_)
        (refine KL.v rfl (Val.isT (Val.geq rfl rfl) byLt) ?_)
        (refine KL.v rfl (Val.move rfl) ?_)
        (refine KL.yes rfl rfl ?_; refine KL.v rfl (Val.move rfl) ?_)
        (refine KL.yes rfl rfl ?_; refine KL.v rfl (Val.move rfl) ?_)
        (refine KL.yes rfl rfl ?_; refine KL.v rfl (Val.lenSl rfl rfl bySli) ?_)
        (refine KL.yes rfl rfl ?_; refine KL.v rfl (Val.isT (Val.lss rfl rfl) byLt) ?_)
        (refine KL.v rfl (Val.pickT rfl rfl rfl) ?_)
        refine KL.nil ?_
        refine KE.next ?_
        refine K.condT rfl ?_
        refine K.region ?_
        (refine KL.v rfl (Val.move rfl) ?_)
        (refine KL.v rfl (Val.move rfl) ?_)
        (refine KL.v rfl (Val.move rfl) ?_)
        (refine KL.v rfl (Val.move rfl) ?_)
        (refine KL.v rfl (Val.idxSl rfl rfl rfl bySli rfl byLt) ?_)
        (refine KL.v rfl (Val.loadP rfl rfl bySee) ?_)
        (refine KL.v rfl (Val.move rfl) ?_)
        (refine KL.e rfl (Eff.buildS byParts rfl rfl rfl rfl rfl byFill) ?_; rintro _ _ ⟨b39, rfl, rfl⟩)
        (refine KL.e rfl (Eff.appZ (ys := [_]) rfl rfl rfl rfl rfl rfl byTakeL (by assumption) (by first | exact Sli.blk byTake rfl (by first | decide | simp) (by first | decide | (unfold maxLen; omega)) rfl | exact Sli.old (by assumption) | exact Sli.own byTakeL (by assumption) byLen | assumption | exact Sli.part (by assumption) byPart) rfl (by first | assumption | omega | (simp <;> fail) | (simp; omega)) rfl) ?_; rintro _ _ ⟨o40, ok40, rfl, rfl⟩)
        (refine KL.v rfl (Val.idxSl rfl rfl rfl bySli rfl byLt) ?_)
        (refine KL.eN (Eff.stSl0 (x1 := (o40, pp.2 ++ [(i : Int)])) rfl rfl (oV_one _ _) rfl byTakeL oku hpp rfl rfl) ?_; rintro _ _ rfl)
        refine KL.nil ?_
        refine KE.blkN ?_
        refine KE.next ?_
        refine K.region ?_
        (refine KL.v rfl (Val.add rfl rfl (by simp only [Go.Proofs.Ytfgmofaadcbokaa.lo, Go.Proofs.Ytfgmofaadcbokaa.hi]; omega)) ?_)
        (refine KL.v rfl (Val.move rfl) ?_)
        refine KL.nil ?_
        have hnx := hU.put hpp ok40
        rw [← take_snoc ht] at hnx
        exact KE.again ⟨j + 1, us.set q (o40, pp.2 ++ [(i : Int)])⟩ bySub (by dsimp only; rw [wsH_set hq]; exact byPart) ⟨by show j + 1 ≤ _; omega, hnx, oku.set _ _⟩ (by show r.length - (j + 1) < r.length - j; omega)
      · by_cases h0 : 0 ≤ t
        · have h1 : ¬ t < (gs.length : Nat) := by omega
          refine K.seq ?_
          refine K.region ?_
          (refine KL.v rfl (Val.isT (Val.lss rfl rfl) byLt) ?_)
          refine KL.nil ?_
          refine KE.next ?_
          refine K.seq ?_
          refine K.condT rfl ?_
          refine K.skip ?_
          refine KE.next ?_
          refine K.seq ?_
          refine K.block ?_
          refine K.seq ?_
          refine K.region ?_
          (refine KL.v rfl (Val.idxSl rfl rfl rfl bySli rfl byLt) ?_)
          (refine KL.v rfl (Val.loadP rfl rfl bySee) ?_)
          (refine KL.v rfl (Val.assign rfl) ?_)
          refine KL.nil ?_
          refine KE.next ?_
          refine K.seq ?_
          refine K.region ?_
          (refine KL.v rfl (Val.move rfl) ?_)
          (refine KL.v rfl (Val.isT (Val.geq rfl rfl) byLt) ?_)
          (refine KL.v rfl (Val.move rfl) ?_)
          (refine KL.yes rfl rfl ?_; refine KL.v rfl (Val.move rfl) ?_)
          (refine KL.yes rfl rfl ?_; refine KL.v rfl (Val.move rfl) ?_)
          (refine KL.yes rfl rfl ?_; refine KL.v rfl (Val.lenSl rfl rfl bySli) ?_)
          (refine KL.yes rfl rfl ?_; refine KL.v rfl (Val.isF (Val.lss rfl rfl) byLt) ?_)
          (refine KL.v rfl (Val.pickT rfl rfl rfl) ?_)
          refine KL.nil ?_
          refine KE.next ?_
          refine K.condF rfl ?_
          refine K.skip ?_
          refine KE.blkN ?_
          refine KE.next ?_
          refine K.region ?_
          (refine KL.v rfl (Val.add rfl rfl (by simp only [Go.Proofs.Ytfgmofaadcbokaa.lo, Go.Proofs.Ytfgmofaadcbokaa.hi]; omega)) ?_)
          (refine KL.v rfl (Val.move rfl) ?_)
          refine KL.nil ?_
          exact KE.again ⟨j + 1, us⟩ bySub byPart ⟨by show j + 1 ≤ _; omega, by show TurnAt _ _ (r.take (j + 1)) _; rw [take_snoc ht]; exact hU.skip h01, oku⟩ (by show r.length - (j + 1) < r.length - j; omega)
        · skip
          refine K.seq ?_
          refine K.region ?_
          (refine KL.v rfl (Val.isT (Val.lss rfl rfl) byLt) ?_)
          refine KL.nil ?_
          refine KE.next ?_
          refine K.seq ?_
          refine K.condT rfl ?_
          refine K.skip ?_
          refine KE.next ?_
          refine K.seq ?_
          refine K.block ?_
          refine K.seq ?_
          refine K.region ?_
          (refine KL.v rfl (Val.idxSl rfl rfl rfl bySli rfl byLt) ?_)
          (refine KL.v rfl (Val.loadP rfl rfl bySee) ?_)
          (refine KL.v rfl (Val.assign rfl) ?_)
          refine KL.nil ?_
          refine KE.next ?_
          refine K.seq ?_
          refine K.region ?_
          (refine KL.v rfl (Val.move rfl) ?_)
          (refine KL.v rfl (Val.isF (Val.geq rfl rfl) byLt) ?_)
          (refine KL.v rfl (Val.move rfl) ?_)
          refine KL.skipG rfl rfl rfl ?_
          refine KL.skipG rfl rfl rfl ?_
          refine KL.skipG rfl rfl rfl ?_
          refine KL.skipG rfl rfl rfl ?_
          (refine KL.v rfl (Val.pickF rfl rfl rfl) ?_)
          refine KL.nil ?_
          refine KE.next ?_
          refine K.condF rfl ?_
          refine K.skip ?_
          refine KE.blkN ?_
          refine KE.next ?_
          refine K.region ?_
          (refine KL.v rfl (Val.add rfl rfl (by simp only [Go.Proofs.Ytfgmofaadcbokaa.lo, Go.Proofs.Ytfgmofaadcbokaa.hi]; omega)) ?_)
          (refine KL.v rfl (Val.move rfl) ?_)
          refine KL.nil ?_
          exact KE.again ⟨j + 1, us⟩ bySub byPart ⟨by show j + 1 ≤ _; omega, by show TurnAt _ _ (r.take (j + 1)) _; rw [take_snoc ht]; exact hU.skip h01, oku⟩ (by show r.length - (j + 1) < r.length - j; omega)
    · have hjt : r.take j = r := List.take_of_length_le (by omega)
      rw [hjt] at hU
      refine K.seq ?_
      refine K.region ?_
      (refine KL.v rfl (Val.isF (Val.lss rfl rfl) byLt) ?_)
      refine KL.nil ?_
      refine KE.next ?_
      refine K.seq ?_
      refine K.condF rfl ?_
      refine K.exit ?_
      refine KE.passX ?_
      refine KE.passX ?_
      refine KE.blkX ?_
      refine KE.blkN ?_
      refine KE.next ?_
      refine K.region ?_
      (refine KL.v rfl (Val.add rfl rfl (by simp only [Go.Proofs.Ytfgmofaadcbokaa.lo, Go.Proofs.Ytfgmofaadcbokaa.hi]; omega)) ?_)
      (refine KL.v rfl (Val.move rfl) ?_)
      refine KL.nil ?_
      exact KE.again ⟨i + 1, us⟩ bySub byPart ⟨by show i + 1 ≤ _; omega, hU.next hr, oku⟩ (by show rows.length - (i + 1) < rows.length - i; omega)
  · have hie : i = rows.length := by omega
    subst hie
    have hmp : ws.map (·.2) = turnP rows := by
      apply List.ext_getElem?
      intro x
      rcases Nat.lt_or_ge x rows.length with hx | hx
      · obtain ⟨p, hp⟩ := get_of_lt (l := ws) (k := x) (by rw [hT.1]; exact hx)
        rw [List.getElem?_map, hp, turnP, List.getElem?_map, List.getElem?_range hx]
        simp [(hT.2 x p hp).1]
      · rw [List.getElem?_eq_none (by rw [List.length_map, hT.1]; exact hx), List.getElem?_eq_none (by simp [turnP]; exact hx)]
    refine K.seq ?_
    refine K.region ?_
    (refine KL.v rfl (Val.isF (Val.lss rfl rfl) byLt) ?_)
    refine KL.nil ?_
    refine KE.next ?_
    refine K.seq ?_
    refine K.condF rfl ?_
    refine K.exit ?_
    refine KE.passX ?_
    refine KE.passX ?_
    refine KE.blkX ?_
    refine KE.next ?_
    refine K.seq ?_
    refine K.region ?_
    (refine KL.v rfl (Val.move rfl) ?_)
    (refine KL.v rfl (Val.assign rfl) ?_)
    refine KL.nil ?_
    refine KE.next ?_
    refine K.ret ?_
    exact KE.fin byMarks rfl byRes byPart ⟨ws, o, okw, hmp, fun p hp => by obtain ⟨x, hx⟩ := List.getElem?_of_mem hp; exact (hT.2 x p hx).2, rfl, rfl⟩
end Go.Proofs.Ytfgmofaadcbokaa
