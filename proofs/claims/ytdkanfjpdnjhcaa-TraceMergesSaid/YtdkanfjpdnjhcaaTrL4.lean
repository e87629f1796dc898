/- TraceMerges: the plain law, the walk, and out of what came in. -/
import Derived.Test.YtdkanfjpdnjhcaaTrL3
namespace Go.Proofs.Ytdkanfjpdnjhcaa
open Go.RowKit Go.ChangeShapes Go.WideShapes Go.ChangeAt Go.Joins
set_option linter.unusedVariables false
set_option linter.unusedSimpArgs false

/-! ## the plain law -/
theorem ofP_app (a b : List Wat) (t : Int) : ofP (a ++ b) t = ofP a t ++ ofP b t := by simp [ofP]
theorem ofP_map (k t : Int) (r : List Seen) : ofP (r.map fun s => ⟨k, s⟩) t = if k = t then r else [] := by
  unfold ofP
  by_cases h : k = t
  · subst h
    rw [if_pos rfl]
    induction r with
    | nil => rfl
    | cons x r ih => simp only [List.map_cons, List.filter_cons, decide_true, if_true]; rw [ih]
  · rw [if_neg h]
    induction r with
    | nil => rfl
    | cons x r ih => simp only [List.map_cons, List.filter_cons, h, decide_false]; exact ih
theorem ofP_fin : ∀ (l : List (List Seen)) (k n : Nat), ofP (finFrom k l) ((k + n : Nat) : Int) = (l[n]?).getD []
  | [], k, n => by simp [finFrom, ofP]
  | r :: l, k, 0 => by
    have h0 : ∀ (l : List (List Seen)) (k j : Nat), k < j → ofP (finFrom j l) ((k : Nat) : Int) = [] := by
      intro l
      induction l with
      | nil => intro k j _; rfl
      | cons x l ih =>
        intro k j h
        simp only [finFrom]
        rw [ofP_app, ofP_map, if_neg (by omega), ih k (j + 1) (by omega)]; rfl
    show ofP (finFrom k (r :: l)) ((k : Nat) : Int) = _
    simp only [finFrom]
    rw [ofP_app, ofP_map, if_pos rfl, h0 l k (k + 1) (by omega)]
    simp
  | r :: l, k, n + 1 => by
    simp only [finFrom]
    rw [ofP_app, ofP_map, if_neg (by omega), show k + (n + 1) = (k + 1) + n by omega, ofP_fin l (k + 1) n]
    simp
theorem mst_of (rows : List (List Seen)) (ts : List Int) (n : Nat) : ofP (mst rows ts).2 (n : Nat) ++ ((mst rows ts).1[n]?).getD [] = (rows[n]?).getD [] := by
  have key : ∀ (l : List Int) (st : List (List Seen) × List Wat), ofP (l.foldl mstep st).2 (n : Nat) ++ ((l.foldl mstep st).1[n]?).getD [] = ofP st.2 (n : Nat) ++ (st.1[n]?).getD [] := by
    intro l
    induction l with
    | nil => intro st; rfl
    | cons t l ih =>
      intro st
      rw [List.foldl_cons, ih (mstep st t)]
      unfold mstep
      cases hp : popAt st.1 t with
      | none => rfl
      | some q =>
        obtain ⟨s, rows'⟩ := q
        obtain ⟨m, r, rfl, hr, rfl⟩ := pop_spec hp
        simp only
        rw [ofP_app]
        have h1 : ofP [⟨((m : Nat) : Int), s⟩] ((n : Nat) : Int) = if ((m : Nat) : Int) = (n : Nat) then [s] else [] := ofP_map (m : Nat) (n : Nat) [s]
        rw [h1]
        by_cases hmn : m = n
        · subst hmn
          rw [if_pos rfl, List.getElem?_set_self (lt_of_get hr), hr]
          simp
        · rw [if_neg (by omega), List.getElem?_set_ne hmn]
          simp
  have := key ts (rows, [])
  simpa [mst, ofP] using this
theorem merge_of (rows : List (List Seen)) (ts : List Int) {n : Nat} {r : List Seen} (h : rows[n]? = some r) : ofP (mergeP rows ts) (n : Nat) = r := by
  unfold mergeP
  have := ofP_fin (mst rows ts).1 0 n
  rw [Nat.zero_add] at this
  rw [ofP_app, this, mst_of, h]; rfl
theorem merge_len (rows : List (List Seen)) (ts : List Int) : (mergeP rows ts).length = tot rows := by
  unfold mergeP
  have := (mst_inv rows ts).1
  rw [List.length_append, finFrom_len]; omega
theorem tot_snoc {rows : List (List Seen)} {k : Nat} {r : List Seen} (h : rows[k]? = some r) : tot (rows.take (k + 1)) = tot (rows.take k) + r.length := by
  rw [take_snoc h, tot_app]; simp [tot]

/-! ## a list of own lists -/
def owE : Enc (Own × List Seen) := ⟨fun p => [oV p.1 p.2.length], 1, fun _ => rfl, by intro x v hv; simp at hv; subst hv; exact oV_one _ _⟩
def wsH (ws : List (Own × List Seen)) : Heap := ws.flatMap fun p => oH sE 46 p.2 p.1
theorem wsH_snoc (ws : List (Own × List Seen)) (o : Own) (r : List Seen) : wsH (ws ++ [(o, r)]) = wsH ws ++ oH sE 46 r o := by simp [wsH]
theorem wsH_take : ∀ {ws : List (Own × List Seen)} {k : Nat} {p : Own × List Seen}, ws[k]? = some p → ∃ F, TakeL (oH sE 46 p.2 p.1) (wsH ws) F
  | q :: ws, 0, p, h => by
    simp at h; subst h
    exact ⟨wsH ws, by simpa [wsH] using (TakeL.head (A := oH sE 46 q.2 q.1) (F := wsH ws))⟩
  | q :: ws, k + 1, p, h => by
    obtain ⟨F, hF⟩ := wsH_take (ws := ws) (k := k) (p := p) (by simpa using h)
    exact ⟨_, by simpa [wsH] using (TakeL.app (B := oH sE 46 q.2 q.1) hF)⟩
theorem RowsOf.only' {w0 w : World} {ps : List SV} {rows : List (List Seen)} (h : RowsOf w0 ps rows) (ho : Only [] w0 w) : RowsOf w ps rows := ⟨h.len, fun i p r hp hr => (h.row i p r hp hr).only ho⟩

structure WS where
  k : Nat
  ws : List (Own × List Seen)
  ow : Own

set_option maxRecDepth 10000 in
set_option maxHeartbeats 1000000 in
theorem traceMerges_K {w0 : World} {vp vt : Value} {ps : List SV} {rows : List (List Seen)} {ts : List Int} (hP : SlW w0 svE vp ps) (hR : RowsOf w0 ps rows) (hTs : SlW w0 iE vt ts) :
    Call Try.prog w0 6 [vp, vt] [] (fun r H' => r = .bool true ∧ H' = []) := by
  refine Call.enter (n := 91) [(0, vp), (1, vt)] (by kernel_rfl) Try.func6 rfl rfl rfl ⟨rfl, rfl, trivial⟩ ?_
  have hpl := hR.len
  by_cases h1 : (20 : Int) < (ps.length : Nat)
  · refine byCode ?_
    (refine KL.v rfl (Val.assign rfl) ?_)
    refine KL.nil ?_
    refine byCode ?_
    (refine KL.v rfl (Val.move rfl) ?_)
    (first | (refine KL.v rfl (Val.lenSl rfl rfl bySli) ?_) | (refine KL.v rfl (Val.lenS rfl rfl) ?_))
    (first | (refine KL.v rfl (Val.isT (Val.gtr rfl rfl) byLt) ?_) | (refine KL.v rfl (Val.isF (Val.gtr rfl rfl) byLt) ?_) | (refine KL.v rfl (Val.gtr rfl rfl) ?_))
    (refine KL.v rfl (Val.move rfl) ?_)
    (first | refine KL.skipG rfl rfl rfl ?_ | refine KL.skipU rfl rfl rfl ?_ | (refine KL.yes rfl rfl ?_; refine KL.v rfl (Val.move rfl) ?_))
    (first | refine KL.skipG rfl rfl rfl ?_ | refine KL.skipU rfl rfl rfl ?_ | (refine KL.yes rfl rfl ?_; refine KL.v rfl (Val.lenSl rfl rfl bySli) ?_) | (refine KL.yes rfl rfl ?_; refine KL.v rfl (Val.lenS rfl rfl) ?_))
    (first | refine KL.skipG rfl rfl rfl ?_ | refine KL.skipU rfl rfl rfl ?_ | (refine KL.yes rfl rfl ?_; refine KL.v rfl (Val.isT (Val.gtr rfl rfl) byLt) ?_) | (refine KL.yes rfl rfl ?_; refine KL.v rfl (Val.isF (Val.gtr rfl rfl) byLt) ?_) | (refine KL.yes rfl rfl ?_; refine KL.v rfl (Val.gtr rfl rfl) ?_))
    (first | (refine KL.v rfl (Val.pickT rfl rfl rfl) ?_) | (refine KL.v rfl (Val.pickF rfl rfl rfl) ?_) | (refine KL.v rfl (Val.pickB rfl rfl rfl) ?_))
    refine KL.nil ?_
    refine byCode ?_
    (refine KL.callc rfl rfl byEvL fun T hT => ?_)
    refine (CallV.fn awake_K).mono ?_
    rintro _ _ ⟨rfl, rfl⟩
    refine hT _ _ ?_; clear hT; clear T
    (refine KL.v rfl (Val.assign rfl) ?_)
    refine KL.nil ?_
    refine byCode ?_
    exact KE.fin byMarks rfl byRes byPart ⟨rfl, rfl⟩
  by_cases h2 : (300 : Int) < (ts.length : Nat)
  · refine byCode ?_
    (refine KL.v rfl (Val.assign rfl) ?_)
    refine KL.nil ?_
    refine byCode ?_
    (refine KL.v rfl (Val.move rfl) ?_)
    (first | (refine KL.v rfl (Val.lenSl rfl rfl bySli) ?_) | (refine KL.v rfl (Val.lenS rfl rfl) ?_))
    (first | (refine KL.v rfl (Val.isT (Val.gtr rfl rfl) byLt) ?_) | (refine KL.v rfl (Val.isF (Val.gtr rfl rfl) byLt) ?_) | (refine KL.v rfl (Val.gtr rfl rfl) ?_))
    (refine KL.v rfl (Val.move rfl) ?_)
    (first | refine KL.skipG rfl rfl rfl ?_ | refine KL.skipU rfl rfl rfl ?_ | (refine KL.yes rfl rfl ?_; refine KL.v rfl (Val.move rfl) ?_))
    (first | refine KL.skipG rfl rfl rfl ?_ | refine KL.skipU rfl rfl rfl ?_ | (refine KL.yes rfl rfl ?_; refine KL.v rfl (Val.lenSl rfl rfl bySli) ?_) | (refine KL.yes rfl rfl ?_; refine KL.v rfl (Val.lenS rfl rfl) ?_))
    (first | refine KL.skipG rfl rfl rfl ?_ | refine KL.skipU rfl rfl rfl ?_ | (refine KL.yes rfl rfl ?_; refine KL.v rfl (Val.isT (Val.gtr rfl rfl) byLt) ?_) | (refine KL.yes rfl rfl ?_; refine KL.v rfl (Val.isF (Val.gtr rfl rfl) byLt) ?_) | (refine KL.yes rfl rfl ?_; refine KL.v rfl (Val.gtr rfl rfl) ?_))
    (first | (refine KL.v rfl (Val.pickT rfl rfl rfl) ?_) | (refine KL.v rfl (Val.pickF rfl rfl rfl) ?_) | (refine KL.v rfl (Val.pickB rfl rfl rfl) ?_))
    refine KL.nil ?_
    refine byCode ?_
    (refine KL.callc rfl rfl byEvL fun T hT => ?_)
    refine (CallV.fn awake_K).mono ?_
    rintro _ _ ⟨rfl, rfl⟩
    refine hT _ _ ?_; clear hT; clear T
    (refine KL.v rfl (Val.assign rfl) ?_)
    refine KL.nil ?_
    refine byCode ?_
    exact KE.fin byMarks rfl byRes byPart ⟨rfl, rfl⟩
  refine byCode ?_
  (refine KL.v rfl (Val.assign rfl) ?_)
  refine KL.nil ?_
  refine byCode ?_
  (refine KL.v rfl (Val.move rfl) ?_)
  (first | (refine KL.v rfl (Val.lenSl rfl rfl bySli) ?_) | (refine KL.v rfl (Val.lenS rfl rfl) ?_))
  (first | (refine KL.v rfl (Val.isT (Val.gtr rfl rfl) byLt) ?_) | (refine KL.v rfl (Val.isF (Val.gtr rfl rfl) byLt) ?_) | (refine KL.v rfl (Val.gtr rfl rfl) ?_))
  (refine KL.v rfl (Val.move rfl) ?_)
  (first | refine KL.skipG rfl rfl rfl ?_ | refine KL.skipU rfl rfl rfl ?_ | (refine KL.yes rfl rfl ?_; refine KL.v rfl (Val.move rfl) ?_))
  (first | refine KL.skipG rfl rfl rfl ?_ | refine KL.skipU rfl rfl rfl ?_ | (refine KL.yes rfl rfl ?_; refine KL.v rfl (Val.lenSl rfl rfl bySli) ?_) | (refine KL.yes rfl rfl ?_; refine KL.v rfl (Val.lenS rfl rfl) ?_))
  (first | refine KL.skipG rfl rfl rfl ?_ | refine KL.skipU rfl rfl rfl ?_ | (refine KL.yes rfl rfl ?_; refine KL.v rfl (Val.isT (Val.gtr rfl rfl) byLt) ?_) | (refine KL.yes rfl rfl ?_; refine KL.v rfl (Val.isF (Val.gtr rfl rfl) byLt) ?_) | (refine KL.yes rfl rfl ?_; refine KL.v rfl (Val.gtr rfl rfl) ?_))
  (first | (refine KL.v rfl (Val.pickT rfl rfl rfl) ?_) | (refine KL.v rfl (Val.pickF rfl rfl rfl) ?_) | (refine KL.v rfl (Val.pickB rfl rfl rfl) ?_))
  refine KL.nil ?_
  refine byCode ?_
  (refine KL.v rfl (Val.assign rfl) ?_)
  refine KL.nil ?_
  refine byCode ?_
  (refine KL.v rfl (Val.assign rfl) ?_)
  refine KL.nil ?_
  refine byBlk ?_
  refine K.loop (σ := WS) (fun s => [(6, .int .i64 (s.k : Nat)), (5, oV s.ow s.ws.length), (0, vp), (1, vt)])
    (fun s => oH owE 22 s.ws s.ow ++ (wsH s.ws ++ []))
    (fun s => s.k ≤ ps.length ∧ oOk owE s.ws s.ow ∧ s.ws.map (·.2) = rows.take s.k ∧ (∀ p ∈ s.ws, oOk sE p.2 p.1) ∧ tot (rows.take s.k) ≤ 40 * s.k) (fun s => ps.length - s.k)
    ⟨0, [], none⟩ bySub byPart ⟨by simp, rfl, by simp, by simp, by simp [tot]⟩ ?_
  rintro ⟨k, ws, ow⟩ ⟨hk, okw, hws, hwo, htk⟩
  dsimp only at hk okw hws hwo htk ⊢
  have hwl : ws.length = k := by
    have := congrArg List.length hws
    rw [List.length_map, List.length_take] at this
    omega
  by_cases hlt : k < ps.length
  · obtain ⟨p, hp⟩ := get_of_lt hlt
    obtain ⟨r, hr⟩ := get_of_lt (l := rows) (k := k) (by omega)
    have hrow := hR.row k p r hp hr
    have hrl := hrow.le
    unfold maxLen at hrl
    have htt := tot_snoc hr
    refine byCode ?_
    (refine KL.v rfl (Val.move rfl) ?_)
    (refine KL.v rfl (Val.move rfl) ?_)
    (first | (refine KL.v rfl (Val.lenSl rfl rfl bySli) ?_) | (refine KL.v rfl (Val.lenS rfl rfl) ?_))
    (first | (refine KL.v rfl (Val.isT (Val.lss rfl rfl) byLt) ?_) | (refine KL.v rfl (Val.isF (Val.lss rfl rfl) byLt) ?_) | (refine KL.v rfl (Val.lss rfl rfl) ?_))
    refine KL.nil ?_
    refine byCode ?_
    refine K.seq (K.block ?_)
    by_cases h40 : (40 : Int) < (r.length : Nat)
    · refine byCode ?_
      (refine KL.v rfl (Val.move rfl) ?_)
      (refine KL.v rfl (Val.move rfl) ?_)
      (first | (refine KL.v rfl (Val.idxSl rfl rfl rfl bySli rfl byLt) ?_) | (refine KL.v rfl (Val.idxSlZ rfl rfl rfl bySli rfl (by omega)) ?_) | (refine KL.v rfl (Val.indexS1 rfl rfl rfl rfl (by omega)) ?_) | (refine KL.v rfl (Val.indexS rfl rfl rfl rfl (by omega)) ?_) | (refine KL.v rfl (Val.indexSO rfl rfl rfl rfl (by omega)) ?_) | (refine KL.v rfl (Val.indexSG rfl rfl rfl rfl (by omega)) ?_))
      (refine KL.v rfl (Val.loadP rfl rfl bySee) ?_)
      (first | (refine KL.v rfl (Val.lenSl rfl rfl bySli) ?_) | (refine KL.v rfl (Val.lenS rfl rfl) ?_))
      (first | (refine KL.v rfl (Val.isT (Val.gtr rfl rfl) byLt) ?_) | (refine KL.v rfl (Val.isF (Val.gtr rfl rfl) byLt) ?_) | (refine KL.v rfl (Val.gtr rfl rfl) ?_))
      refine KL.nil ?_
      refine byCode ?_
      (refine KL.callc rfl rfl byEvL fun T hT => ?_)
      refine (CallV.fn awake_K).mono ?_
      rintro _ _ ⟨rfl, rfl⟩
      refine hT _ _ ?_; clear hT; clear T
      (refine KL.v rfl (Val.assign rfl) ?_)
      refine KL.nil ?_
      refine byCode ?_
      exact KE.fin byMarks rfl byRes byPart ⟨rfl, rfl⟩
    · have hr4 : r.length ≤ 4294967296 := by omega
      refine byCode ?_
      (refine KL.v rfl (Val.move rfl) ?_)
      (refine KL.v rfl (Val.move rfl) ?_)
      (first | (refine KL.v rfl (Val.idxSl rfl rfl rfl bySli rfl byLt) ?_) | (refine KL.v rfl (Val.idxSlZ rfl rfl rfl bySli rfl (by omega)) ?_) | (refine KL.v rfl (Val.indexS1 rfl rfl rfl rfl (by omega)) ?_) | (refine KL.v rfl (Val.indexS rfl rfl rfl rfl (by omega)) ?_) | (refine KL.v rfl (Val.indexSO rfl rfl rfl rfl (by omega)) ?_) | (refine KL.v rfl (Val.indexSG rfl rfl rfl rfl (by omega)) ?_))
      (refine KL.v rfl (Val.loadP rfl rfl bySee) ?_)
      (first | (refine KL.v rfl (Val.lenSl rfl rfl bySli) ?_) | (refine KL.v rfl (Val.lenS rfl rfl) ?_))
      (first | (refine KL.v rfl (Val.isT (Val.gtr rfl rfl) byLt) ?_) | (refine KL.v rfl (Val.isF (Val.gtr rfl rfl) byLt) ?_) | (refine KL.v rfl (Val.gtr rfl rfl) ?_))
      refine KL.nil ?_
      refine byCode ?_
      (refine KL.v rfl (Val.move rfl) ?_)
      (refine KL.e rfl (Eff.buildS byParts rfl rfl rfl rfl rfl byFill) ?_; rintro _ _ ⟨b33, rfl, rfl⟩)
      (refine KL.v rfl (Val.move rfl) ?_)
      (refine KL.v rfl (Val.move rfl) ?_)
      (first | (refine KL.v rfl (Val.idxSl rfl rfl rfl bySli rfl byLt) ?_) | (refine KL.v rfl (Val.idxSlZ rfl rfl rfl bySli rfl (by omega)) ?_) | (refine KL.v rfl (Val.indexS1 rfl rfl rfl rfl (by omega)) ?_) | (refine KL.v rfl (Val.indexS rfl rfl rfl rfl (by omega)) ?_) | (refine KL.v rfl (Val.indexSO rfl rfl rfl rfl (by omega)) ?_) | (refine KL.v rfl (Val.indexSG rfl rfl rfl rfl (by omega)) ?_))
      (refine KL.v rfl (Val.loadP rfl rfl bySee) ?_)
      (refine KL.e rfl (Eff.appLit (E := sE) (ys := r) rfl rfl rfl rfl rfl rfl rfl byTake (by first | exact Sli.blk byTake rfl (by first | decide | simp) (by first | decide | (unfold maxLen; omega)) rfl | exact Sli.old (by assumption) | exact Sli.own byTakeL (by assumption) byLen | assumption | exact Sli.part (by assumption) byPart) (by first | assumption | omega | (simp <;> fail) | (simp; omega)) rfl) ?_; rintro _ _ ⟨o', ok', rfl, rfl⟩)
      revert ok'; revert o'; intro oA ok1
      have hz : (ws ++ [(oA, r)]).length ≤ 4294967296 := by simp; omega
      (refine KL.e rfl (Eff.buildS byParts rfl rfl rfl rfl rfl byFill) ?_; rintro _ _ ⟨b39, rfl, rfl⟩)
      (refine KL.e rfl (Eff.appZ (E := owE) (xs := ws) (o := ow) (ys := [(oA, r)]) (zs := ws ++ [(oA, r)]) rfl rfl rfl rfl rfl rfl byTakeL (by assumption) (by first | exact Sli.blk byTake rfl (by first | decide | simp) (by first | decide | (unfold maxLen; omega)) rfl | exact Sli.old (by assumption) | exact Sli.own byTakeL (by assumption) byLen | assumption | exact Sli.part (by assumption) byPart) (rfl) (by first | assumption | omega | (simp <;> fail) | (simp; omega)) rfl) ?_; rintro _ _ ⟨o', ok', rfl, rfl⟩)
      (refine KL.v rfl (Val.assign rfl) ?_)
      refine KL.nil ?_
      refine byCode ?_
      (refine KL.v rfl (Val.move rfl) ?_)
      (first | (refine KL.v rfl (Val.add rfl rfl (by simp only [Go.Proofs.Ytdkanfjpdnjhcaa.lo, Go.Proofs.Ytdkanfjpdnjhcaa.hi]; omega)) ?_) | (refine KL.v rfl (Val.addW rfl rfl) ?_))
      (refine KL.v rfl (Val.assign rfl) ?_)
      refine KL.nil ?_
      exact KE.again ⟨k + 1, ws ++ [(oA, r)], o'⟩ bySub (by dsimp only; rw [wsH_snoc]; exact byPart) ⟨by show k + 1 ≤ _; omega, ok', by show (ws ++ [(oA, r)]).map (·.2) = _; rw [take_snoc hr, List.map_append, hws]; rfl, by
        intro q hq
        rcases List.mem_append.1 hq with h | h
        · exact hwo q h
        · rw [List.mem_singleton.1 h]; exact ok1, by show tot (rows.take (k + 1)) ≤ 40 * (k + 1); omega⟩ (by show ps.length - (k + 1) < ps.length - k; omega)
  have hke : k = ps.length := by omega
  have hrk : rows.take k = rows := by rw [hke, hpl]; exact List.take_length
  rw [hrk] at hws htk
  have htot : tot rows ≤ 800 := by omega
  refine byCode ?_
  (refine KL.v rfl (Val.move rfl) ?_)
  (refine KL.v rfl (Val.move rfl) ?_)
  (first | (refine KL.v rfl (Val.lenSl rfl rfl bySli) ?_) | (refine KL.v rfl (Val.lenS rfl rfl) ?_))
  (first | (refine KL.v rfl (Val.isT (Val.lss rfl rfl) byLt) ?_) | (refine KL.v rfl (Val.isF (Val.lss rfl rfl) byLt) ?_) | (refine KL.v rfl (Val.lss rfl rfl) ?_))
  refine KL.nil ?_
  refine byCode ?_
  (refine KL.v rfl (Val.move rfl) ?_)
  (refine KL.v rfl (Val.move rfl) ?_)
  (refine KL.callc rfl rfl byEvL fun T hT => ?_)
  refine (CallV.pure fun w hw => CallV.fn (Merge_K (hP.only hw.old) (hR.only' hw.old) (hTs.only hw.old) (by omega) (by omega) (by omega))).mono ?_
  rintro _ _ ⟨_, ⟨o7, ok7, rfl, rfl⟩, rfl⟩
  refine hT _ _ ?_; clear hT; clear T
  (refine KL.v rfl (Val.assign rfl) ?_)
  refine KL.nil ?_
  refine byCode ?_
  (refine KL.v rfl (Val.move rfl) ?_)
  (refine KL.v rfl (Val.move rfl) ?_)
  (refine KL.v rfl (Val.move rfl) ?_)
  (refine KL.callc rfl rfl byEvL fun T hT => ?_)
  refine (CallV.pure fun w hw => CallV.fn (rMerge_K (hP.only hw.old) (hR.only' hw.old) (hTs.only hw.old) (by omega) (by omega) (by omega))).mono ?_
  rintro _ _ ⟨_, ⟨o8, ok8, rfl, rfl⟩, rfl⟩
  refine hT _ _ ?_; clear hT; clear T
  (refine KL.callc rfl rfl byEvL fun T hT => ?_)
  refine (CallV.pure fun w hw => CallV.fn (SameWatched_K (Sli.own byTakeL ok7 rfl w hw) (Sli.own byTakeL ok8 rfl w hw))).mono ?_
  rintro _ _ ⟨_, ⟨rfl, rfl⟩, rfl⟩
  refine hT _ _ ?_; clear hT; clear T
  rw [decide_eq_true (rfl : mergeP rows ts = mergeP rows ts)]
  (first | (refine KL.v rfl (Val.notT rfl) ?_) | (refine KL.v rfl (Val.notF rfl) ?_) | (refine KL.v rfl (Val.not rfl) ?_) | (refine KL.v rfl (Val.notB rfl) ?_))
  refine KL.nil ?_
  refine byCode ?_
  (refine KL.v rfl (Val.assign rfl) ?_)
  refine KL.nil ?_
  refine byCode ?_
  (refine KL.v rfl (Val.assign rfl) ?_)
  refine KL.nil ?_
  have hml := merge_len rows ts
  refine byBlk ?_
  refine K.loop (σ := Nat) (fun j => [(9, .int .i64 (j : Nat)), (8, .int .i64 (tot (rows.take j) : Nat)), (7, oV o7 (mergeP rows ts).length), (5, oV ow ws.length), (0, vp), (1, vt)])
    (fun _ => oH wE 48 (mergeP rows ts) o7 ++ (oH owE 22 ws ow ++ (wsH ws ++ []))) (fun j => j ≤ ps.length) (fun j => ps.length - j) 0 bySub byPart (by omega) ?_
  rintro j hj
  by_cases hlj : j < ps.length
  · obtain ⟨p, hp⟩ := get_of_lt hlj
    obtain ⟨r, hr⟩ := get_of_lt (l := rows) (k := j) (by omega)
    have hrow := hR.row j p r hp hr
    have hrl := row_le hr
    have htt := tot_snoc hr
    have hle : tot (rows.take (j + 1)) ≤ tot rows := by
      have := tot_app (rows.take (j + 1)) (rows.drop (j + 1))
      rw [List.take_append_drop] at this
      omega
    obtain ⟨q, hq⟩ := get_of_lt (l := ws) (k := j) (by omega)
    obtain ⟨oi, r'⟩ := q
    have hrr : r' = r := by
      have h1 : (ws.map (·.2))[j]? = some r' := by rw [List.getElem?_map, hq]; rfl
      rw [hws, hr] at h1
      exact (Option.some.inj h1).symm
    subst hrr
    have oki := hwo _ (List.mem_of_getElem? hq)
    dsimp only at oki
    obtain ⟨Fi, hFi⟩ := wsH_take hq
    dsimp only at hFi
    have hwS : Sli w0 (wsH ws) sE (oV oi r'.length) r' := Sli.own hFi oki rfl
    have hmo := merge_of rows ts hr
    refine byCode ?_
    (refine KL.v rfl (Val.move rfl) ?_)
    (refine KL.v rfl (Val.move rfl) ?_)
    (first | (refine KL.v rfl (Val.lenSl rfl rfl bySli) ?_) | (refine KL.v rfl (Val.lenS rfl rfl) ?_))
    (first | (refine KL.v rfl (Val.isT (Val.lss rfl rfl) byLt) ?_) | (refine KL.v rfl (Val.isF (Val.lss rfl rfl) byLt) ?_) | (refine KL.v rfl (Val.lss rfl rfl) ?_))
    refine KL.nil ?_
    refine byCode ?_
    refine K.seq (K.block ?_)
    refine byCode ?_
    (refine KL.v rfl (Val.move rfl) ?_)
    (refine KL.v rfl (Val.move rfl) ?_)
    (refine KL.v rfl (Val.move rfl) ?_)
    (first | (refine KL.v rfl (Val.idxSl rfl rfl rfl bySli rfl byLt) ?_) | (refine KL.v rfl (Val.idxSlZ rfl rfl rfl bySli rfl (by omega)) ?_) | (refine KL.v rfl (Val.indexS1 rfl rfl rfl rfl (by omega)) ?_) | (refine KL.v rfl (Val.indexS rfl rfl rfl rfl (by omega)) ?_) | (refine KL.v rfl (Val.indexSO rfl rfl rfl rfl (by omega)) ?_) | (refine KL.v rfl (Val.indexSG rfl rfl rfl rfl (by omega)) ?_))
    (refine KL.v rfl (Val.loadP rfl rfl bySee) ?_)
    (first | (refine KL.v rfl (Val.lenSl rfl rfl bySli) ?_) | (refine KL.v rfl (Val.lenS rfl rfl) ?_))
    (first | (refine KL.v rfl (Val.add rfl rfl (by simp only [Go.Proofs.Ytdkanfjpdnjhcaa.lo, Go.Proofs.Ytdkanfjpdnjhcaa.hi]; omega)) ?_) | (refine KL.v rfl (Val.addW rfl rfl) ?_))
    (refine KL.v rfl (Val.assign rfl) ?_)
    refine KL.nil ?_
    refine byCodeD ?_
    (first | refine K.seq (K.drawn _ [(0, 0), (1, 0), (3, 1), (4, 1), (5, 1), (6, 1), (2, 2), (7, 2), (8, 0), (9, 0), (10, 0), (11, 0), (12, 0), (13, 0), (14, 0), (15, 0), (16, 0), (17, 0), (18, 2), (19, 0), (20, 0)] (by kernel_rfl) (by kernel_rfl) (by kernel_rfl) (by kernel_rfl) (by kernel_rfl) (by kernel_rfl) Part.all ?_) | refine K.seq (K.seq (K.drawn _ [(0, 0), (1, 0), (3, 1), (4, 1), (5, 1), (6, 1), (2, 2), (7, 2), (8, 0), (9, 0), (10, 0), (11, 0), (12, 0), (13, 0), (14, 0), (15, 0), (16, 0), (17, 0), (18, 2), (19, 0), (20, 0)] (by kernel_rfl) (by kernel_rfl) (by kernel_rfl) (by kernel_rfl) (by kernel_rfl) (by kernel_rfl) Part.all ?_)) | refine K.drawn _ [(0, 0), (1, 0), (3, 1), (4, 1), (5, 1), (6, 1), (2, 2), (7, 2), (8, 0), (9, 0), (10, 0), (11, 0), (12, 0), (13, 0), (14, 0), (15, 0), (16, 0), (17, 0), (18, 2), (19, 0), (20, 0)] (by kernel_rfl) (by kernel_rfl) (by kernel_rfl) (by kernel_rfl) (by kernel_rfl) (by kernel_rfl) Part.all ?_)
    refine KD.v0 rfl rfl (Val.move rfl) ?_
    refine KD.v0 rfl rfl (Val.move rfl) ?_
    refine KD.v1 rfl rfl (Val.move rfl) ?_
    refine KD.v1 rfl rfl (Val.move rfl) ?_
    (first | refine KD.v1 rfl rfl (Val.idxSl rfl rfl rfl bySli rfl byLt) ?_ | refine KD.v1 rfl rfl (Val.idxSlZ rfl rfl rfl bySli rfl (by omega)) ?_ | refine KD.v1 rfl rfl (Val.indexS1 rfl rfl rfl rfl (by omega)) ?_ | refine KD.v1 rfl rfl (Val.indexS rfl rfl rfl rfl (by omega)) ?_ | refine KD.v1 rfl rfl (Val.indexSO rfl rfl rfl rfl (by omega)) ?_ | refine KD.v1 rfl rfl (Val.indexSG rfl rfl rfl rfl (by omega)) ?_)
    refine KD.v1 rfl rfl (Val.loadP rfl rfl bySee) ?_
    refine KD.callc rfl rfl rfl byEvL fun T hT => ?_
    refine (CallV.pure fun w hw => CallV.fn (Of_K (Sli.own byTakeL ok7 rfl w hw) (by omega) (j : Nat))).mono ?_
    rintro _ _ ⟨_, ⟨o9, ok9, rfl, rfl⟩, rfl⟩
    rw [hmo] at ok9 ⊢
    refine hT _ _ byPart ?_; clear hT; clear T
    refine KD.callc rfl rfl rfl byEvL fun T hT => ?_
    refine (CallV.pure fun w hw => CallV.fn (Same_K (Sli.own byTakeL ok9 rfl w hw) (Sli.part hwS byPart w hw))).mono ?_
    rintro _ _ ⟨_, ⟨rfl, rfl⟩, rfl⟩
    rw [decide_eq_true (rfl : r' = r')]
    refine hT _ _ byPart ?_; clear hT; clear T
    (first | refine KD.v0 rfl rfl (Val.notT rfl) ?_ | refine KD.v0 rfl rfl (Val.notF rfl) ?_ | refine KD.v0 rfl rfl (Val.not rfl) ?_ | refine KD.v0 rfl rfl (Val.notB rfl) ?_)
    refine KD.v0 rfl rfl (Val.move rfl) ?_
    (first | refine KD.no rfl rfl rfl rfl rfl ?_ | refine KD.noU rfl rfl rfl rfl rfl ?_ | refine KD.y0 rfl rfl rfl rfl (Val.move rfl) ?_)
    (first | refine KD.no rfl rfl rfl rfl rfl ?_ | refine KD.noU rfl rfl rfl rfl rfl ?_ | refine KD.y0 rfl rfl rfl rfl (Val.move rfl) ?_)
    (first | refine KD.no rfl rfl rfl rfl rfl ?_ | refine KD.noU rfl rfl rfl rfl rfl ?_ | refine KD.y0 rfl rfl rfl rfl (Val.idxSl rfl rfl rfl bySli rfl byLt) ?_ | refine KD.y0 rfl rfl rfl rfl (Val.idxSlZ rfl rfl rfl bySli rfl (by omega)) ?_ | refine KD.y0 rfl rfl rfl rfl (Val.indexS1 rfl rfl rfl rfl (by omega)) ?_ | refine KD.y0 rfl rfl rfl rfl (Val.indexS rfl rfl rfl rfl (by omega)) ?_ | refine KD.y0 rfl rfl rfl rfl (Val.indexSO rfl rfl rfl rfl (by omega)) ?_ | refine KD.y0 rfl rfl rfl rfl (Val.indexSG rfl rfl rfl rfl (by omega)) ?_)
    (first | refine KD.no rfl rfl rfl rfl rfl ?_ | refine KD.noU rfl rfl rfl rfl rfl ?_ | refine KD.y0 rfl rfl rfl rfl (Val.loadP rfl rfl bySee) ?_)
    (first | refine KD.no rfl rfl rfl rfl rfl ?_ | refine KD.noU rfl rfl rfl rfl rfl ?_ | refine KD.y0 rfl rfl rfl rfl (Val.move rfl) ?_)
    (first | refine KD.no rfl rfl rfl rfl rfl ?_ | refine KD.noU rfl rfl rfl rfl rfl ?_ | refine KD.y0 rfl rfl rfl rfl (Val.move rfl) ?_)
    (first | refine KD.no rfl rfl rfl rfl rfl ?_ | refine KD.noU rfl rfl rfl rfl rfl ?_ | refine KD.y0 rfl rfl rfl rfl (Val.idxSl rfl rfl rfl bySli rfl byLt) ?_ | refine KD.y0 rfl rfl rfl rfl (Val.idxSlZ rfl rfl rfl bySli rfl (by omega)) ?_ | refine KD.y0 rfl rfl rfl rfl (Val.indexS1 rfl rfl rfl rfl (by omega)) ?_ | refine KD.y0 rfl rfl rfl rfl (Val.indexS rfl rfl rfl rfl (by omega)) ?_ | refine KD.y0 rfl rfl rfl rfl (Val.indexSO rfl rfl rfl rfl (by omega)) ?_ | refine KD.y0 rfl rfl rfl rfl (Val.indexSG rfl rfl rfl rfl (by omega)) ?_)
    (first | refine KD.no rfl rfl rfl rfl rfl ?_ | refine KD.noU rfl rfl rfl rfl rfl ?_ | refine KD.y0 rfl rfl rfl rfl (Val.loadP rfl rfl bySee) ?_)
    refine KD.callcY rfl rfl rfl rfl rfl byEvL fun T hT => ?_
    refine (CallV.pure fun w hw => CallV.fn (Same_K (hrow.only hw.old) (Sli.part hwS byPart w hw))).mono ?_
    rintro _ _ ⟨_, ⟨rfl, rfl⟩, rfl⟩
    rw [decide_eq_true (rfl : r' = r')]
    refine hT _ _ byPart ?_; clear hT; clear T
    (first | refine KD.no rfl rfl rfl rfl rfl ?_ | refine KD.noU rfl rfl rfl rfl rfl ?_ | refine KD.y0 rfl rfl rfl rfl (Val.notT rfl) ?_ | refine KD.y0 rfl rfl rfl rfl (Val.notF rfl) ?_ | refine KD.y0 rfl rfl rfl rfl (Val.not rfl) ?_ | refine KD.y0 rfl rfl rfl rfl (Val.notB rfl) ?_)
    (first | refine KD.v0 rfl rfl (Val.pickT rfl rfl rfl) ?_ | refine KD.v0 rfl rfl (Val.pickF rfl rfl rfl) ?_ | refine KD.v0 rfl rfl (Val.pickB rfl rfl rfl) ?_)
    refine KD.nil ?_
    refine byCode ?_
    (refine KL.v rfl (Val.move rfl) ?_)
    (first | (refine KL.v rfl (Val.add rfl rfl (by simp only [Go.Proofs.Ytdkanfjpdnjhcaa.lo, Go.Proofs.Ytdkanfjpdnjhcaa.hi]; omega)) ?_) | (refine KL.v rfl (Val.addW rfl rfl) ?_))
    (refine KL.v rfl (Val.assign rfl) ?_)
    refine KL.nil ?_
    exact KE.again (j + 1) bySub byPart (by omega) (by omega)
  · have hje : j = ps.length := by omega
    have hjt : tot (rows.take j) = tot rows := by rw [hje, hpl, List.take_length]
    refine byCode ?_
    (refine KL.v rfl (Val.move rfl) ?_)
    (refine KL.v rfl (Val.move rfl) ?_)
    (first | (refine KL.v rfl (Val.lenSl rfl rfl bySli) ?_) | (refine KL.v rfl (Val.lenS rfl rfl) ?_))
    (first | (refine KL.v rfl (Val.isT (Val.lss rfl rfl) byLt) ?_) | (refine KL.v rfl (Val.isF (Val.lss rfl rfl) byLt) ?_) | (refine KL.v rfl (Val.lss rfl rfl) ?_))
    refine KL.nil ?_
    refine byCode ?_
    (refine KL.v rfl (Val.move rfl) ?_)
    (first | (refine KL.v rfl (Val.lenSl rfl rfl bySli) ?_) | (refine KL.v rfl (Val.lenS rfl rfl) ?_))
    (refine KL.v rfl (Val.move rfl) ?_)
    (first | (refine KL.v rfl (Val.isT (Val.eql rfl rfl) byLt) ?_) | (refine KL.v rfl (Val.isF (Val.eql rfl rfl) byLt) ?_) | (refine KL.v rfl (Val.eql rfl rfl) ?_))
    (refine KL.v rfl (Val.move rfl) ?_)
    (refine KL.yes rfl rfl ?_; refine KL.callc rfl rfl byEvL fun T hT => ?_)
    refine (CallV.fn awake_K).mono ?_
    rintro _ _ ⟨rfl, rfl⟩
    refine hT _ _ ?_; clear hT; clear T
    (first | (refine KL.v rfl (Val.pickT rfl rfl rfl) ?_) | (refine KL.v rfl (Val.pickF rfl rfl rfl) ?_) | (refine KL.v rfl (Val.pickB rfl rfl rfl) ?_))
    (refine KL.v rfl (Val.assign rfl) ?_)
    refine KL.nil ?_
    refine byCode ?_
    exact KE.fin byMarks rfl byRes byPart ⟨rfl, rfl⟩

theorem traceMerges_call {H : Type} {enc : TypeId × Value → H} (W : World) (base : Nat) (v0 v1 : Value) {d0 d1 : DataW H} {p0 p1 : List MemPlace}
    (o0 : Value.okWide Try.prog W .any base 40 v0) (h0 : DataW.Trod enc Try.prog W 0 (fun _ => true) true 40 v0 d0 p0)
    (o1 : Value.okWide Try.prog W .any base 33 v1) (h1 : DataW.Trod enc Try.prog W 0 (fun _ => true) true 33 v1 d1 p1) :
    Calls Try.prog 6 #[v0, v1] W (AwakeEnd W) := by
  obtain ⟨ps, rows, hP, hR, -⟩ := parts_sl o0 h0
  obtain ⟨ts, hT, -⟩ := ints_sl o1 h1
  exact (traceMerges_K hP hR hT).calls
end Go.Proofs.Ytdkanfjpdnjhcaa
