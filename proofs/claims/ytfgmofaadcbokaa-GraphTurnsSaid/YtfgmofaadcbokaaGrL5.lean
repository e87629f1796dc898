/- Graph: the law GraphTurns. -/
import Derived.Test.YtfgmofaadcbokaaGrL3
namespace Go.Proofs.Ytfgmofaadcbokaa
open Go.RowKit Go.ChangeShapes Go.WideShapes Go.ChangeAt Go.Deep Go.Joins
set_option linter.unusedVariables false
set_option linter.unusedSimpArgs false

/-! ## the plain law -/
def okN (N : Nat) (x : Int) : Bool := decide (0 ≤ x ∧ x < (N : Int))
def nvP (N : Nat) (l : List Int) : Nat := (l.filter (okN N)).length
def dupP (l : List Int) (N : Nat) : List Int := (List.range N).flatMap fun (m : Nat) => List.replicate (l.count (m : Int)) (m : Int)
theorem nv_succ (N : Nat) : ∀ l : List Int, nvP (N + 1) l = nvP N l + l.count (N : Int)
  | [] => rfl
  | x :: l => by
    have ih := nv_succ N l
    unfold nvP at ih ⊢
    simp only [List.filter_cons, List.count_cons]
    by_cases h1 : 0 ≤ x ∧ x < (N : Int)
    · have h2 : okN (N + 1) x = true := by simp only [okN, decide_eq_true_eq]; omega
      have h3 : (x == (N : Int)) = false := by simp; omega
      have h4 : okN N x = true := by simp only [okN, decide_eq_true_eq]; exact h1
      rw [h2, h3, h4]; simp; omega
    · have h4 : okN N x = false := by simp only [okN, decide_eq_false_iff_not]; exact h1
      by_cases h3 : x = (N : Int)
      · have h2 : okN (N + 1) x = true := by simp only [okN, decide_eq_true_eq]; omega
        have h5 : (x == (N : Int)) = true := by simp [h3]
        rw [h2, h4, h5]; simp; omega
      · have h2 : okN (N + 1) x = false := by simp only [okN, decide_eq_false_iff_not]; omega
        have h5 : (x == (N : Int)) = false := by simp [h3]
        rw [h2, h4, h5]; simp; omega
theorem nv_zero (l : List Int) : nvP 0 l = 0 := by
  unfold nvP
  rw [List.length_eq_zero_iff, List.filter_eq_nil_iff]
  intro x _
  simp only [okN, decide_eq_true_eq]; omega
theorem nv_snoc (N : Nat) (l : List Int) (x : Int) : nvP N (l ++ [x]) = nvP N l + (if 0 ≤ x ∧ x < (N : Int) then 1 else 0) := by
  unfold nvP
  rw [List.filter_append, List.length_append]
  congr 1
  by_cases h : 0 ≤ x ∧ x < (N : Int)
  · rw [if_pos h]; simp [okN, h]
  · rw [if_neg h]
    have : okN N x = false := by simp only [okN, decide_eq_false_iff_not]; exact h
    simp [this]
theorem dup_len (l : List Int) : ∀ N, (dupP l N).length = nvP N l
  | 0 => by rw [nv_zero]; rfl
  | N + 1 => by
    have ih := dup_len l N
    rw [nv_succ, ← ih]
    simp [dupP, List.range_succ]
theorem dup_mem {l : List Int} {N : Nat} {x : Int} : x ∈ dupP l N ↔ x ∈ l ∧ 0 ≤ x ∧ x < (N : Nat) := by
  simp only [dupP, List.mem_flatMap, List.mem_range, List.mem_replicate]
  constructor
  · rintro ⟨m, hm, hc, rfl⟩; exact ⟨List.count_pos_iff.1 (by omega), by omega, by omega⟩
  · rintro ⟨h, h0, h1⟩
    refine ⟨x.toNat, by omega, ?_, by omega⟩
    have := List.count_pos_iff.2 h
    rw [show ((x.toNat : Nat) : Int) = x by omega]; omega
theorem dup_sorted (l : List Int) : ∀ N, (dupP l N).Pairwise (· ≤ ·)
  | 0 => List.Pairwise.nil
  | N + 1 => by
    have e : dupP l (N + 1) = dupP l N ++ List.replicate (l.count (N : Int)) (N : Int) := by simp [dupP, List.range_succ]
    rw [e, List.pairwise_append]
    refine ⟨dup_sorted l N, ?_, ?_⟩
    · rw [List.pairwise_replicate]; exact .inr (Int.le_refl _)
    · intro x hx y hy
      have h1 := dup_mem.1 hx
      have h2 := (List.mem_replicate.1 hy).2
      omega
theorem count_src (rows : List (List Int)) (x n : Nat) : ∀ i, (srcP rows (x : Int) i).count (n : Int) = if n < i then ((rows[n]?).getD []).count (x : Int) else 0
  | 0 => by simp [srcP]
  | i + 1 => by
    rw [srcP_succ, List.count_append, count_src rows x n i, List.count_replicate]
    by_cases h1 : n < i
    · have h2 : ((i : Int) == (n : Int)) = false := by simp; omega
      rw [h2, if_pos h1, if_pos (show n < i + 1 by omega)]; simp
    · by_cases h3 : n = i
      · subst h3; simp
      · have h2 : ((i : Int) == (n : Int)) = false := by simp; omega
        rw [h2, if_neg h1, if_neg (show ¬ n < i + 1 by omega)]; simp
theorem flatMap_congr' {α β : Type} {f g : α → List β} : ∀ {l : List α}, (∀ x ∈ l, f x = g x) → l.flatMap f = l.flatMap g
  | [], _ => rfl
  | x :: l, h => by
    rw [List.flatMap_cons, List.flatMap_cons, h x (.head _), flatMap_congr' fun y hy => h y (.tail _ hy)]
theorem turn_get {rs : List (List Int)} {n : Nat} (h : n < rs.length) : (turnP rs)[n]? = some (srcP rs (n : Int) rs.length) := by simp [turnP, h]
theorem twice {rows : List (List Int)} {n : Nat} {r : List Int} (hr : rows[n]? = some r) : (turnP (turnP rows))[n]? = some (dupP r rows.length) := by
  have hn := lt_of_get hr
  have e : srcP (turnP rows) (n : Int) rows.length = dupP r rows.length := by
    unfold srcP dupP
    refine flatMap_congr' fun m hm => ?_
    have hm' := List.mem_range.1 hm
    have e2 : (turnP rows)[m]? = some (srcP rows (m : Int) rows.length) := by simp [turnP, hm']
    rw [e2, Option.getD_some, count_src, if_pos hn, hr]
    rfl
  have e3 : (turnP (turnP rows))[n]? = some (srcP (turnP rows) (n : Int) (turnP rows).length) := turn_get (by rw [turn_len]; exact hn)
  rw [e3, turn_len, e]
def moreP (rows : List (List Int)) (a : Int) (b : Nat) : List (List Int) := rows.set b (rowP rows (b : Int) ++ [a])
theorem more_len (rows : List (List Int)) (a : Int) (b : Nat) : (moreP rows a b).length = rows.length := by simp [moreP]
theorem more_get {rows : List (List Int)} {a : Int} {b n : Nat} {r : List Int} (hr : rows[n]? = some r) : (moreP rows a b)[n]? = some (if n = b then r ++ [a] else r) := by
  have hn := lt_of_get hr
  unfold moreP
  by_cases h : n = b
  · subst h; rw [List.getElem?_set_self hn, if_pos rfl]; simp [rowP, hr]
  · rw [List.getElem?_set_ne (fun e => h e.symm), if_neg h, hr]
theorem more_edge {rows : List (List Int)} {a : Int} {b : Nat} {y x : Int} (e : Edge rows y x) : Edge (moreP rows a b) y x := by
  obtain ⟨h1, h2, h3⟩ := e
  refine ⟨by unfold Nd; rw [more_len]; exact h1, by unfold Nd; rw [more_len]; exact h2, ?_⟩
  obtain ⟨q, rfl, hq⟩ := h1.nat
  obtain ⟨r, hr⟩ := get_of_lt hq
  have := more_get (a := a) (b := b) hr
  simp only [rowP, Int.toNat_natCast, hr, this, Option.getD_some] at h3 ⊢
  split
  · exact List.mem_append_left _ h3
  · exact h3
theorem more_wk {rows : List (List Int)} {a : Int} {b : Nat} : ∀ {k : Nat} {y x : Int}, Wk rows k y x → Wk (moreP rows a b) k y x
  | 0, y, x, ⟨h, e⟩ => ⟨by unfold Nd; rw [more_len]; exact h, e⟩
  | k + 1, y, x, ⟨z, h, e⟩ => ⟨z, more_wk h, more_edge e⟩
theorem more_reach {rows : List (List Int)} {a : Int} {b n : Nat} (hn : n < rows.length) (h : (reachP rows [a])[n]? = some true) : (reachP (moreP rows a b) [a])[n]? = some true := by
  obtain ⟨x, hx, hxi⟩ := reach_get (rows := rows) (frm := [a]) hn
  rw [h] at hx
  cases hx
  obtain ⟨k, hk⟩ := hxi.1 rfl
  obtain ⟨y, hy, hyi⟩ := reach_get (rows := moreP rows a b) (frm := [a]) (x := n) (by rw [more_len]; exact hn)
  rw [hy, hyi.2 ⟨k, pth_one.2 (more_wk (pth_one.1 hk))⟩]
theorem there_back {rows : List (List Int)} {a b : Nat} (ha : a < rows.length) (hb : b < rows.length) : ∃ x, (reachP rows [(a : Int)])[b]? = some x ∧ (reachP (turnP rows) [(b : Int)])[a]? = some x := by
  obtain ⟨x, hx, hxi⟩ := reach_get (rows := rows) (frm := [(a : Int)]) hb
  obtain ⟨y, hy, hyi⟩ := reach_get (rows := turnP rows) (frm := [(b : Int)]) (x := a) (by rw [turn_len]; exact ha)
  refine ⟨x, hx, ?_⟩
  rw [hy]
  congr 1
  have : (∃ k, Pth (turnP rows) [(b : Int)] k (a : Int)) ↔ ∃ k, Pth rows [(a : Int)] k (b : Int) := by
    constructor
    · rintro ⟨k, hk⟩; exact ⟨k, pth_one.2 (wk_turn (pth_one.1 hk))⟩
    · rintro ⟨k, hk⟩; exact ⟨k, pth_one.2 (wk_turn' (pth_one.1 hk))⟩
  rw [this] at hyi
  rw [← hxi] at hyi
  cases x <;> cases y <;> simp_all

/-! ## the walk -/
theorem rows_at {w0 : World} {H : Heap} {ws : List WR} {ow : Own} (okw : oOk wE ws ow) (oks : ∀ p ∈ ws, oOk iE p.2 p.1) (hp : Part H (oH wE 23 ws ow ++ wsH ws)) {w : World} (hw : HF w0 H w) :
    SlW w svE (oV ow ws.length) (ws.map toSV) ∧ RowsI w (ws.map toSV) (ws.map (·.2)) := HF.turned (F := []) (by rw [List.append_nil]; exact hw.part hp) okw oks
theorem Reach_T {w0 : World} {H : Heap} {ws : List WR} {ow : Own} {rows : List (List Int)} {l : List Int} {v : Value} (okw : oOk wE ws ow) (oks : ∀ p ∈ ws, oOk iE p.2 p.1) (hmp : ws.map (·.2) = rows) (hp : Part H (oH wE 23 ws ow ++ wsH ws))
    (hS : Sli w0 H iE v l) (hl : l.length ≤ 100000) (hn : rows.length ≤ 100) (hs : ∀ r ∈ rows, r.length ≤ 1000) :
    CallV Try.prog w0 (.func (.func 14) #[] #[]) [oV ow ws.length, v] H (fun r H' => ∃ o, oOk boE (reachP rows l) o ∧ r = oV o (reachP rows l).length ∧ H' = oH boE 4 (reachP rows l) o ++ H) := by
  subst hmp
  have hl2 : (ws.map toSV).length ≤ 100 := by simpa using hn
  refine (CallV.pure fun w hw => CallV.fn (Reach_K (rows_at okw oks hp hw).1 (rows_at okw oks hp hw).2 (hS w hw) hl hl2 hs)).mono ?_
  rintro _ _ ⟨_, ⟨o, ok, rfl, rfl⟩, rfl⟩
  exact ⟨o, ok, rfl, rfl⟩
theorem Turned_T {w0 : World} {H : Heap} {ws : List WR} {ow : Own} {rows : List (List Int)} (okw : oOk wE ws ow) (oks : ∀ p ∈ ws, oOk iE p.2 p.1) (hmp : ws.map (·.2) = rows) (hp : Part H (oH wE 23 ws ow ++ wsH ws)) (hn : rows.length ≤ 100) (hs : ∀ r ∈ rows, r.length ≤ 1000) :
    CallV Try.prog w0 (.func (.func 10) #[] #[]) [oV ow ws.length] H (fun r H' => ∃ us ou, oOk wE us ou ∧ us.map (·.2) = turnP rows ∧ (∀ p ∈ us, oOk iE p.2 p.1) ∧ r = oV ou us.length ∧ H' = oH wE 23 us ou ++ (wsH us ++ H)) := by
  subst hmp
  have hl2 : (ws.map toSV).length ≤ 100 := by simpa using hn
  refine (CallV.pure fun w hw => CallV.fn (Turned_K (rows_at okw oks hp hw).1 (rows_at okw oks hp hw).2 hl2 hs)).mono ?_
  rintro _ _ ⟨_, ⟨us, ou, h1, h2, h3, rfl, rfl⟩, rfl⟩
  exact ⟨us, ou, h1, h2, h3, rfl, by simp⟩

structure TuE where
  i : Nat
  e : Nat
structure TuM where
  n : Nat
  ms : List WR
  om : Own
set_option maxRecDepth 10000 in
set_option maxHeartbeats 4000000 in
theorem graphTurns_K {w0 : World} {vg : Value} {gs : List SV} {rows : List (List Int)} {a b : Int} (hG : SlW w0 svE vg gs) (hR : RowsI w0 gs rows) (hb : ∀ r ∈ rows, r.length ≤ 140737488355328) :
    Call Try.prog w0 7 [vg, .int .i64 a, .int .i64 b] [] (fun r H' => r = .bool true ∧ H' = []) := by
  refine Call.enter3 (n := 215) (by kernel_rfl) Try.func7 rfl rfl rfl ?_
  have hgl := hR.len
  refine K.seq ?_
  refine K.region ?_
  (refine KL.v rfl (Val.assign rfl) ?_)
  refine KL.nil ?_
  refine KE.next ?_
  refine K.seq ?_
  refine K.seq ?_
  refine K.region ?_
  (refine KL.v rfl (Val.move rfl) ?_)
  (refine KL.callc rfl rfl byEvL fun T hT => ?_)
  refine (CallV.fn (great_K (l := []) hG hR (SlW.nil _ _) hb)).mono ?_
  rintro _ _ ⟨rfl, rfl⟩
  cases hgr : greatP rows ([] : List Int).length with
  | true =>
    refine hT _ _ ?_; clear hT; clear T
    (refine KL.v rfl (Val.move rfl) ?_)
    refine KL.skipG rfl rfl rfl ?_
    refine KL.skipG rfl rfl rfl ?_
    (refine KL.v rfl (Val.pickT rfl rfl rfl) ?_)
    (refine KL.v rfl (Val.move rfl) ?_)
    refine KL.skipG rfl rfl rfl ?_
    refine KL.skipG rfl rfl rfl ?_
    (refine KL.v rfl (Val.pickT rfl rfl rfl) ?_)
    (refine KL.v rfl (Val.move rfl) ?_)
    refine KL.skipG rfl rfl rfl ?_
    refine KL.skipG rfl rfl rfl ?_
    refine KL.skipG rfl rfl rfl ?_
    refine KL.skipG rfl rfl rfl ?_
    (refine KL.v rfl (Val.pickT rfl rfl rfl) ?_)
    (refine KL.v rfl (Val.move rfl) ?_)
    refine KL.skipG rfl rfl rfl ?_
    refine KL.skipG rfl rfl rfl ?_
    refine KL.skipG rfl rfl rfl ?_
    refine KL.skipG rfl rfl rfl ?_
    (refine KL.v rfl (Val.pickT rfl rfl rfl) ?_)
    refine KL.nil ?_
    refine KE.next ?_
    refine K.condT rfl ?_
    refine K.seq ?_
    refine K.region ?_
    (refine KL.callc rfl rfl byEvL fun T hT => ?_)
    (refine (CallV.fn awake_K).mono ?_; rintro _ _ ⟨rfl, rfl⟩)
    (refine hT _ _ ?_; clear hT; clear T)
    (refine KL.v rfl (Val.assign rfl) ?_)
    refine KL.nil ?_
    refine KE.next ?_
    refine K.ret ?_
    refine KE.passR ?_
    exact KE.fin byMarks rfl byRes byPart ⟨rfl, rfl⟩
  | false =>
    obtain ⟨h40, h200, _⟩ := great_false hgr
    have hbb : ∀ r ∈ rows, r.length ≤ 1000 := fun r hr => Nat.le_trans (tot_row hr) (by omega)
    have hg1 : gs.length ≤ 100 := by omega
    have ht1 : totP rows ≤ 1000 := by omega
    by_cases ha0 : a < 0
    · skip
      refine hT _ _ ?_; clear hT; clear T
      (refine KL.v rfl (Val.move rfl) ?_)
      (refine KL.yes rfl rfl ?_; refine KL.v rfl (Val.move rfl) ?_)
      (refine KL.yes rfl rfl ?_; refine KL.v rfl (Val.isT (Val.lss rfl rfl) byLt) ?_)
      (refine KL.v rfl (Val.pickF rfl rfl rfl) ?_)
      (refine KL.v rfl (Val.move rfl) ?_)
      refine KL.skipG rfl rfl rfl ?_
      refine KL.skipG rfl rfl rfl ?_
      (refine KL.v rfl (Val.pickT rfl rfl rfl) ?_)
      (refine KL.v rfl (Val.move rfl) ?_)
      refine KL.skipG rfl rfl rfl ?_
      refine KL.skipG rfl rfl rfl ?_
      refine KL.skipG rfl rfl rfl ?_
      refine KL.skipG rfl rfl rfl ?_
      (refine KL.v rfl (Val.pickT rfl rfl rfl) ?_)
      (refine KL.v rfl (Val.move rfl) ?_)
      refine KL.skipG rfl rfl rfl ?_
      refine KL.skipG rfl rfl rfl ?_
      refine KL.skipG rfl rfl rfl ?_
      refine KL.skipG rfl rfl rfl ?_
      (refine KL.v rfl (Val.pickT rfl rfl rfl) ?_)
      refine KL.nil ?_
      refine KE.next ?_
      refine K.condT rfl ?_
      refine K.seq ?_
      refine K.region ?_
      (refine KL.callc rfl rfl byEvL fun T hT => ?_)
      (refine (CallV.fn awake_K).mono ?_; rintro _ _ ⟨rfl, rfl⟩)
      (refine hT _ _ ?_; clear hT; clear T)
      (refine KL.v rfl (Val.assign rfl) ?_)
      refine KL.nil ?_
      refine KE.next ?_
      refine K.ret ?_
      refine KE.passR ?_
      exact KE.fin byMarks rfl byRes byPart ⟨rfl, rfl⟩
    by_cases hb0 : b < 0
    · skip
      refine hT _ _ ?_; clear hT; clear T
      (refine KL.v rfl (Val.move rfl) ?_)
      (refine KL.yes rfl rfl ?_; refine KL.v rfl (Val.move rfl) ?_)
      (refine KL.yes rfl rfl ?_; refine KL.v rfl (Val.isF (Val.lss rfl rfl) byLt) ?_)
      (refine KL.v rfl (Val.pickF rfl rfl rfl) ?_)
      (refine KL.v rfl (Val.move rfl) ?_)
      (refine KL.yes rfl rfl ?_; refine KL.v rfl (Val.move rfl) ?_)
      (refine KL.yes rfl rfl ?_; refine KL.v rfl (Val.isT (Val.lss rfl rfl) byLt) ?_)
      (refine KL.v rfl (Val.pickF rfl rfl rfl) ?_)
      (refine KL.v rfl (Val.move rfl) ?_)
      refine KL.skipG rfl rfl rfl ?_
      refine KL.skipG rfl rfl rfl ?_
      refine KL.skipG rfl rfl rfl ?_
      refine KL.skipG rfl rfl rfl ?_
      (refine KL.v rfl (Val.pickT rfl rfl rfl) ?_)
      (refine KL.v rfl (Val.move rfl) ?_)
      refine KL.skipG rfl rfl rfl ?_
      refine KL.skipG rfl rfl rfl ?_
      refine KL.skipG rfl rfl rfl ?_
      refine KL.skipG rfl rfl rfl ?_
      (refine KL.v rfl (Val.pickT rfl rfl rfl) ?_)
      refine KL.nil ?_
      refine KE.next ?_
      refine K.condT rfl ?_
      refine K.seq ?_
      refine K.region ?_
      (refine KL.callc rfl rfl byEvL fun T hT => ?_)
      (refine (CallV.fn awake_K).mono ?_; rintro _ _ ⟨rfl, rfl⟩)
      (refine hT _ _ ?_; clear hT; clear T)
      (refine KL.v rfl (Val.assign rfl) ?_)
      refine KL.nil ?_
      refine KE.next ?_
      refine K.ret ?_
      refine KE.passR ?_
      exact KE.fin byMarks rfl byRes byPart ⟨rfl, rfl⟩
    by_cases ha1 : a ≥ (gs.length : Nat)
    · skip
      refine hT _ _ ?_; clear hT; clear T
      (refine KL.v rfl (Val.move rfl) ?_)
      (refine KL.yes rfl rfl ?_; refine KL.v rfl (Val.move rfl) ?_)
      (refine KL.yes rfl rfl ?_; refine KL.v rfl (Val.isF (Val.lss rfl rfl) byLt) ?_)
      (refine KL.v rfl (Val.pickF rfl rfl rfl) ?_)
      (refine KL.v rfl (Val.move rfl) ?_)
      (refine KL.yes rfl rfl ?_; refine KL.v rfl (Val.move rfl) ?_)
      (refine KL.yes rfl rfl ?_; refine KL.v rfl (Val.isF (Val.lss rfl rfl) byLt) ?_)
      (refine KL.v rfl (Val.pickF rfl rfl rfl) ?_)
      (refine KL.v rfl (Val.move rfl) ?_)
      (refine KL.yes rfl rfl ?_; refine KL.v rfl (Val.move rfl) ?_)
      (refine KL.yes rfl rfl ?_; refine KL.v rfl (Val.move rfl) ?_)
      (refine KL.yes rfl rfl ?_; refine KL.v rfl (Val.lenSl rfl rfl (Sli.old (by assumption))) ?_)
      (refine KL.yes rfl rfl ?_; refine KL.v rfl (Val.isT (Val.geq rfl rfl) byLt) ?_)
      (refine KL.v rfl (Val.pickF rfl rfl rfl) ?_)
      (refine KL.v rfl (Val.move rfl) ?_)
      refine KL.skipG rfl rfl rfl ?_
      refine KL.skipG rfl rfl rfl ?_
      refine KL.skipG rfl rfl rfl ?_
      refine KL.skipG rfl rfl rfl ?_
      (refine KL.v rfl (Val.pickT rfl rfl rfl) ?_)
      refine KL.nil ?_
      refine KE.next ?_
      refine K.condT rfl ?_
      refine K.seq ?_
      refine K.region ?_
      (refine KL.callc rfl rfl byEvL fun T hT => ?_)
      (refine (CallV.fn awake_K).mono ?_; rintro _ _ ⟨rfl, rfl⟩)
      (refine hT _ _ ?_; clear hT; clear T)
      (refine KL.v rfl (Val.assign rfl) ?_)
      refine KL.nil ?_
      refine KE.next ?_
      refine K.ret ?_
      refine KE.passR ?_
      exact KE.fin byMarks rfl byRes byPart ⟨rfl, rfl⟩
    by_cases hb1 : b ≥ (gs.length : Nat)
    · skip
      refine hT _ _ ?_; clear hT; clear T
      (refine KL.v rfl (Val.move rfl) ?_)
      (refine KL.yes rfl rfl ?_; refine KL.v rfl (Val.move rfl) ?_)
      (refine KL.yes rfl rfl ?_; refine KL.v rfl (Val.isF (Val.lss rfl rfl) byLt) ?_)
      (refine KL.v rfl (Val.pickF rfl rfl rfl) ?_)
      (refine KL.v rfl (Val.move rfl) ?_)
      (refine KL.yes rfl rfl ?_; refine KL.v rfl (Val.move rfl) ?_)
      (refine KL.yes rfl rfl ?_; refine KL.v rfl (Val.isF (Val.lss rfl rfl) byLt) ?_)
      (refine KL.v rfl (Val.pickF rfl rfl rfl) ?_)
      (refine KL.v rfl (Val.move rfl) ?_)
      (refine KL.yes rfl rfl ?_; refine KL.v rfl (Val.move rfl) ?_)
      (refine KL.yes rfl rfl ?_; refine KL.v rfl (Val.move rfl) ?_)
      (refine KL.yes rfl rfl ?_; refine KL.v rfl (Val.lenSl rfl rfl (Sli.old (by assumption))) ?_)
      (refine KL.yes rfl rfl ?_; refine KL.v rfl (Val.isF (Val.geq rfl rfl) byLt) ?_)
      (refine KL.v rfl (Val.pickF rfl rfl rfl) ?_)
      (refine KL.v rfl (Val.move rfl) ?_)
      (refine KL.yes rfl rfl ?_; refine KL.v rfl (Val.move rfl) ?_)
      (refine KL.yes rfl rfl ?_; refine KL.v rfl (Val.move rfl) ?_)
      (refine KL.yes rfl rfl ?_; refine KL.v rfl (Val.lenSl rfl rfl (Sli.old (by assumption))) ?_)
      (refine KL.yes rfl rfl ?_; refine KL.v rfl (Val.isT (Val.geq rfl rfl) byLt) ?_)
      (refine KL.v rfl (Val.pickF rfl rfl rfl) ?_)
      refine KL.nil ?_
      refine KE.next ?_
      refine K.condT rfl ?_
      refine K.seq ?_
      refine K.region ?_
      (refine KL.callc rfl rfl byEvL fun T hT => ?_)
      (refine (CallV.fn awake_K).mono ?_; rintro _ _ ⟨rfl, rfl⟩)
      (refine hT _ _ ?_; clear hT; clear T)
      (refine KL.v rfl (Val.assign rfl) ?_)
      refine KL.nil ?_
      refine KE.next ?_
      refine K.ret ?_
      refine KE.passR ?_
      exact KE.fin byMarks rfl byRes byPart ⟨rfl, rfl⟩
    obtain ⟨a, rfl⟩ : ∃ q : Nat, a = (q : Int) := ⟨a.toNat, by omega⟩
    obtain ⟨b, rfl⟩ : ∃ q : Nat, b = (q : Int) := ⟨b.toNat, by omega⟩
    have hal : a < rows.length := by omega
    have hbl : b < rows.length := by omega
    have hRl := reach_len rows [(a : Int)]
    have hTl : (reachP (turnP rows) [(b : Int)]).length = rows.length := by rw [reach_len, turn_len]
    obtain ⟨x, hx1, hx2⟩ := there_back hal hbl
    refine hT _ _ ?_; clear hT; clear T
    (refine KL.v rfl (Val.move rfl) ?_)
    (refine KL.yes rfl rfl ?_; refine KL.v rfl (Val.move rfl) ?_)
    (refine KL.yes rfl rfl ?_; refine KL.v rfl (Val.isF (Val.lss rfl rfl) byLt) ?_)
    (refine KL.v rfl (Val.pickF rfl rfl rfl) ?_)
    (refine KL.v rfl (Val.move rfl) ?_)
    (refine KL.yes rfl rfl ?_; refine KL.v rfl (Val.move rfl) ?_)
    (refine KL.yes rfl rfl ?_; refine KL.v rfl (Val.isF (Val.lss rfl rfl) byLt) ?_)
    (refine KL.v rfl (Val.pickF rfl rfl rfl) ?_)
    (refine KL.v rfl (Val.move rfl) ?_)
    (refine KL.yes rfl rfl ?_; refine KL.v rfl (Val.move rfl) ?_)
    (refine KL.yes rfl rfl ?_; refine KL.v rfl (Val.move rfl) ?_)
    (refine KL.yes rfl rfl ?_; refine KL.v rfl (Val.lenSl rfl rfl (Sli.old (by assumption))) ?_)
    (refine KL.yes rfl rfl ?_; refine KL.v rfl (Val.isF (Val.geq rfl rfl) byLt) ?_)
    (refine KL.v rfl (Val.pickF rfl rfl rfl) ?_)
    (refine KL.v rfl (Val.move rfl) ?_)
    (refine KL.yes rfl rfl ?_; refine KL.v rfl (Val.move rfl) ?_)
    (refine KL.yes rfl rfl ?_; refine KL.v rfl (Val.move rfl) ?_)
    (refine KL.yes rfl rfl ?_; refine KL.v rfl (Val.lenSl rfl rfl (Sli.old (by assumption))) ?_)
    (refine KL.yes rfl rfl ?_; refine KL.v rfl (Val.isF (Val.geq rfl rfl) byLt) ?_)
    (refine KL.v rfl (Val.pickF rfl rfl rfl) ?_)
    refine KL.nil ?_
    refine KE.next ?_
    refine K.condF rfl ?_
    refine K.skip ?_
    refine KE.next ?_
    refine K.seq ?_
    refine K.region ?_
    (refine KL.v rfl (Val.move rfl) ?_)
    (refine KL.callc rfl rfl byEvL fun T hT => ?_)
    refine (CallV.fn (Turned_K hG hR hg1 hbb)).mono ?_
    rintro _ _ ⟨ws, ow, okw, hmp, oks, rfl, rfl⟩
    refine hT _ _ ?_; clear hT; clear T
    (refine KL.v rfl (Val.assign rfl) ?_)
    refine KL.nil ?_
    refine KE.next ?_
    refine K.seq ?_
    refine K.region ?_
    (refine KL.v rfl (Val.move rfl) ?_)
    (refine KL.v rfl (Val.move rfl) ?_)
    (refine KL.e rfl (Eff.buildS byParts rfl rfl rfl rfl rfl byFill) ?_; rintro _ _ ⟨b47, rfl, rfl⟩)
    (refine KL.callc rfl rfl byEvL fun T hT => ?_)
    refine (CallV.pure fun w hw => CallV.fn (Reach_K (l := [(a : Int)]) (hG.only hw.old) (hR.only hw.old) ((Sli.blk byTake rfl (by simp) (by simp [maxLen]) rfl : Sli w0 _ iE _ [(a : Int)]) w hw) (by simp) hg1 hbb)).mono ?_
    rintro _ _ ⟨_, ⟨oR, okR, rfl, rfl⟩, rfl⟩
    refine hT _ _ ?_; clear hT; clear T
    (refine KL.v rfl (Val.move rfl) ?_)
    (refine KL.v rfl (Val.move rfl) ?_)
    (refine KL.e rfl (Eff.buildS byParts rfl rfl rfl rfl rfl byFill) ?_; rintro _ _ ⟨b51, rfl, rfl⟩)
    (refine KL.callc rfl rfl byEvL fun T hT => ?_)
    refine (Reach_T (l := [(b : Int)]) (rows := turnP rows) okw oks hmp byPart (Sli.blk byTake rfl (by simp) (by simp [maxLen]) rfl) (by simp) (by rw [turn_len]; omega) (turn_rows ht1)).mono ?_
    rintro _ _ ⟨oB, okB, rfl, rfl⟩
    have hn1 : ¬ (((reachP rows [(a : Int)]).length : Nat) : Int) ≠ (gs.length : Nat) := by omega
    have hn2 : ¬ (((reachP (turnP rows) [(b : Int)]).length : Nat) : Int) ≠ (gs.length : Nat) := by omega
    have hbR : b < (reachP rows [(a : Int)]).length := by omega
    have haB : a < (reachP (turnP rows) [(b : Int)]).length := by omega
    have hxx : (x != x) = false := by cases x <;> rfl
    refine hT _ _ ?_; clear hT; clear T
    (refine KL.v rfl (Val.assign rfl) ?_)
    (refine KL.v rfl (Val.assign rfl) ?_)
    refine KL.nil ?_
    refine KE.next ?_
    refine K.seq ?_
    refine K.seq ?_
    refine K.drawn _ [(0, 0), (1, 0), (2, 0), (3, 0), (4, 0), (5, 0), (6, 0), (7, 0), (8, 0), (9, 0), (10, 0), (11, 0), (12, 0), (13, 0), (14, 0), (15, 0), (16, 0), (17, 0), (18, 0), (19, 0), (20, 0), (21, 0), (22, 0)] (by kernel_rfl) (by kernel_rfl) (by kernel_rfl) (by kernel_rfl) (by kernel_rfl) (by kernel_rfl) Part.all ?_
    refine KD.v0 rfl rfl (Val.move rfl) ?_
    refine KD.v0 rfl rfl (Val.lenSl rfl rfl (Sli.own byTakeL (by assumption) byLen)) ?_
    refine KD.v0 rfl rfl (Val.move rfl) ?_
    refine KD.v0 rfl rfl (Val.lenSl rfl rfl (Sli.old (by assumption))) ?_
    refine KD.v0 rfl rfl (Val.isF (Val.neq rfl rfl) byLt) ?_
    refine KD.v0 rfl rfl (Val.move rfl) ?_
    refine KD.y0 rfl rfl rfl rfl (Val.move rfl) ?_
    refine KD.y0 rfl rfl rfl rfl (Val.lenSl rfl rfl (Sli.own byTakeL (by assumption) byLen)) ?_
    refine KD.y0 rfl rfl rfl rfl (Val.move rfl) ?_
    refine KD.y0 rfl rfl rfl rfl (Val.lenSl rfl rfl (Sli.old (by assumption))) ?_
    refine KD.y0 rfl rfl rfl rfl (Val.isF (Val.neq rfl rfl) byLt) ?_
    refine KD.v0 rfl rfl (Val.pickF rfl rfl rfl) ?_
    refine KD.v0 rfl rfl (Val.move rfl) ?_
    refine KD.y0 rfl rfl rfl rfl (Val.move rfl) ?_
    refine KD.y0 rfl rfl rfl rfl (Val.move rfl) ?_
    refine KD.y0 rfl rfl rfl rfl (Val.idxSl rfl rfl rfl (Sli.own byTakeL (by assumption) byLen) rfl byLt) ?_
    refine KD.y0 rfl rfl rfl rfl (Val.loadP rfl rfl (Sees.sl0 (Sli.own byTakeL (by assumption) byLen) (by assumption) rfl)) ?_
    refine KD.y0 rfl rfl rfl rfl (Val.move rfl) ?_
    refine KD.y0 rfl rfl rfl rfl (Val.move rfl) ?_
    refine KD.y0 rfl rfl rfl rfl (Val.idxSl rfl rfl rfl (Sli.own byTakeL (by assumption) byLen) rfl byLt) ?_
    refine KD.y0 rfl rfl rfl rfl (Val.loadP rfl rfl (Sees.sl0 (Sli.own byTakeL (by assumption) byLen) (by assumption) rfl)) ?_
    refine KD.y0 rfl rfl rfl rfl (Val.neqB rfl rfl rfl) ?_
    refine KD.v0 rfl rfl (Val.pickF rfl rfl rfl) ?_
    refine KD.nil ?_
    refine KE.next ?_
    refine K.cond rfl (fun h => by rw [hxx] at h; cases h) (fun _ => ?_)
    refine K.skip ?_
    refine KE.next ?_
    refine K.seq ?_
    refine K.region ?_
    (refine KL.v rfl (Val.move rfl) ?_)
    (refine KL.callc rfl rfl byEvL fun T hT => ?_)
    refine (Turned_T (rows := turnP rows) okw oks hmp byPart (by rw [turn_len]; omega) (turn_rows ht1)).mono ?_
    rintro _ _ ⟨us, ou, oku, hmu, oksu, rfl, rfl⟩
    have hul : us.length = rows.length := by rw [← List.length_map (f := (·.2)), hmu, turn_len, turn_len]
    have hn3 : ¬ ((us.length : Nat) : Int) ≠ (gs.length : Nat) := by omega
    refine hT _ _ ?_; clear hT; clear T
    (refine KL.v rfl (Val.assign rfl) ?_)
    refine KL.nil ?_
    refine KE.next ?_
    refine K.seq ?_
    refine K.seq ?_
    refine K.region ?_
    (refine KL.v rfl (Val.move rfl) ?_)
    (refine KL.v rfl (Val.lenSl rfl rfl (Sli.own byTakeL (by assumption) byLen)) ?_)
    (refine KL.v rfl (Val.move rfl) ?_)
    (refine KL.v rfl (Val.lenSl rfl rfl (Sli.old (by assumption))) ?_)
    (refine KL.v rfl (Val.isF (Val.neq rfl rfl) byLt) ?_)
    refine KL.nil ?_
    refine KE.next ?_
    refine K.condF rfl ?_
    refine K.skip ?_
    refine KE.next ?_
    refine K.seq ?_
    refine K.seq ?_
    refine K.region ?_
    (refine KL.v rfl (Val.assign rfl) ?_)
    refine KL.nil ?_
    refine KE.next ?_
    refine K.block ?_
    refine K.loopT (σ := Nat) [(0, _), (1, _), (2, _), (8, _), (10, _)] (fun s kp_ => (11, .int .i64 (s : Nat)) :: kp_) (fun s => oH wE 23 us ou ++ (wsH us ++ (oH boE 4 (reachP rows [(a : Int)]) oR ++ []))) (fun s => s ≤ rows.length) (fun s => rows.length - s) (0) bySub byPart (Nat.zero_le _) ?_
    rintro n hn
    by_cases hnl : n < rows.length
    · skip
      --<
      obtain ⟨r, hr⟩ := get_of_lt hnl
      obtain ⟨p, hp⟩ := get_of_lt (l := gs) (k := n) (by omega)
      have hrow := hR.row n p r hp hr
      have hrl := hbb r (List.mem_of_getElem? hr)
      obtain ⟨q, hq⟩ := get_of_lt (l := us) (k := n) (by omega)
      have okq := oksu q (List.mem_of_getElem? hq)
      have hq2 : q.2 = dupP r rows.length := by
        have h1 : (us.map (·.2))[n]? = some q.2 := by rw [List.getElem?_map, hq]; rfl
        rw [hmu, twice hr] at h1
        exact (Option.some.inj h1).symm
      have hqn : q.2.length = nvP rows.length r := by rw [hq2, dup_len]
      have hnv : nvP rows.length r ≤ r.length := List.length_filter_le _ _
      have hql : q.2.length ≤ 100000 := by omega
      have hSu : Sli w0 (wsH us) iE (oV q.1 q.2.length) q.2 := row_own hq okq Part.all
      have hng : n < gs.length := by omega
      have hnu : n < us.length := by omega
      refine K.seq ?_
      refine K.seq ?_
      refine K.region ?_
      (refine KL.v rfl (Val.move rfl) ?_)
      (refine KL.v rfl (Val.move rfl) ?_)
      (refine KL.v rfl (Val.lenSl rfl rfl (Sli.old (by assumption))) ?_)
      (refine KL.v rfl (Val.isT (Val.lss rfl rfl) byLt) ?_)
      refine KL.nil ?_
      refine KE.next ?_
      refine K.condT rfl ?_
      refine K.skip ?_
      refine KE.next ?_
      refine K.seq ?_
      refine K.block ?_
      refine K.seq ?_
      refine K.region ?_
      (refine KL.v rfl (Val.assign rfl) ?_)
      refine KL.nil ?_
      refine KE.next ?_
      refine K.seq ?_
      refine K.seq ?_
      refine K.region ?_
      (refine KL.v rfl (Val.assign rfl) ?_)
      refine KL.nil ?_
      refine KE.next ?_
      refine K.block ?_
      refine K.loopT (σ := TuE) [(0, _), (1, _), (2, _), (8, _), (10, _), (11, _)] (fun s kp_ => (13, .int .i64 (s.i : Nat)) :: (12, .int .i64 (s.e : Nat)) :: kp_) (fun s => oH wE 23 us ou ++ (wsH us ++ (oH boE 4 (reachP rows [(a : Int)]) oR ++ []))) (fun s => s.i ≤ r.length ∧ s.e = nvP rows.length (r.take s.i)) (fun s => r.length - s.i) (⟨0, 0⟩) bySub byPart (⟨by simp, by simp [nvP]⟩) ?_
      rintro ⟨i, e⟩ ⟨hi, he⟩
      dsimp only at hi he ⊢
      by_cases hil : i < r.length
      · obtain ⟨t, ht⟩ := get_of_lt hil
        have hsn := nv_snoc rows.length (r.take i) t
        rw [← take_snoc ht] at hsn
        have hei : e ≤ 1000 := by
          have : nvP rows.length (r.take i) ≤ (r.take i).length := List.length_filter_le _ _
          rw [List.length_take] at this; omega
        by_cases h0 : 0 ≤ t
        · by_cases h1 : t < (gs.length : Nat)
          · have htq : t ∈ q.2 := by rw [hq2]; exact dup_mem.2 ⟨List.mem_of_getElem? ht, h0, by omega⟩
            rw [if_pos ⟨h0, by omega⟩] at hsn
            have h0' : t ≥ 0 := h0
            refine K.seq ?_
            refine K.seq ?_
            refine K.region ?_
            (refine KL.v rfl (Val.move rfl) ?_)
            (refine KL.v rfl (Val.move rfl) ?_)
            (refine KL.v rfl (Val.move rfl) ?_)
            (refine KL.v rfl (Val.idxSl rfl rfl rfl (Sli.old (by assumption)) rfl byLt) ?_)
            (refine KL.v rfl (Val.loadP rfl rfl (Sees.sl0 (Sli.old (by assumption)) (by assumption) rfl)) ?_)
            (refine KL.v rfl (Val.lenSl rfl rfl (Sli.old (by assumption))) ?_)
            (refine KL.v rfl (Val.isT (Val.lss rfl rfl) byLt) ?_)
            refine KL.nil ?_
            refine KE.next ?_
            refine K.condT rfl ?_
            refine K.skip ?_
            refine KE.next ?_
            refine K.seq ?_
            refine K.block ?_
            refine K.seq ?_
            refine K.region ?_
            (refine KL.v rfl (Val.move rfl) ?_)
            (refine KL.v rfl (Val.move rfl) ?_)
            (refine KL.v rfl (Val.idxSl rfl rfl rfl (Sli.old (by assumption)) rfl byLt) ?_)
            (refine KL.v rfl (Val.loadP rfl rfl (Sees.sl0 (Sli.old (by assumption)) (by assumption) rfl)) ?_)
            (refine KL.v rfl (Val.move rfl) ?_)
            (refine KL.v rfl (Val.idxSl rfl rfl rfl (Sli.old (by assumption)) rfl byLt) ?_)
            (refine KL.v rfl (Val.loadP rfl rfl (Sees.sl0 (Sli.old (by assumption)) (by assumption) rfl)) ?_)
            (refine KL.v rfl (Val.isT (Val.geq rfl rfl) byLt) ?_)
            (refine KL.v rfl (Val.move rfl) ?_)
            (refine KL.yes rfl rfl ?_; refine KL.v rfl (Val.move rfl) ?_)
            (refine KL.yes rfl rfl ?_; refine KL.v rfl (Val.move rfl) ?_)
            (refine KL.yes rfl rfl ?_; refine KL.v rfl (Val.idxSl rfl rfl rfl (Sli.old (by assumption)) rfl byLt) ?_)
            (refine KL.yes rfl rfl ?_; refine KL.v rfl (Val.loadP rfl rfl (Sees.sl0 (Sli.old (by assumption)) (by assumption) rfl)) ?_)
            (refine KL.yes rfl rfl ?_; refine KL.v rfl (Val.move rfl) ?_)
            (refine KL.yes rfl rfl ?_; refine KL.v rfl (Val.idxSl rfl rfl rfl (Sli.old (by assumption)) rfl byLt) ?_)
            (refine KL.yes rfl rfl ?_; refine KL.v rfl (Val.loadP rfl rfl (Sees.sl0 (Sli.old (by assumption)) (by assumption) rfl)) ?_)
            (refine KL.yes rfl rfl ?_; refine KL.v rfl (Val.move rfl) ?_)
            (refine KL.yes rfl rfl ?_; refine KL.v rfl (Val.lenSl rfl rfl (Sli.old (by assumption))) ?_)
            (refine KL.yes rfl rfl ?_; refine KL.v rfl (Val.isT (Val.lss rfl rfl) byLt) ?_)
            (refine KL.v rfl (Val.pickT rfl rfl rfl) ?_)
            refine KL.nil ?_
            refine KE.next ?_
            refine K.condT rfl ?_
            refine K.seq ?_
            refine K.region ?_
            (refine KL.v rfl (Val.move rfl) ?_)
            (refine KL.v rfl (Val.add rfl rfl (by simp only [Go.Proofs.Ytfgmofaadcbokaa.lo, Go.Proofs.Ytfgmofaadcbokaa.hi]; omega)) ?_)
            (refine KL.v rfl (Val.assign rfl) ?_)
            refine KL.nil ?_
            refine KE.next ?_
            refine K.seq ?_
            refine K.drawn _ [(0, 0), (1, 0), (2, 0), (3, 0), (4, 0), (5, 0), (6, 0), (7, 0), (8, 0), (9, 0), (10, 0), (11, 2), (12, 0)] (by kernel_rfl) (by kernel_rfl) (by kernel_rfl) (by kernel_rfl) (by kernel_rfl) (by kernel_rfl) Part.all ?_
            refine KD.v0 rfl rfl (Val.move rfl) ?_
            refine KD.v0 rfl rfl (Val.move rfl) ?_
            refine KD.v0 rfl rfl (Val.idxSl rfl rfl rfl (Sli.own byTakeL (by assumption) byLen) rfl byLt) ?_
            refine KD.v0 rfl rfl (Val.loadP rfl rfl (Sees.sl0 (Sli.own byTakeL (by assumption) byLen) (by assumption) rfl)) ?_
            refine KD.v0 rfl rfl (Val.move rfl) ?_
            refine KD.v0 rfl rfl (Val.move rfl) ?_
            refine KD.v0 rfl rfl (Val.idxSl rfl rfl rfl (Sli.old (by assumption)) rfl byLt) ?_
            refine KD.v0 rfl rfl (Val.loadP rfl rfl (Sees.sl0 (Sli.old (by assumption)) (by assumption) rfl)) ?_
            refine KD.v0 rfl rfl (Val.move rfl) ?_
            refine KD.v0 rfl rfl (Val.idxSl rfl rfl rfl (Sli.old (by assumption)) rfl byLt) ?_
            refine KD.v0 rfl rfl (Val.loadP rfl rfl (Sees.sl0 (Sli.old (by assumption)) (by assumption) rfl)) ?_
            refine KD.callc rfl rfl rfl byEvL fun T hT => ?_
            (refine (CallV.fn (Has_T bySli (by assumption) (by assumption))).mono ?_; rintro _ _ ⟨rfl, rfl⟩)
            (refine hT _ _ byPart ?_; clear hT; clear T)
            refine KD.v0 rfl rfl (Val.notT rfl) ?_
            refine KD.nil ?_
            refine KE.next ?_
            refine K.condF rfl ?_
            refine K.skip ?_
            refine KE.blkN ?_
            refine KE.next ?_
            refine K.region ?_
            (refine KL.v rfl (Val.move rfl) ?_)
            (refine KL.v rfl (Val.add rfl rfl (by simp only [Go.Proofs.Ytfgmofaadcbokaa.lo, Go.Proofs.Ytfgmofaadcbokaa.hi]; omega)) ?_)
            (refine KL.v rfl (Val.assign rfl) ?_)
            refine KL.nil ?_
            exact KE.again ⟨i + 1, e + 1⟩ bySub byPart ⟨by show i + 1 ≤ _; omega, by show e + 1 = _; dsimp only; omega⟩ (by show r.length - (i + 1) < r.length - i; omega)
          · rw [if_neg (by omega)] at hsn
            have h0' : t ≥ 0 := h0
            refine K.seq ?_
            refine K.seq ?_
            refine K.region ?_
            (refine KL.v rfl (Val.move rfl) ?_)
            (refine KL.v rfl (Val.move rfl) ?_)
            (refine KL.v rfl (Val.move rfl) ?_)
            (refine KL.v rfl (Val.idxSl rfl rfl rfl (Sli.old (by assumption)) rfl byLt) ?_)
            (refine KL.v rfl (Val.loadP rfl rfl (Sees.sl0 (Sli.old (by assumption)) (by assumption) rfl)) ?_)
            (refine KL.v rfl (Val.lenSl rfl rfl (Sli.old (by assumption))) ?_)
            (refine KL.v rfl (Val.isT (Val.lss rfl rfl) byLt) ?_)
            refine KL.nil ?_
            refine KE.next ?_
            refine K.condT rfl ?_
            refine K.skip ?_
            refine KE.next ?_
            refine K.seq ?_
            refine K.block ?_
            refine K.seq ?_
            refine K.region ?_
            (refine KL.v rfl (Val.move rfl) ?_)
            (refine KL.v rfl (Val.move rfl) ?_)
            (refine KL.v rfl (Val.idxSl rfl rfl rfl (Sli.old (by assumption)) rfl byLt) ?_)
            (refine KL.v rfl (Val.loadP rfl rfl (Sees.sl0 (Sli.old (by assumption)) (by assumption) rfl)) ?_)
            (refine KL.v rfl (Val.move rfl) ?_)
            (refine KL.v rfl (Val.idxSl rfl rfl rfl (Sli.old (by assumption)) rfl byLt) ?_)
            (refine KL.v rfl (Val.loadP rfl rfl (Sees.sl0 (Sli.old (by assumption)) (by assumption) rfl)) ?_)
            (refine KL.v rfl (Val.isT (Val.geq rfl rfl) byLt) ?_)
            (refine KL.v rfl (Val.move rfl) ?_)
            (refine KL.yes rfl rfl ?_; refine KL.v rfl (Val.move rfl) ?_)
            (refine KL.yes rfl rfl ?_; refine KL.v rfl (Val.move rfl) ?_)
            (refine KL.yes rfl rfl ?_; refine KL.v rfl (Val.idxSl rfl rfl rfl (Sli.old (by assumption)) rfl byLt) ?_)
            (refine KL.yes rfl rfl ?_; refine KL.v rfl (Val.loadP rfl rfl (Sees.sl0 (Sli.old (by assumption)) (by assumption) rfl)) ?_)
            (refine KL.yes rfl rfl ?_; refine KL.v rfl (Val.move rfl) ?_)
            (refine KL.yes rfl rfl ?_; refine KL.v rfl (Val.idxSl rfl rfl rfl (Sli.old (by assumption)) rfl byLt) ?_)
            (refine KL.yes rfl rfl ?_; refine KL.v rfl (Val.loadP rfl rfl (Sees.sl0 (Sli.old (by assumption)) (by assumption) rfl)) ?_)
            (refine KL.yes rfl rfl ?_; refine KL.v rfl (Val.move rfl) ?_)
            (refine KL.yes rfl rfl ?_; refine KL.v rfl (Val.lenSl rfl rfl (Sli.old (by assumption))) ?_)
            (refine KL.yes rfl rfl ?_; refine KL.v rfl (Val.isF (Val.lss rfl rfl) byLt) ?_)
            (refine KL.v rfl (Val.pickT rfl rfl rfl) ?_)
            refine KL.nil ?_
            refine KE.next ?_
            refine K.condF rfl ?_
            refine K.skip ?_
            refine KE.blkN ?_
            refine KE.next ?_
            refine K.region ?_
            (refine KL.v rfl (Val.move rfl) ?_)
            (refine KL.v rfl (Val.add rfl rfl (by simp only [Go.Proofs.Ytfgmofaadcbokaa.lo, Go.Proofs.Ytfgmofaadcbokaa.hi]; omega)) ?_)
            (refine KL.v rfl (Val.assign rfl) ?_)
            refine KL.nil ?_
            exact KE.again ⟨i + 1, e⟩ bySub byPart ⟨by show i + 1 ≤ _; omega, by show e = _; dsimp only; omega⟩ (by show r.length - (i + 1) < r.length - i; omega)
        · rw [if_neg (by omega)] at hsn
          refine K.seq ?_
          refine K.seq ?_
          refine K.region ?_
          (refine KL.v rfl (Val.move rfl) ?_)
          (refine KL.v rfl (Val.move rfl) ?_)
          (refine KL.v rfl (Val.move rfl) ?_)
          (refine KL.v rfl (Val.idxSl rfl rfl rfl (Sli.old (by assumption)) rfl byLt) ?_)
          (refine KL.v rfl (Val.loadP rfl rfl (Sees.sl0 (Sli.old (by assumption)) (by assumption) rfl)) ?_)
          (refine KL.v rfl (Val.lenSl rfl rfl (Sli.old (by assumption))) ?_)
          (refine KL.v rfl (Val.isT (Val.lss rfl rfl) byLt) ?_)
          refine KL.nil ?_
          refine KE.next ?_
          refine K.condT rfl ?_
          refine K.skip ?_
          refine KE.next ?_
          refine K.seq ?_
          refine K.block ?_
          refine K.seq ?_
          refine K.region ?_
          (refine KL.v rfl (Val.move rfl) ?_)
          (refine KL.v rfl (Val.move rfl) ?_)
          (refine KL.v rfl (Val.idxSl rfl rfl rfl (Sli.old (by assumption)) rfl byLt) ?_)
          (refine KL.v rfl (Val.loadP rfl rfl (Sees.sl0 (Sli.old (by assumption)) (by assumption) rfl)) ?_)
          (refine KL.v rfl (Val.move rfl) ?_)
          (refine KL.v rfl (Val.idxSl rfl rfl rfl (Sli.old (by assumption)) rfl byLt) ?_)
          (refine KL.v rfl (Val.loadP rfl rfl (Sees.sl0 (Sli.old (by assumption)) (by assumption) rfl)) ?_)
          (refine KL.v rfl (Val.isF (Val.geq rfl rfl) byLt) ?_)
          (refine KL.v rfl (Val.move rfl) ?_)
          refine KL.skipG rfl rfl rfl ?_
          refine KL.skipG rfl rfl rfl ?_
          refine KL.skipG rfl rfl rfl ?_
          refine KL.skipG rfl rfl rfl ?_
          refine KL.skipG rfl rfl rfl ?_
          refine KL.skipG rfl rfl rfl ?_
          refine KL.skipG rfl rfl rfl ?_
          refine KL.skipG rfl rfl rfl ?_
          refine KL.skipG rfl rfl rfl ?_
          refine KL.skipG rfl rfl rfl ?_
          (refine KL.v rfl (Val.pickF rfl rfl rfl) ?_)
          refine KL.nil ?_
          refine KE.next ?_
          refine K.condF rfl ?_
          refine K.skip ?_
          refine KE.blkN ?_
          refine KE.next ?_
          refine K.region ?_
          (refine KL.v rfl (Val.move rfl) ?_)
          (refine KL.v rfl (Val.add rfl rfl (by simp only [Go.Proofs.Ytfgmofaadcbokaa.lo, Go.Proofs.Ytfgmofaadcbokaa.hi]; omega)) ?_)
          (refine KL.v rfl (Val.assign rfl) ?_)
          refine KL.nil ?_
          exact KE.again ⟨i + 1, e⟩ bySub byPart ⟨by show i + 1 ≤ _; omega, by show e = _; dsimp only; omega⟩ (by show r.length - (i + 1) < r.length - i; omega)
      · rw [List.take_of_length_le (by omega)] at he
        have hne : ¬ ((q.2.length : Nat) : Int) ≠ (e : Nat) := by omega
        have hSu' : Sli w0 (oH wE 23 us ou ++ (wsH us ++ (oH boE 4 (reachP rows [(a : Int)]) oR ++ []))) iE (oV q.1 q.2.length) q.2 := hSu.part byPart
        refine K.seq ?_
        refine K.seq ?_
        refine K.region ?_
        (refine KL.v rfl (Val.move rfl) ?_)
        (refine KL.v rfl (Val.move rfl) ?_)
        (refine KL.v rfl (Val.move rfl) ?_)
        (refine KL.v rfl (Val.idxSl rfl rfl rfl (Sli.old (by assumption)) rfl byLt) ?_)
        (refine KL.v rfl (Val.loadP rfl rfl (Sees.sl0 (Sli.old (by assumption)) (by assumption) rfl)) ?_)
        (refine KL.v rfl (Val.lenSl rfl rfl (Sli.old (by assumption))) ?_)
        (refine KL.v rfl (Val.isF (Val.lss rfl rfl) byLt) ?_)
        refine KL.nil ?_
        refine KE.next ?_
        refine K.condF rfl ?_
        refine K.exit ?_
        refine KE.passX ?_
        refine KE.passX ?_
        refine KE.blkX ?_
        refine KE.next ?_
        refine K.seq ?_
        refine K.seq ?_
        refine K.region ?_
        (refine KL.v rfl (Val.move rfl) ?_)
        (refine KL.v rfl (Val.move rfl) ?_)
        (refine KL.v rfl (Val.idxSl rfl rfl rfl (Sli.own byTakeL (by assumption) byLen) rfl byLt) ?_)
        (refine KL.v rfl (Val.loadP rfl rfl (Sees.sl0 (Sli.own byTakeL (by assumption) byLen) (by assumption) rfl)) ?_)
        (refine KL.v rfl (Val.lenSl rfl rfl bySli) ?_)
        (refine KL.v rfl (Val.move rfl) ?_)
        (refine KL.v rfl (Val.isF (Val.neq rfl rfl) byLt) ?_)
        refine KL.nil ?_
        refine KE.next ?_
        refine K.condF rfl ?_
        refine K.skip ?_
        refine KE.next ?_
        refine K.seq ?_
        refine K.region ?_
        (refine KL.v rfl (Val.assign rfl) ?_)
        refine KL.nil ?_
        refine KE.next ?_
        refine K.block ?_
        refine K.loopT (σ := Nat) [(0, _), (1, _), (2, _), (8, _), (10, _), (11, _)] (fun s kp_ => (14, .int .i64 ((s : Int) + 1)) :: kp_) (fun s => oH wE 23 us ou ++ (wsH us ++ (oH boE 4 (reachP rows [(a : Int)]) oR ++ []))) (fun s => s ≤ q.2.length) (fun s => q.2.length - s) (0) bySub byPart (Nat.zero_le _) ?_
        rintro j hj
        by_cases hjl : j + 1 < q.2.length
        · obtain ⟨y0, hy0⟩ := get_of_lt (l := q.2) (k := j) (by omega)
          obtain ⟨y1, hy1⟩ := get_of_lt (l := q.2) (k := j + 1) (by omega)
          have hyy : y0 ≤ y1 := by
            have hs := dup_sorted r rows.length
            rw [← hq2] at hs
            obtain ⟨h1, e1⟩ := List.getElem?_eq_some_iff.1 hy0
            obtain ⟨h2, e2⟩ := List.getElem?_eq_some_iff.1 hy1
            rw [← e1, ← e2]
            exact List.pairwise_iff_getElem.1 hs j (j + 1) h1 h2 (by omega)
          have hy0' : q.2[((j : Int) + 1 - 1).toNat]? = some y0 := by rw [show ((j : Int) + 1 - 1).toNat = j by omega]; exact hy0
          have hy1' : q.2[((j : Int) + 1).toNat]? = some y1 := by rw [show ((j : Int) + 1).toNat = j + 1 by omega]; exact hy1
          have hyn : ¬ y0 > y1 := by omega
          refine K.seq ?_
          refine K.seq ?_
          refine K.region ?_
          (refine KL.v rfl (Val.move rfl) ?_)
          (refine KL.v rfl (Val.move rfl) ?_)
          (refine KL.v rfl (Val.move rfl) ?_)
          (refine KL.v rfl (Val.idxSl rfl rfl rfl (Sli.own byTakeL (by assumption) byLen) rfl byLt) ?_)
          (refine KL.v rfl (Val.loadP rfl rfl (Sees.sl0 (Sli.own byTakeL (by assumption) byLen) (by assumption) rfl)) ?_)
          (refine KL.v rfl (Val.lenSl rfl rfl bySli) ?_)
          (refine KL.v rfl (Val.isT (Val.lss rfl rfl) byLt) ?_)
          refine KL.nil ?_
          refine KE.next ?_
          refine K.condT rfl ?_
          refine K.skip ?_
          refine KE.next ?_
          refine K.seq ?_
          refine K.block ?_
          refine K.seq ?_
          refine K.drawn _ [(0, 0), (1, 0), (2, 0), (3, 0), (4, 0), (5, 0), (6, 0), (7, 0), (8, 0), (9, 0), (10, 0), (11, 0), (12, 0), (13, 0), (14, 0), (15, 0)] (by kernel_rfl) (by kernel_rfl) (by kernel_rfl) (by kernel_rfl) (by kernel_rfl) (by kernel_rfl) Part.all ?_
          refine KD.v0 rfl rfl (Val.move rfl) ?_
          refine KD.v0 rfl rfl (Val.move rfl) ?_
          refine KD.v0 rfl rfl (Val.idxSl rfl rfl rfl (Sli.own byTakeL (by assumption) byLen) rfl byLt) ?_
          refine KD.v0 rfl rfl (Val.loadP rfl rfl (Sees.sl0 (Sli.own byTakeL (by assumption) byLen) (by assumption) rfl)) ?_
          refine KD.v0 rfl rfl (Val.move rfl) ?_
          refine KD.v0 rfl rfl (Val.sub rfl rfl (by simp only [Go.Proofs.Ytfgmofaadcbokaa.lo, Go.Proofs.Ytfgmofaadcbokaa.hi]; omega)) ?_
          refine KD.v0 rfl rfl (Val.idxSlZ rfl rfl rfl bySli rfl (by omega)) ?_
          refine KD.v0 rfl rfl (Val.loadP rfl rfl bySee) ?_
          refine KD.v0 rfl rfl (Val.move rfl) ?_
          refine KD.v0 rfl rfl (Val.move rfl) ?_
          refine KD.v0 rfl rfl (Val.idxSl rfl rfl rfl (Sli.own byTakeL (by assumption) byLen) rfl byLt) ?_
          refine KD.v0 rfl rfl (Val.loadP rfl rfl (Sees.sl0 (Sli.own byTakeL (by assumption) byLen) (by assumption) rfl)) ?_
          refine KD.v0 rfl rfl (Val.move rfl) ?_
          refine KD.v0 rfl rfl (Val.idxSl rfl rfl rfl bySli rfl byLt) ?_
          refine KD.v0 rfl rfl (Val.loadP rfl rfl bySee) ?_
          refine KD.v0 rfl rfl (Val.isF (Val.gtr rfl rfl) byLt) ?_
          refine KD.nil ?_
          refine KE.next ?_
          refine K.condF rfl ?_
          refine K.skip ?_
          refine KE.blkN ?_
          refine KE.next ?_
          refine K.region ?_
          (refine KL.v rfl (Val.move rfl) ?_)
          (refine KL.v rfl (Val.add rfl rfl (by simp only [Go.Proofs.Ytfgmofaadcbokaa.lo, Go.Proofs.Ytfgmofaadcbokaa.hi]; omega)) ?_)
          (refine KL.v rfl (Val.assign rfl) ?_)
          refine KL.nil ?_
          exact KE.again (j + 1) bySub byPart (by omega) (by omega)
        · skip
          refine K.seq ?_
          refine K.seq ?_
          refine K.region ?_
          (refine KL.v rfl (Val.move rfl) ?_)
          (refine KL.v rfl (Val.move rfl) ?_)
          (refine KL.v rfl (Val.move rfl) ?_)
          (refine KL.v rfl (Val.idxSl rfl rfl rfl (Sli.own byTakeL (by assumption) byLen) rfl byLt) ?_)
          (refine KL.v rfl (Val.loadP rfl rfl (Sees.sl0 (Sli.own byTakeL (by assumption) byLen) (by assumption) rfl)) ?_)
          (refine KL.v rfl (Val.lenSl rfl rfl bySli) ?_)
          (refine KL.v rfl (Val.isF (Val.lss rfl rfl) byLt) ?_)
          refine KL.nil ?_
          refine KE.next ?_
          refine K.condF rfl ?_
          refine K.exit ?_
          refine KE.passX ?_
          refine KE.passX ?_
          refine KE.blkX ?_
          refine KE.blkN ?_
          refine KE.next ?_
          refine K.region ?_
          (refine KL.v rfl (Val.move rfl) ?_)
          (refine KL.v rfl (Val.add rfl rfl (by simp only [Go.Proofs.Ytfgmofaadcbokaa.lo, Go.Proofs.Ytfgmofaadcbokaa.hi]; omega)) ?_)
          (refine KL.v rfl (Val.assign rfl) ?_)
          refine KL.nil ?_
          exact KE.again (n + 1) bySub byPart (by omega) (by omega)
      -->
    · skip
      refine K.seq ?_
      refine K.seq ?_
      refine K.region ?_
      (refine KL.v rfl (Val.move rfl) ?_)
      (refine KL.v rfl (Val.move rfl) ?_)
      (refine KL.v rfl (Val.lenSl rfl rfl (Sli.old (by assumption))) ?_)
      (refine KL.v rfl (Val.isF (Val.lss rfl rfl) byLt) ?_)
      refine KL.nil ?_
      refine KE.next ?_
      refine K.condF rfl ?_
      refine K.exit ?_
      refine KE.passX ?_
      refine KE.passX ?_
      refine KE.blkX ?_
      refine KE.next ?_
      refine K.seq ?_
      refine K.region ?_
      (refine KL.v rfl (Val.assign rfl) ?_)
      refine KL.nil ?_
      refine KE.next ?_
      refine K.seq ?_
      refine K.seq ?_
      refine K.region ?_
      (refine KL.v rfl (Val.assign rfl) ?_)
      refine KL.nil ?_
      refine KE.next ?_
      refine K.block ?_
      refine K.loopT (σ := TuM) [(0, _), (1, _), (2, _), (8, _)] (fun s kp_ => (16, .int .i64 (s.n : Nat)) :: (15, oV s.om s.ms.length) :: kp_) (fun s => oH wE 23 s.ms s.om ++ (wsH s.ms ++ (oH boE 4 (reachP rows [(a : Int)]) oR ++ []))) (fun s => s.n ≤ rows.length ∧ oOk wE s.ms s.om ∧ s.ms.map (·.2) = (moreP rows (a : Int) b).take s.n ∧ (∀ p ∈ s.ms, oOk iE p.2 p.1)) (fun s => rows.length - s.n) (⟨0, [], none⟩) bySub byPart (⟨by simp, rfl, by simp, by simp⟩) ?_
      rintro ⟨m, ms, om⟩ ⟨hm, okm, hmm, oksm⟩
      dsimp only at hm okm hmm oksm ⊢
      have hml : ms.length = m := by have := congrArg List.length hmm; simp [more_len] at this; omega
      by_cases hmr : m < rows.length
      · obtain ⟨r, hr⟩ := get_of_lt hmr
        obtain ⟨p, hp⟩ := get_of_lt (l := gs) (k := m) (by omega)
        have hrow := hR.row m p r hp hr
        have hrl := hbb r (List.mem_of_getElem? hr)
        have hmg : m < gs.length := by omega
        have hmo := more_get (a := (a : Int)) (b := b) hr
        have hrb : r.length ≤ 4294967296 := by omega
        refine K.seq ?_
        refine K.seq ?_
        refine K.region ?_
        (refine KL.v rfl (Val.move rfl) ?_)
        (refine KL.v rfl (Val.move rfl) ?_)
        (refine KL.v rfl (Val.lenSl rfl rfl (Sli.old (by assumption))) ?_)
        (refine KL.v rfl (Val.isT (Val.lss rfl rfl) byLt) ?_)
        refine KL.nil ?_
        refine KE.next ?_
        refine K.condT rfl ?_
        refine K.skip ?_
        refine KE.next ?_
        refine K.seq ?_
        refine K.block ?_
        refine K.seq ?_
        refine K.region ?_
        (refine KL.e rfl (Eff.buildS byParts rfl rfl rfl rfl rfl byFill) ?_; rintro _ _ ⟨b171, rfl, rfl⟩)
        (refine KL.v rfl (Val.move rfl) ?_)
        (refine KL.v rfl (Val.move rfl) ?_)
        (refine KL.v rfl (Val.idxSl rfl rfl rfl (Sli.old (by assumption)) rfl byLt) ?_)
        (refine KL.v rfl (Val.loadP rfl rfl (Sees.sl0 (Sli.old (by assumption)) (by assumption) rfl)) ?_)
        (refine KL.e rfl (Eff.appLit (E := iE) (ys := r) rfl rfl rfl rfl rfl rfl rfl byTake (by first | exact Sli.blk byTake rfl (by first | decide | simp) (by first | decide | (unfold maxLen; omega)) rfl | exact Sli.old (by assumption) | exact Sli.own byTakeL (by assumption) byLen | assumption | exact Sli.part (by assumption) byPart) (by first | assumption | omega | (simp <;> fail) | (simp; omega)) rfl) ?_; rintro _ _ ⟨o', ok', rfl, rfl⟩)
        rename oOk iE r _ => okq
        rename Own => oq
        have hb2 : ∀ z : WR, (ms ++ [z]).length ≤ 4294967296 := fun z => by simp; omega
        have hnext : ∀ (oq : Own) (rr : List Int), rr = (if m = b then r ++ [(a : Int)] else r) → (ms ++ [(oq, rr)]).map (·.2) = (moreP rows (a : Int) b).take (m + 1) := by
          intro oq rr e
          rw [take_snoc hmo, List.map_append, hmm, e]; rfl
        have hoks : ∀ (oq : Own) (rr : List Int), oOk iE rr oq → ∀ p ∈ ms ++ [(oq, rr)], oOk iE p.2 p.1 := by
          intro oq rr h p hp
          rcases List.mem_append.1 hp with h1 | h1
          · exact oksm p h1
          · rw [List.mem_singleton.1 h1]; exact h
        by_cases hmb : m = b
        · have hmb' : (m : Int) = (b : Int) := by omega
          have hra : (r ++ [(a : Int)]).length ≤ 4294967296 := by simp; omega
          (refine KL.v rfl (Val.assign rfl) ?_)
          refine KL.nil ?_
          refine KE.next ?_
          refine K.seq ?_
          refine K.seq ?_
          refine K.region ?_
          (refine KL.v rfl (Val.move rfl) ?_)
          (refine KL.v rfl (Val.move rfl) ?_)
          (refine KL.v rfl (Val.isT (Val.eql rfl rfl) byLt) ?_)
          refine KL.nil ?_
          refine KE.next ?_
          refine K.condT rfl ?_
          refine K.region ?_
          (refine KL.v rfl (Val.move rfl) ?_)
          (refine KL.v rfl (Val.move rfl) ?_)
          (refine KL.e rfl (Eff.buildS byParts rfl rfl rfl rfl rfl byFill) ?_; rintro _ _ ⟨b182, rfl, rfl⟩)
          (refine KL.e rfl (Eff.appZ (ys := [_]) rfl rfl rfl rfl rfl rfl byTakeL (by assumption) (by first | exact Sli.blk byTake rfl (by first | decide | simp) (by first | decide | (unfold maxLen; omega)) rfl | exact Sli.old (by assumption) | exact Sli.own byTakeL (by assumption) byLen | assumption | exact Sli.part (by assumption) byPart) rfl (by first | assumption | omega | (simp <;> fail) | (simp; omega)) rfl) ?_; rintro _ _ ⟨o183, ok183, rfl, rfl⟩)
          (refine KL.v rfl (Val.assign rfl) ?_)
          refine KL.nil ?_
          refine KE.next ?_
          refine K.region ?_
          (refine KL.v rfl (Val.move rfl) ?_)
          (refine KL.v rfl (Val.move rfl) ?_)
          (refine KL.e rfl (Eff.buildS byParts rfl rfl rfl rfl rfl byFill) ?_; rintro _ _ ⟨b186, rfl, rfl⟩)
          have hbb2 := hb2 (o183, r ++ [(a : Int)])
          (refine KL.e rfl (Eff.appZ (E := wE) (xs := ms) (o := om) (ys := [(o183, r ++ [(a : Int)])]) (zs := ms ++ [(o183, r ++ [(a : Int)])]) rfl rfl rfl rfl rfl rfl byTakeL (by assumption) (by first | exact Sli.blk byTake rfl (by first | decide | simp) (by first | decide | (unfold maxLen; omega)) rfl | exact Sli.old (by assumption) | exact Sli.own byTakeL (by assumption) byLen | assumption | exact Sli.part (by assumption) byPart) (rfl) (by first | assumption | omega | (simp <;> fail) | (simp; omega)) rfl) ?_; rintro _ _ ⟨o', ok', rfl, rfl⟩)
          (refine KL.v rfl (Val.assign rfl) ?_)
          refine KL.nil ?_
          refine KE.blkN ?_
          refine KE.next ?_
          refine K.region ?_
          (refine KL.v rfl (Val.move rfl) ?_)
          (refine KL.v rfl (Val.add rfl rfl (by simp only [Go.Proofs.Ytfgmofaadcbokaa.lo, Go.Proofs.Ytfgmofaadcbokaa.hi]; omega)) ?_)
          (refine KL.v rfl (Val.assign rfl) ?_)
          refine KL.nil ?_
          exact KE.again ⟨m + 1, ms ++ [(o183, r ++ [(a : Int)])], o'⟩ bySub (by dsimp only; rw [wsH_app, show wsH [(o183, r ++ [(a : Int)])] = oH iE 3 (r ++ [(a : Int)]) o183 ++ [] from rfl]; simp only [List.append_nil, List.append_assoc]; exact byPart) ⟨by show m + 1 ≤ _; omega, ok', hnext _ _ (by rw [if_pos hmb]), hoks _ _ ok183⟩ (by show rows.length - (m + 1) < rows.length - m; omega)
        · have hmb' : ¬ (m : Int) = (b : Int) := by omega
          (refine KL.v rfl (Val.assign rfl) ?_)
          refine KL.nil ?_
          refine KE.next ?_
          refine K.seq ?_
          refine K.seq ?_
          refine K.region ?_
          (refine KL.v rfl (Val.move rfl) ?_)
          (refine KL.v rfl (Val.move rfl) ?_)
          (refine KL.v rfl (Val.isF (Val.eql rfl rfl) byLt) ?_)
          refine KL.nil ?_
          refine KE.next ?_
          refine K.condF rfl ?_
          refine K.skip ?_
          refine KE.next ?_
          refine K.region ?_
          (refine KL.v rfl (Val.move rfl) ?_)
          (refine KL.v rfl (Val.move rfl) ?_)
          (refine KL.e rfl (Eff.buildS byParts rfl rfl rfl rfl rfl byFill) ?_; rintro _ _ ⟨b186, rfl, rfl⟩)
          have hbb2 := hb2 (oq, r)
          (refine KL.e rfl (Eff.appZ (E := wE) (xs := ms) (o := om) (ys := [(oq, r)]) (zs := ms ++ [(oq, r)]) rfl rfl rfl rfl rfl rfl byTakeL (by assumption) (by first | exact Sli.blk byTake rfl (by first | decide | simp) (by first | decide | (unfold maxLen; omega)) rfl | exact Sli.old (by assumption) | exact Sli.own byTakeL (by assumption) byLen | assumption | exact Sli.part (by assumption) byPart) (rfl) (by first | assumption | omega | (simp <;> fail) | (simp; omega)) rfl) ?_; rintro _ _ ⟨o', ok', rfl, rfl⟩)
          (refine KL.v rfl (Val.assign rfl) ?_)
          refine KL.nil ?_
          refine KE.blkN ?_
          refine KE.next ?_
          refine K.region ?_
          (refine KL.v rfl (Val.move rfl) ?_)
          (refine KL.v rfl (Val.add rfl rfl (by simp only [Go.Proofs.Ytfgmofaadcbokaa.lo, Go.Proofs.Ytfgmofaadcbokaa.hi]; omega)) ?_)
          (refine KL.v rfl (Val.assign rfl) ?_)
          refine KL.nil ?_
          exact KE.again ⟨m + 1, ms ++ [(oq, r)], o'⟩ bySub (by dsimp only; rw [wsH_app, show wsH [(oq, r)] = oH iE 3 r oq ++ [] from rfl]; simp only [List.append_nil, List.append_assoc]; exact byPart) ⟨by show m + 1 ≤ _; omega, ok', hnext _ _ (by rw [if_neg hmb]), hoks _ _ okq⟩ (by show rows.length - (m + 1) < rows.length - m; omega)
      · have hme : ms.map (·.2) = moreP rows (a : Int) b := by rw [hmm, List.take_of_length_le (by rw [more_len]; omega)]
        have hMl : (reachP (moreP rows (a : Int) b) [(a : Int)]).length = rows.length := by rw [reach_len, more_len]
        have hmb3 : ∀ r ∈ moreP rows (a : Int) b, r.length ≤ 1000 := by
          intro r hr
          obtain ⟨i, hi⟩ := List.getElem?_of_mem hr
          obtain ⟨r0, hr0⟩ := get_of_lt (l := rows) (k := i) (by have := lt_of_get hi; rwa [more_len] at this)
          rw [more_get hr0] at hi
          have h1 := tot_row (List.mem_of_getElem? hr0)
          have h2 := Option.some.inj hi
          subst h2
          split
          · simp; omega
          · omega
        refine K.seq ?_
        refine K.seq ?_
        refine K.region ?_
        (refine KL.v rfl (Val.move rfl) ?_)
        (refine KL.v rfl (Val.move rfl) ?_)
        (refine KL.v rfl (Val.lenSl rfl rfl (Sli.old (by assumption))) ?_)
        (refine KL.v rfl (Val.isF (Val.lss rfl rfl) byLt) ?_)
        refine KL.nil ?_
        refine KE.next ?_
        refine K.condF rfl ?_
        refine K.exit ?_
        refine KE.passX ?_
        refine KE.passX ?_
        refine KE.blkX ?_
        refine KE.next ?_
        refine K.seq ?_
        refine K.region ?_
        (refine KL.v rfl (Val.move rfl) ?_)
        (refine KL.v rfl (Val.move rfl) ?_)
        (refine KL.e rfl (Eff.buildS byParts rfl rfl rfl rfl rfl byFill) ?_; rintro _ _ ⟨b190, rfl, rfl⟩)
        (refine KL.callc rfl rfl byEvL fun T hT => ?_)
        refine (Reach_T (l := [(a : Int)]) (rows := moreP rows (a : Int) b) okm oksm hme byPart (Sli.blk byTake rfl (by simp) (by simp [maxLen]) rfl) (by simp) (by rw [more_len]; omega) hmb3).mono ?_
        rintro _ _ ⟨oM, okM, rfl, rfl⟩
        have hn4 : ¬ (((reachP (moreP rows (a : Int) b) [(a : Int)]).length : Nat) : Int) ≠ (gs.length : Nat) := by omega
        refine hT _ _ ?_; clear hT; clear T
        (refine KL.v rfl (Val.assign rfl) ?_)
        refine KL.nil ?_
        refine KE.next ?_
        refine K.seq ?_
        refine K.seq ?_
        refine K.region ?_
        (refine KL.v rfl (Val.move rfl) ?_)
        (refine KL.v rfl (Val.lenSl rfl rfl (Sli.own byTakeL (by assumption) byLen)) ?_)
        (refine KL.v rfl (Val.move rfl) ?_)
        (refine KL.v rfl (Val.lenSl rfl rfl (Sli.old (by assumption))) ?_)
        (refine KL.v rfl (Val.isF (Val.neq rfl rfl) byLt) ?_)
        refine KL.nil ?_
        refine KE.next ?_
        refine K.condF rfl ?_
        refine K.skip ?_
        refine KE.next ?_
        refine K.seq ?_
        refine K.seq ?_
        refine K.region ?_
        (refine KL.v rfl (Val.assign rfl) ?_)
        refine KL.nil ?_
        refine KE.next ?_
        refine K.block ?_
        refine K.loopT (σ := Nat) [(0, _), (8, _), (18, _)] (fun s kp_ => (19, .int .i64 (s : Nat)) :: kp_) (fun s => oH boE 4 (reachP (moreP rows (a : Int) b) [(a : Int)]) oM ++ (oH boE 4 (reachP rows [(a : Int)]) oR ++ [])) (fun s => s ≤ rows.length) (fun s => rows.length - s) (0) bySub byPart (Nat.zero_le _) ?_
        rintro n hn
        by_cases hnl : n < rows.length
        · obtain ⟨y, hy⟩ := get_of_lt (l := reachP rows [(a : Int)]) (k := n) (by omega)
          have hnR : n < (reachP rows [(a : Int)]).length := by omega
          have hnM : n < (reachP (moreP rows (a : Int) b) [(a : Int)]).length := by omega
          cases y with
          | false =>
            refine K.seq ?_
            refine K.seq ?_
            refine K.region ?_
            (refine KL.v rfl (Val.move rfl) ?_)
            (refine KL.v rfl (Val.move rfl) ?_)
            (refine KL.v rfl (Val.lenSl rfl rfl (Sli.old (by assumption))) ?_)
            (refine KL.v rfl (Val.isT (Val.lss rfl rfl) byLt) ?_)
            refine KL.nil ?_
            refine KE.next ?_
            refine K.condT rfl ?_
            refine K.skip ?_
            refine KE.next ?_
            refine K.seq ?_
            refine K.block ?_
            refine K.seq ?_
            refine K.region ?_
            (refine KL.v rfl (Val.move rfl) ?_)
            (refine KL.v rfl (Val.move rfl) ?_)
            (refine KL.v rfl (Val.idxSl rfl rfl rfl (Sli.own byTakeL (by assumption) byLen) rfl byLt) ?_)
            (refine KL.v rfl (Val.loadP rfl rfl (Sees.sl0 (Sli.own byTakeL (by assumption) byLen) (by assumption) rfl)) ?_)
            (refine KL.v rfl (Val.move rfl) ?_)
            refine KL.skipG rfl rfl rfl ?_
            refine KL.skipG rfl rfl rfl ?_
            refine KL.skipG rfl rfl rfl ?_
            refine KL.skipG rfl rfl rfl ?_
            refine KL.skipG rfl rfl rfl ?_
            (refine KL.v rfl (Val.pickF rfl rfl rfl) ?_)
            refine KL.nil ?_
            refine KE.next ?_
            refine K.condF rfl ?_
            refine K.skip ?_
            refine KE.blkN ?_
            refine KE.next ?_
            refine K.region ?_
            (refine KL.v rfl (Val.move rfl) ?_)
            (refine KL.v rfl (Val.add rfl rfl (by simp only [Go.Proofs.Ytfgmofaadcbokaa.lo, Go.Proofs.Ytfgmofaadcbokaa.hi]; omega)) ?_)
            (refine KL.v rfl (Val.assign rfl) ?_)
            refine KL.nil ?_
            exact KE.again (n + 1) bySub byPart (by omega) (by omega)
          | true =>
            have hmt := more_reach (b := b) hnl hy
            refine K.seq ?_
            refine K.seq ?_
            refine K.region ?_
            (refine KL.v rfl (Val.move rfl) ?_)
            (refine KL.v rfl (Val.move rfl) ?_)
            (refine KL.v rfl (Val.lenSl rfl rfl (Sli.old (by assumption))) ?_)
            (refine KL.v rfl (Val.isT (Val.lss rfl rfl) byLt) ?_)
            refine KL.nil ?_
            refine KE.next ?_
            refine K.condT rfl ?_
            refine K.skip ?_
            refine KE.next ?_
            refine K.seq ?_
            refine K.block ?_
            refine K.seq ?_
            refine K.region ?_
            (refine KL.v rfl (Val.move rfl) ?_)
            (refine KL.v rfl (Val.move rfl) ?_)
            (refine KL.v rfl (Val.idxSl rfl rfl rfl (Sli.own byTakeL (by assumption) byLen) rfl byLt) ?_)
            (refine KL.v rfl (Val.loadP rfl rfl (Sees.sl0 (Sli.own byTakeL (by assumption) byLen) (by assumption) rfl)) ?_)
            (refine KL.v rfl (Val.move rfl) ?_)
            (refine KL.yes rfl rfl ?_; refine KL.v rfl (Val.move rfl) ?_)
            (refine KL.yes rfl rfl ?_; refine KL.v rfl (Val.move rfl) ?_)
            (refine KL.yes rfl rfl ?_; refine KL.v rfl (Val.idxSl rfl rfl rfl (Sli.own byTakeL (by assumption) byLen) rfl byLt) ?_)
            (refine KL.yes rfl rfl ?_; refine KL.v rfl (Val.loadP rfl rfl (Sees.sl0 (Sli.own byTakeL (by assumption) byLen) (by assumption) rfl)) ?_)
            (refine KL.yes rfl rfl ?_; refine KL.v rfl (Val.notT rfl) ?_)
            (refine KL.v rfl (Val.pickT rfl rfl rfl) ?_)
            refine KL.nil ?_
            refine KE.next ?_
            refine K.condF rfl ?_
            refine K.skip ?_
            refine KE.blkN ?_
            refine KE.next ?_
            refine K.region ?_
            (refine KL.v rfl (Val.move rfl) ?_)
            (refine KL.v rfl (Val.add rfl rfl (by simp only [Go.Proofs.Ytfgmofaadcbokaa.lo, Go.Proofs.Ytfgmofaadcbokaa.hi]; omega)) ?_)
            (refine KL.v rfl (Val.assign rfl) ?_)
            refine KL.nil ?_
            exact KE.again (n + 1) bySub byPart (by omega) (by omega)
        · skip
          refine K.seq ?_
          refine K.seq ?_
          refine K.region ?_
          (refine KL.v rfl (Val.move rfl) ?_)
          (refine KL.v rfl (Val.move rfl) ?_)
          (refine KL.v rfl (Val.lenSl rfl rfl (Sli.old (by assumption))) ?_)
          (refine KL.v rfl (Val.isF (Val.lss rfl rfl) byLt) ?_)
          refine KL.nil ?_
          refine KE.next ?_
          refine K.condF rfl ?_
          refine K.exit ?_
          refine KE.passX ?_
          refine KE.passX ?_
          refine KE.blkX ?_
          refine KE.next ?_
          refine K.seq ?_
          refine K.region ?_
          (refine KL.callc rfl rfl byEvL fun T hT => ?_)
          (refine (CallV.fn awake_K).mono ?_; rintro _ _ ⟨rfl, rfl⟩)
          (refine hT _ _ ?_; clear hT; clear T)
          (refine KL.v rfl (Val.assign rfl) ?_)
          refine KL.nil ?_
          refine KE.next ?_
          refine K.ret ?_
          exact KE.fin byMarks rfl byRes byPart ⟨rfl, rfl⟩
theorem graphTurns_call {H : Type} {enc : TypeId × Value → H} (W : World) (base : Nat) (v0 v1 v2 : Value) {d0 d1 d2 : DataW H} {p0 p1 p2 : List MemPlace}
    (o0 : Value.okWide Try.prog W .any base 22 v0) (h0 : DataW.Trod enc Try.prog W 0 (fun _ => true) true 22 v0 d0 p0) (z0 : ∀ n ∈ d0.weights Try.prog 22, n ≤ reachBytes)
    (o1 : Value.okWide Try.prog W .any base 3 v1) (h1 : DataW.Trod enc Try.prog W 0 (fun _ => true) true 3 v1 d1 p1)
    (o2 : Value.okWide Try.prog W .any base 3 v2) (h2 : DataW.Trod enc Try.prog W 0 (fun _ => true) true 3 v2 d2 p2) :
    Calls Try.prog 7 #[v0, v1, v2] W (AwakeEnd W) := by
  obtain ⟨gs, rows, hG, hR, hb⟩ := graph_sl o0 h0 z0
  obtain ⟨x, rfl, hx⟩ := okWide_int Try.underlying3 o1
  obtain ⟨y, rfl, hy⟩ := okWide_int Try.underlying3 o2
  exact (graphTurns_K hG hR hb).calls
end Go.Proofs.Ytfgmofaadcbokaa
