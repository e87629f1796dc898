/- Trace: Merge. -/
import Derived.Test.YtdkanfjpdnjhcaaTrW7
namespace Go.Proofs.Ytdkanfjpdnjhcaa
open Go.RowKit
set_option linter.unusedVariables false
set_option linter.unusedSimpArgs false

def mstep (st : List (List Seen) × List Wat) (t : Int) : List (List Seen) × List Wat := match popAt st.1 t with
  | none => st
  | some (s, rows) => (rows, st.2 ++ [⟨t, s⟩])
def mst (rows : List (List Seen)) (ts : List Int) : List (List Seen) × List Wat := ts.foldl mstep (rows, [])
def finFrom (k : Nat) : List (List Seen) → List Wat
  | [] => []
  | r :: rs => r.map (fun s => ⟨(k : Int), s⟩) ++ finFrom (k + 1) rs
def mergeP (rows : List (List Seen)) (ts : List Int) : List Wat := (mst rows ts).2 ++ finFrom 0 (mst rows ts).1
def tot (rows : List (List Seen)) : Nat := (rows.map List.length).sum

theorem finFrom_snoc (l : List (List Seen)) (r : List Seen) : ∀ k, finFrom k (l ++ [r]) = finFrom k l ++ r.map (fun s => ⟨((k + l.length : Nat) : Int), s⟩) := by
  induction l with
  | nil => intro k; simp [finFrom]
  | cons x l ih =>
    intro k
    simp only [List.cons_append, finFrom, ih, List.append_assoc, List.length_cons]
    rw [show k + 1 + l.length = k + (l.length + 1) by omega]
theorem finFrom_len (l : List (List Seen)) : ∀ k, (finFrom k l).length = tot l := by
  induction l with
  | nil => intro k; rfl
  | cons x l ih => intro k; simp [finFrom, ih, tot]
theorem tot_set {rows : List (List Seen)} {n : Nat} {s : Seen} {r : List Seen} (h : rows[n]? = some (s :: r)) : tot (rows.set n r) + 1 = tot rows := by
  induction rows generalizing n with
  | nil => simp at h
  | cons x rows ih =>
    cases n with
    | zero => simp at h; subst h; simp [tot]; omega
    | succ n =>
      simp at h
      have := ih h
      simp only [tot, List.set_cons_succ, List.map_cons, List.sum_cons] at this ⊢
      omega
theorem pop_spec {rows rows' : List (List Seen)} {t : Int} {s : Seen} (h : popAt rows t = some (s, rows')) : ∃ n r, t = (n : Nat) ∧ rows[n]? = some (s :: r) ∧ rows' = rows.set n r := by
  unfold popAt at h
  split at h
  · cases h
  · rename_i h0
    split at h
    · rename_i s' r hr
      cases h
      exact ⟨t.toNat, r, by omega, hr, rfl⟩
    · cases h
theorem mst_snoc (rows : List (List Seen)) {ts : List Int} {k : Nat} {t : Int} (h : ts[k]? = some t) : mst rows (ts.take (k + 1)) = mstep (mst rows (ts.take k)) t := by
  rw [take_snoc h]; simp [mst]
theorem mst_inv (rows : List (List Seen)) (ts : List Int) : tot (mst rows ts).1 + (mst rows ts).2.length = tot rows ∧ (mst rows ts).1.length = rows.length := by
  have key : ∀ (l : List Int) (st : List (List Seen) × List Wat), tot (l.foldl mstep st).1 + (l.foldl mstep st).2.length = tot st.1 + st.2.length ∧ (l.foldl mstep st).1.length = st.1.length := by
    intro l
    induction l with
    | nil => intro st; exact ⟨rfl, rfl⟩
    | cons t l ih =>
      intro st
      rw [List.foldl_cons]
      obtain ⟨h1, h2⟩ := ih (mstep st t)
      rw [h1, h2]
      unfold mstep
      cases hp : popAt st.1 t with
      | none => exact ⟨rfl, rfl⟩
      | some q =>
        obtain ⟨s, rows'⟩ := q
        obtain ⟨n, r, _, hr, rfl⟩ := pop_spec hp
        have := tot_set hr
        simp
        omega
  have := key ts (rows, [])
  simpa [mst] using this
theorem pop_mid {a b : List (List Seen)} {s : Seen} {r : List Seen} : popAt (a ++ (s :: r) :: b) (a.length : Nat) = some (s, a ++ r :: b) := by
  unfold popAt
  rw [if_neg (by omega), Int.toNat_natCast]
  have : (a ++ (s :: r) :: b)[a.length]? = some (s :: r) := by simp
  rw [this]
  simp [List.set_append]
theorem pop_mid_none {a b : List (List Seen)} : popAt (a ++ [] :: b) (a.length : Nat) = none := by
  unfold popAt
  rw [if_neg (by omega), Int.toNat_natCast]
  have : (a ++ [] :: b)[a.length]? = some [] := by simp
  rw [this]

set_option maxRecDepth 10000 in
theorem CloneSS_K {w0 : World} {v : Value} {ps : List SV} (hS : SlW w0 svE v ps) (hl : ps.length ≤ 100000) :
    Call Try.prog w0 33 [v] [] (fun r H' => ∃ o, oOk svE ps o ∧ r = oV o ps.length ∧ H' = oH svE 22 ps o) := by
  obtain ⟨a, c, rfl, h1, h2, h3⟩ := hS.shape
  refine Call.enter (n := 8) [(0, .slice a ps.length c)] (by kernel_rfl) Try.func33 rfl rfl rfl ⟨rfl, trivial⟩ ?_
  cases a with
  | none =>
    have : ps = [] := by
      rcases ps with _ | ⟨p, ps⟩
      · rfl
      · obtain ⟨b, o, h⟩ := h3 (by simp); cases h
    subst this
    refine byCode ?_
    (refine KL.v rfl (Val.assign rfl) ?_)
    refine KL.nil ?_
    refine byCode ?_
    (refine KL.v rfl (Val.move rfl) ?_)
    (refine KL.v rfl (Val.eqlSN rfl rfl rfl) ?_)
    refine KL.nil ?_
    refine byCode ?_
    (refine KL.v rfl (Val.assign rfl) ?_)
    refine KL.nil ?_
    refine byCode ?_
    exact KE.fin byMarks rfl byRes byPart ⟨none, rfl, rfl, rfl⟩
  | some ad =>
    refine byCode ?_
    (refine KL.v rfl (Val.assign rfl) ?_)
    refine KL.nil ?_
    refine byCode ?_
    (refine KL.v rfl (Val.move rfl) ?_)
    (refine KL.v rfl (Val.eqlSN rfl rfl rfl) ?_)
    refine KL.nil ?_
    refine byCode ?_
    (refine KL.e rfl (Eff.buildS byParts rfl rfl rfl rfl rfl byFill) ?_; rintro _ _ ⟨b5, rfl, rfl⟩)
    (refine KL.v rfl (Val.move rfl) ?_)
    -- STOP at region 3 op 2: {"h": "Op.call", "a": [{"callee": {"h": "Callee.builtin", "a": ["Builtin.append"]}, "args": [{"h": "Operand.tmp", "a": [5]}, {"h": "Operand.tmp", "a": [6]}], "argTypes": [40, 40]}]}
    (refine KL.e rfl (Eff.appLit (E := svE) (ys := ps) rfl rfl rfl rfl rfl rfl rfl byTake (by first | exact Sli.blk byTake rfl (by first | decide | simp) (by first | decide | (unfold maxLen; omega)) rfl | exact Sli.old (by assumption) | exact Sli.own byTakeL (by assumption) byLen | assumption | exact Sli.part (by assumption) byPart) (by first | assumption | omega | (simp <;> fail) | (simp; omega)) rfl) ?_; rintro _ _ ⟨o', ok', rfl, rfl⟩)
    (refine KL.v rfl (Val.assign rfl) ?_)
    refine KL.nil ?_
    refine byCode ?_
    exact KE.fin byMarks rfl byRes byPart ⟨o', ok', rfl, rfl⟩

set_option maxRecDepth 10000 in
set_option maxHeartbeats 1000000 in
theorem Merge_K {w0 : World} {vp vt : Value} {ps : List SV} {rows : List (List Seen)} {ts : List Int} (hP : SlW w0 svE vp ps) (hR0 : RowsOf w0 ps rows) (hT : SlW w0 iE vt ts) (hl : ps.length ≤ 1000) (htot : tot rows ≤ 100000) (hlt : ts.length ≤ 100000) :
    Call Try.prog w0 20 [vp, vt] [] (fun r H' => ∃ o, oOk wE (mergeP rows ts) o ∧ r = oV o (mergeP rows ts).length ∧ H' = oH wE 48 (mergeP rows ts) o) := by
  refine Call.enter (n := 34) [(0, vp), (1, vt)] (by kernel_rfl) Try.func20 rfl rfl rfl ⟨rfl, rfl, trivial⟩ ?_
  refine byCode ?_
  (refine KL.v rfl (Val.assign rfl) ?_)
  refine KL.nil ?_
  refine byCode ?_
  (refine KL.v rfl (Val.move rfl) ?_)
  (refine KL.callc rfl rfl byEvL fun T hT => ?_)
  refine (CallV.fn (CloneSS_K hP (by omega))).mono ?_
  rintro _ _ ⟨ol, okl, rfl, rfl⟩
  refine hT _ _ ?_; clear hT; clear T
  (refine KL.e rfl (Eff.alloc rfl) ?_; rintro _ _ ⟨b5, rfl, rfl⟩)
  (first | (refine KL.eN (Eff.storeL rfl rfl byOne rfl byTake bySetAt) ?_; rintro _ _ rfl) | (refine KL.eN (Eff.stSl rfl rfl rfl rfl byTakeL (by assumption) (by assumption) rfl rfl) ?_; rintro _ _ rfl) | (refine KL.eN (Eff.stSl0 rfl rfl rfl rfl byTakeL (by assumption) (by assumption) rfl rfl) ?_; rintro _ _ rfl))
  refine KL.nil ?_
  refine byCode ?_
  (refine KL.e rfl (Eff.alloc rfl) ?_; rintro _ _ ⟨b6, rfl, rfl⟩)
  refine KL.nil ?_
  refine byCode ?_
  (refine KL.v rfl (Val.makeFunc byEvL byEvL) ?_)
  (refine KL.v rfl (Val.assign rfl) ?_)
  refine KL.nil ?_
  refine byCode ?_
  (refine KL.v rfl (Val.move rfl) ?_)
  (first | (refine KL.v rfl (Val.lenSl rfl rfl bySli) ?_) | (refine KL.v rfl (Val.lenS rfl rfl) ?_))
  (refine KL.v rfl (Val.move rfl) ?_)
  refine KL.nil ?_
  refine byBlk ?_
  refine K.loop (σ := Nat × Heap) (fun s => [(16, .int .i64 (s.1 : Nat)), (15, .int .i64 (ts.length : Nat)), (14, vt), (7, .func (.func 34) #[] #[.pointer (some ⟨b5, 0, none⟩), .pointer (some ⟨b6, 0, none⟩)]), (5, .pointer (some ⟨b5, 0, none⟩)), (6, .pointer (some ⟨b6, 0, none⟩))]) (fun s => s.2 ++ [])
    (fun s => s.1 ≤ ts.length ∧ MergeH w0 b5 b6 (mst rows (ts.take s.1)).1 (mst rows (ts.take s.1)).2 s.2) (fun s => ts.length - s.1)
    (0, (b5, cells [oV ol ps.length] 40) :: (b6, cells [oV none 0] 32) :: (oH svE 22 ps ol ++ (oH wE 48 [] none ++ []))) bySub (by
      show Part _ (((b5, cells [oV ol ps.length] 40) :: (b6, cells [oV none 0] 32) :: (oH svE 22 ps ol ++ ([] ++ []))) ++ [])
      simp only [List.cons_append, List.append_assoc, List.nil_append, List.append_nil]
      exact byPart) ⟨by simp, ps, ol, none, okl, rfl, hR0, rfl⟩ ?_
  rintro ⟨k, A⟩ ⟨hk, hM⟩
  dsimp only at hk hM ⊢
  have hinv := mst_inv rows (ts.take k)
  by_cases hlk : k < ts.length
  · obtain ⟨t, ht⟩ := get_of_lt hlk
    have hsn := mst_snoc rows ht
    refine byCode ?_
    (first | (refine KL.v rfl (Val.isT (Val.lss rfl rfl) byLt) ?_) | (refine KL.v rfl (Val.isF (Val.lss rfl rfl) byLt) ?_) | (refine KL.v rfl (Val.lss rfl rfl) ?_))
    refine KL.nil ?_
    refine byCode ?_
    refine K.seq (K.block ?_)
    refine byCode ?_
    (first | (refine KL.v rfl (Val.idxSl rfl rfl rfl bySli rfl byLt) ?_) | (refine KL.v rfl (Val.idxSlZ rfl rfl rfl bySli rfl (by omega)) ?_) | (refine KL.v rfl (Val.indexS1 rfl rfl rfl rfl (by omega)) ?_) | (refine KL.v rfl (Val.indexS rfl rfl rfl rfl (by omega)) ?_) | (refine KL.v rfl (Val.indexSO rfl rfl rfl rfl (by omega)) ?_) | (refine KL.v rfl (Val.indexSG rfl rfl rfl rfl (by omega)) ?_))
    (refine KL.v rfl (Val.loadP rfl rfl bySee) ?_)
    (refine KL.v rfl (Val.assign rfl) ?_)
    refine KL.nil ?_
    refine byCode ?_
    (refine KL.v rfl (Val.move rfl) ?_)
    (refine KL.v rfl (Val.move rfl) ?_)
    (refine KL.callc rfl rfl byEvL fun T hT => ?_)
    cases hp : popAt (mst rows (ts.take k)).1 t with
    | none =>
      have hst : mst rows (ts.take (k + 1)) = mst rows (ts.take k) := by rw [hsn]; unfold mstep; rw [hp]
      refine (CallV.part (CallV.clo (cap := [.pointer (some ⟨b5, 0, none⟩), .pointer (some ⟨b6, 0, none⟩)]) (turnNo_K (F := []) hM hp)) byPart).mono ?_
      rintro _ _ ⟨rfl, rfl⟩
      refine hT _ _ ?_; clear hT; clear T
      refine KL.nil ?_
      refine byCode ?_
      (first | (refine KL.v rfl (Val.add rfl rfl (by simp only [Go.Proofs.Ytdkanfjpdnjhcaa.lo, Go.Proofs.Ytdkanfjpdnjhcaa.hi]; omega)) ?_) | (refine KL.v rfl (Val.addW rfl rfl) ?_))
      (refine KL.v rfl (Val.move rfl) ?_)
      refine KL.nil ?_
      exact KE.again (k + 1, A) bySub byPart ⟨by show k + 1 ≤ _; omega, by show MergeH w0 b5 b6 (mst rows (ts.take (k + 1))).1 (mst rows (ts.take (k + 1))).2 A; rw [hst]; exact hM⟩ (by show ts.length - (k + 1) < ts.length - k; omega)
    | some q =>
      obtain ⟨s, rows'⟩ := q
      have hst : mst rows (ts.take (k + 1)) = (rows', (mst rows (ts.take k)).2 ++ [⟨t, s⟩]) := by rw [hsn]; unfold mstep; rw [hp]
      refine (CallV.part (CallV.clo (cap := [.pointer (some ⟨b5, 0, none⟩), .pointer (some ⟨b6, 0, none⟩)]) (turnYes_K (F := []) hM (by omega) hp)) byPart).mono ?_
      rintro _ _ ⟨rfl, A', hM', rfl⟩
      refine hT _ _ ?_; clear hT; clear T
      refine KL.nil ?_
      refine byCode ?_
      (first | (refine KL.v rfl (Val.add rfl rfl (by simp only [Go.Proofs.Ytdkanfjpdnjhcaa.lo, Go.Proofs.Ytdkanfjpdnjhcaa.hi]; omega)) ?_) | (refine KL.v rfl (Val.addW rfl rfl) ?_))
      (refine KL.v rfl (Val.move rfl) ?_)
      refine KL.nil ?_
      exact KE.again (k + 1, A') bySub byPart ⟨by show k + 1 ≤ _; omega, by show MergeH w0 b5 b6 (mst rows (ts.take (k + 1))).1 (mst rows (ts.take (k + 1))).2 A'; rw [hst]; exact hM'⟩ (by show ts.length - (k + 1) < ts.length - k; omega)
  · have hke : ts.take k = ts := List.take_of_length_le (by omega)
    rw [hke] at hM hinv
    obtain ⟨rs, hrs⟩ : ∃ rs, rs = (mst rows ts).1 := ⟨_, rfl⟩
    obtain ⟨out, hout⟩ : ∃ out, out = (mst rows ts).2 := ⟨_, rfl⟩
    have hmp : mergeP rows ts = out ++ finFrom 0 rs := by rw [hrs, hout]; rfl
    rw [← hrs, ← hout] at hM hinv
    rw [hmp]
    clear hmp hrs hout
    have hrl : rs.length ≤ 1000 := by have := hR0.len; omega
    have hM0 := hM
    obtain ⟨ls, ol2, oo, ok1, ok2, hR, rfl⟩ := hM
    have hll : ls.length = rs.length := hR.len
    simp only [List.cons_append, List.append_assoc, List.nil_append]
    refine byCode ?_
    (first | (refine KL.v rfl (Val.isT (Val.lss rfl rfl) byLt) ?_) | (refine KL.v rfl (Val.isF (Val.lss rfl rfl) byLt) ?_) | (refine KL.v rfl (Val.lss rfl rfl) ?_))
    refine KL.nil ?_
    refine byCode ?_
    (refine KL.v rfl (Val.loadP rfl rfl bySee) ?_)
    (first | (refine KL.v rfl (Val.lenSl rfl rfl bySli) ?_) | (refine KL.v rfl (Val.lenS rfl rfl) ?_))
    (refine KL.v rfl (Val.move rfl) ?_)
    refine KL.nil ?_
    rw [hll]
    refine byBlk ?_
    refine K.loop (σ := Nat × Heap) (fun s => [(26, .int .i64 (s.1 : Nat)), (25, .int .i64 (rs.length : Nat)), (7, .func (.func 34) #[] #[.pointer (some ⟨b5, 0, none⟩), .pointer (some ⟨b6, 0, none⟩)]), (6, .pointer (some ⟨b6, 0, none⟩))]) (fun s => s.2 ++ [])
      (fun s => s.1 ≤ rs.length ∧ MergeH w0 b5 b6 (List.replicate s.1 [] ++ rs.drop s.1) (out ++ finFrom 0 (rs.take s.1)) s.2) (fun s => rs.length - s.1)
      (0, (b5, cells [oV ol2 ls.length] 40) :: (b6, cells [oV oo out.length] 32) :: (oH svE 22 ls ol2 ++ (oH wE 48 out oo ++ []))) bySub (by
        dsimp only
        simp only [List.cons_append, List.append_assoc, List.nil_append, List.append_nil, hll]
        exact byPart) ⟨by simp, by simpa [finFrom] using hM0⟩ ?_
    clear hM0 hR ok1 ok2 hll
    rintro ⟨t, A⟩ ⟨ht, hM⟩
    dsimp only at ht hM ⊢
    by_cases htl : t < rs.length
    · obtain ⟨r, hr⟩ := get_of_lt htl
      have hdr : rs.drop t = r :: rs.drop (t + 1) := by rw [List.drop_eq_getElem_cons htl]; congr 1; exact (List.getElem?_eq_some_iff.1 hr).2
      have hfin : finFrom 0 (rs.take (t + 1)) = finFrom 0 (rs.take t) ++ r.map (fun s => ⟨(t : Int), s⟩) := by
        rw [take_snoc hr, finFrom_snoc]
        rw [show 0 + (rs.take t).length = t by simp; omega]
      have hbd : out.length + (finFrom 0 (rs.take t)).length + r.length ≤ 100000 := by
        have h1 : tot rs = tot (rs.take t) + (r.length + tot (rs.drop (t + 1))) := by
          conv => lhs; rw [← List.take_append_drop t rs, hdr]
          simp [tot]
        rw [finFrom_len]
        omega
      rw [hdr] at hM
      refine byCode ?_
      (first | (refine KL.v rfl (Val.isT (Val.lss rfl rfl) byLt) ?_) | (refine KL.v rfl (Val.isF (Val.lss rfl rfl) byLt) ?_) | (refine KL.v rfl (Val.lss rfl rfl) ?_))
      refine KL.nil ?_
      refine byCode ?_
      refine K.seq (K.block ?_)
      refine byCode ?_
      (refine KL.v rfl (Val.move rfl) ?_)
      (refine KL.v rfl (Val.assign rfl) ?_)
      refine KL.nil ?_
      refine byBlk ?_
      refine K.loop (σ := Nat × Heap) (fun s => [(10, .int .i64 (t : Nat)), (26, .int .i64 (t : Nat)), (25, .int .i64 (rs.length : Nat)), (7, .func (.func 34) #[] #[.pointer (some ⟨b5, 0, none⟩), .pointer (some ⟨b6, 0, none⟩)]), (6, .pointer (some ⟨b6, 0, none⟩))]) (fun s => s.2 ++ [])
        (fun s => s.1 ≤ r.length ∧ MergeH w0 b5 b6 (List.replicate t [] ++ (r.drop s.1) :: rs.drop (t + 1)) (out ++ finFrom 0 (rs.take t) ++ (r.take s.1).map (fun s => ⟨(t : Int), s⟩)) s.2) (fun s => r.length - s.1)
        (0, A) bySub byPart ⟨by simp, by simpa using hM⟩ ?_
      clear hM
      rintro ⟨j, A2⟩ ⟨hj, hM⟩
      dsimp only at hj hM ⊢
      by_cases hjl : j < r.length
      · obtain ⟨s, hs⟩ := get_of_lt hjl
        have hds : r.drop j = s :: r.drop (j + 1) := by rw [List.drop_eq_getElem_cons hjl]; congr 1; exact (List.getElem?_eq_some_iff.1 hs).2
        have hpop : popAt (List.replicate t [] ++ (r.drop j) :: rs.drop (t + 1)) (t : Nat) = some (s, List.replicate t [] ++ (r.drop (j + 1)) :: rs.drop (t + 1)) := by
          rw [hds]
          have := pop_mid (a := List.replicate t ([] : List Seen)) (b := rs.drop (t + 1)) (s := s) (r := r.drop (j + 1))
          rw [List.length_replicate] at this
          exact this
        have hnx : out ++ finFrom 0 (rs.take t) ++ (r.take j).map (fun s => ⟨(t : Int), s⟩) ++ [⟨(t : Int), s⟩] = out ++ finFrom 0 (rs.take t) ++ (r.take (j + 1)).map (fun s => (⟨(t : Int), s⟩ : Wat)) := by
          rw [take_snoc hs]; simp
        refine byCode ?_
        (refine KL.v rfl (Val.move rfl) ?_)
        (refine KL.v rfl (Val.move rfl) ?_)
        (refine KL.callc rfl rfl byEvL fun T hT => ?_)
        refine (CallV.part (CallV.clo (cap := [.pointer (some ⟨b5, 0, none⟩), .pointer (some ⟨b6, 0, none⟩)]) (turnYes_K (F := []) hM (by simp; omega) hpop)) byPart).mono ?_
        rintro _ _ ⟨rfl, A', hM', rfl⟩
        rw [hnx] at hM'
        refine hT _ _ ?_; clear hT; clear T
        refine KL.nil ?_
        refine byCode ?_
        refine K.block ?_
        refine byCode ?_
        exact KE.again (j + 1, A') bySub byPart ⟨by show j + 1 ≤ _; omega, hM'⟩ (by show r.length - (j + 1) < r.length - j; omega)
      · have hje : j = r.length := by omega
        subst hje
        rw [List.drop_length, List.take_length] at hM
        have hpop : popAt (List.replicate t [] ++ [] :: rs.drop (t + 1)) (t : Nat) = none := by
          have := pop_mid_none (a := List.replicate t ([] : List Seen)) (b := rs.drop (t + 1))
          rw [List.length_replicate] at this
          exact this
        have hrw : List.replicate (t + 1) [] ++ rs.drop (t + 1) = List.replicate t ([] : List Seen) ++ [] :: rs.drop (t + 1) := by
          rw [List.replicate_succ', List.append_assoc]; rfl
        refine byCode ?_
        (refine KL.v rfl (Val.move rfl) ?_)
        (refine KL.v rfl (Val.move rfl) ?_)
        (refine KL.callc rfl rfl byEvL fun T hT => ?_)
        refine (CallV.part (CallV.clo (cap := [.pointer (some ⟨b5, 0, none⟩), .pointer (some ⟨b6, 0, none⟩)]) (turnNo_K (F := []) hM hpop)) byPart).mono ?_
        rintro _ _ ⟨rfl, rfl⟩
        refine hT _ _ ?_; clear hT; clear T
        refine KL.nil ?_
        refine byCode ?_
        (first | (refine KL.v rfl (Val.add rfl rfl (by simp only [Go.Proofs.Ytdkanfjpdnjhcaa.lo, Go.Proofs.Ytdkanfjpdnjhcaa.hi]; omega)) ?_) | (refine KL.v rfl (Val.addW rfl rfl) ?_))
        (refine KL.v rfl (Val.move rfl) ?_)
        refine KL.nil ?_
        exact KE.again (t + 1, A2) bySub byPart ⟨by show t + 1 ≤ _; omega, by
          show MergeH w0 b5 b6 (List.replicate (t + 1) [] ++ rs.drop (t + 1)) (out ++ finFrom 0 (rs.take (t + 1))) A2
          rw [hrw, hfin, ← List.append_assoc]
          exact hM⟩ (by show rs.length - (t + 1) < rs.length - t; omega)
    · have hte : t = rs.length := by omega
      subst hte
      rw [List.take_length] at hM
      obtain ⟨ls, ol3, oo3, ok1, ok2, hR, rfl⟩ := hM
      simp only [List.cons_append, List.append_assoc, List.nil_append]
      refine byCode ?_
      (first | (refine KL.v rfl (Val.isT (Val.lss rfl rfl) byLt) ?_) | (refine KL.v rfl (Val.isF (Val.lss rfl rfl) byLt) ?_) | (refine KL.v rfl (Val.lss rfl rfl) ?_))
      refine KL.nil ?_
      refine byCode ?_
      (refine KL.v rfl (Val.loadP rfl rfl bySee) ?_)
      (refine KL.v rfl (Val.assign rfl) ?_)
      refine KL.nil ?_
      refine byCode ?_
      exact KE.fin byMarks rfl byRes byPart ⟨oo3, ok2, rfl, rfl⟩
end Go.Proofs.Ytdkanfjpdnjhcaa
