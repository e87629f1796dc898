/- Graph: Way, the walk. -/
import Derived.Test.YtfgmofaadcbokaaGrWA
namespace Go.Proofs.Ytfgmofaadcbokaa
open Go.RowKit
set_option linter.unusedVariables false
set_option linter.unusedSimpArgs false

theorem RowsI.only {w w' : World} {gs : List SV} {rows : List (List Int)} (h : RowsI w gs rows) (ho : Only [] w w') : RowsI w' gs rows := ⟨h.len, fun i p r h1 h2 => (h.row i p r h1 h2).only ho⟩
theorem SlW.conv {α β : Type} {E : Enc α} {E' : Enc β} {w : World} {v : Value} {xs : List α} (f : α → β) (hz : E.sz = E'.sz) (he : ∀ x, E.enc x = E'.enc (f x)) (h : SlW w E v xs) : SlW w E' v (xs.map f) := by
  obtain ⟨a, c, h1, h2, h3, h4⟩ := h.shape
  refine ⟨⟨a, c, by rw [List.length_map]; exact h1, by rw [List.length_map]; exact h2, h3, fun hn => h4 (by intro e; subst e; exact hn rfl)⟩, ?_⟩
  intro i y hy j u hu
  rw [List.getElem?_map] at hy
  obtain ⟨x, hx, rfl⟩ := Option.map_eq_some_iff.1 hy
  rw [← hz]
  exact h.at_ i x hx j u (by rw [he]; exact hu)
def toSV (p : WR) : SV := match p.1 with
  | none => ⟨none, 0, 0⟩
  | some ob => ⟨some ⟨ob.b, 0, none⟩, p.2.length, ob.c⟩
theorem toSV_v (p : WR) : Value.slice (toSV p).a (toSV p).n (toSV p).c = oV p.1 p.2.length := by
  obtain ⟨o, l⟩ := p
  cases o <;> rfl
theorem HF.turned {w0 w : World} {F : Heap} {ws : List WR} {ow : Own} (hw : HF w0 (oH wE 23 ws ow ++ (wsH ws ++ F)) w) (okw : oOk wE ws ow) (oks : ∀ p ∈ ws, oOk iE p.2 p.1) :
    SlW w svE (oV ow ws.length) (ws.map toSV) ∧ RowsI w (ws.map toSV) (ws.map (·.2)) := by
  refine ⟨(hw.own okw rfl).conv toSV rfl (fun p => by show [oV p.1 p.2.length] = _; rw [← toSV_v]; rfl), ⟨by simp, ?_⟩⟩
  intro i p r h1 h2
  rw [List.getElem?_map] at h1 h2
  obtain ⟨q, hq, rfl⟩ := Option.map_eq_some_iff.1 h1
  rw [hq] at h2
  simp at h2
  subst h2
  rw [toSV_v]
  have := hw.tlA
  rw [wsH_split hq] at this
  simp only [List.append_assoc] at this
  exact this.tlA.own (oks q (List.mem_of_getElem? hq)) rfl
def totP (rows : List (List Int)) : Nat := (rows.map List.length).sum
theorem tot_row {rows : List (List Int)} {r : List Int} (h : r ∈ rows) : r.length ≤ totP rows := by
  unfold totP
  induction rows with
  | nil => cases h
  | cons a l ih =>
    simp only [List.map_cons, List.sum_cons]
    rcases List.mem_cons.1 h with rfl | h
    · omega
    · have := ih h; omega
theorem src_tot (rows : List (List Int)) (x : Int) : (srcP rows x rows.length).length ≤ totP rows := by
  have key : ∀ i, i ≤ rows.length → (srcP rows x i).length ≤ totP (rows.take i) := by
    intro i
    induction i with
    | zero => intro _; simp [srcP]
    | succ i ih =>
      intro hi
      obtain ⟨r, hr⟩ := get_of_lt (l := rows) (k := i) (by omega)
      have := ih (by omega)
      rw [srcP_succ, take_snoc hr, hr]
      simp only [List.length_append, List.length_replicate, totP, List.map_append, List.sum_append, List.map_cons, List.map_nil, List.sum_cons, List.sum_nil, Option.getD_some]
      have h2 : r.count x ≤ r.length := List.count_le_length
      unfold totP at this
      omega
  have := key rows.length (Nat.le_refl _)
  rwa [List.take_length] at this
theorem turn_rows {rows : List (List Int)} {B : Nat} (h : totP rows ≤ B) : ∀ r ∈ turnP rows, r.length ≤ B := by
  intro r hr
  obtain ⟨x, _, rfl⟩ := List.mem_map.1 hr
  exact Nat.le_trans (src_tot rows _) h

theorem turned_at {w0 : World} {H : Heap} {ws : List WR} {ow : Own} {rows : List (List Int)} (okw : oOk wE ws ow) (oks : ∀ p ∈ ws, oOk iE p.2 p.1) (hmp : ws.map (·.2) = turnP rows) (hp : Part H (oH wE 23 ws ow ++ wsH ws)) {w : World} (hw : HF w0 H w) :
    SlW w svE (oV ow ws.length) (ws.map toSV) ∧ RowsI w (ws.map toSV) (turnP rows) := by
  have := HF.turned (F := []) (by rw [List.append_nil]; exact hw.part hp) okw oks
  rwa [hmp] at this
theorem Depths_T {w0 : World} {H : Heap} {ws : List WR} {ow : Own} {rows : List (List Int)} {l : List Int} {v : Value} (okw : oOk wE ws ow) (oks : ∀ p ∈ ws, oOk iE p.2 p.1) (hmp : ws.map (·.2) = turnP rows) (hp : Part H (oH wE 23 ws ow ++ wsH ws))
    (hS : Sli w0 H iE v l) (hl : l.length ≤ 100000) (hn : rows.length ≤ 100) (hs : totP rows ≤ 1000) :
    CallV Try.prog w0 (.func (.func 16) #[] #[]) [oV ow ws.length, v] H (fun r H' => ∃ o, oOk iE (depthsP (turnP rows) l) o ∧ r = oV o rows.length ∧ H' = oH iE 3 (depthsP (turnP rows) l) o ++ H) := by
  have hl2 : (ws.map toSV).length ≤ 100 := by rw [List.length_map, ← List.length_map (f := (·.2)), hmp, turn_len]; exact hn
  refine (CallV.pure fun w hw => CallV.fn (Depths_K (turned_at okw oks hmp hp hw).1 (turned_at okw oks hmp hp hw).2 (hS w hw) hl hl2 (turn_rows hs))).mono ?_
  rintro _ _ ⟨_, ⟨o, ok, rfl, rfl⟩, rfl⟩
  exact ⟨o, ok, by rw [depths_len, turn_len], rfl⟩
structure WyS where
  b8 : Nat
  oL : Own
structure WyL where
  k : Nat
  at_ : Nat
  out : List Int
  o : Own
def WyH (b5 b7 b8 to : Nat) (rows : List (List Int)) (l : List Int) (oD oL : Own) : Heap :=
  (b8, cells [oV oL rows.length] 23) :: (b7, cells [oV oD rows.length] 23) :: (b5, cells [.int .i64 (to : Nat)] 3) :: (oH iE 3 (depthsP (turnP rows) [(to : Int)]) oL ++ oH iE 3 (depthsP rows l) oD)

set_option maxRecDepth 10000 in
set_option maxHeartbeats 2000000 in
theorem Way_K {w0 : World} {vg vl : Value} {gs : List SV} {rows : List (List Int)} {l : List Int} {to : Int} (hG : SlW w0 svE vg gs) (hR : RowsI w0 gs rows) (hL : SlW w0 iE vl l) (hl : l.length ≤ 100000) (hn : gs.length ≤ 100) (hs : totP rows ≤ 1000) :
    Call Try.prog w0 18 [vg, vl, .int .i64 to] [] (fun r H' => ∃ o, oOk iE (wayP rows l to) o ∧ r = oV o (wayP rows l to).length ∧ H' = oH iE 3 (wayP rows l to) o) := by
  refine Call.enter3 (n := 57) (by kernel_rfl) Try.func18 rfl rfl rfl ?_
  have hgl := hR.len
  have hb : ∀ r ∈ rows, r.length ≤ 1000 := fun r hr => Nat.le_trans (tot_row hr) hs
  by_cases h0 : 0 ≤ to
  · by_cases h1 : to < (gs.length : Nat)
    · obtain ⟨q, rfl⟩ : ∃ q : Nat, to = (q : Int) := ⟨to.toNat, by omega⟩
      have hq : q < rows.length := by omega
      have hnd : Nd rows (q : Int) := ⟨by omega, by omega⟩
      obtain ⟨d, hd, hD, _⟩ := depths_get (frm := l) hq
      have hway : wayP rows l (q : Int) = wayGo rows (q : Int) (d + 1).toNat l := by
        unfold wayP; rw [if_pos ⟨by omega, by omega⟩]; simp [dAt, hd]
      have hDl := depths_len rows l
      refine K.seq ?_
      refine K.region ?_
      (refine KL.e rfl (Eff.box rfl rfl) ?_; rintro _ _ ⟨b5, rfl, rfl⟩)
      (refine KL.v rfl (Val.assign rfl) ?_)
      refine KL.nil ?_
      refine KE.next ?_
      refine K.seq ?_
      refine K.seq ?_
      refine K.region ?_
      (refine KL.v rfl (Val.loadP rfl rfl bySee) ?_)
      (refine KL.v rfl (Val.isF (Val.lss rfl rfl) byLt) ?_)
      (refine KL.v rfl (Val.move rfl) ?_)
      (refine KL.yes rfl rfl ?_; refine KL.v rfl (Val.loadP rfl rfl bySee) ?_)
      (refine KL.yes rfl rfl ?_; refine KL.v rfl (Val.move rfl) ?_)
      (refine KL.yes rfl rfl ?_; refine KL.v rfl (Val.lenSl rfl rfl bySli) ?_)
      (refine KL.yes rfl rfl ?_; refine KL.v rfl (Val.isF (Val.geq rfl rfl) byLt) ?_)
      (refine KL.v rfl (Val.pickF rfl rfl rfl) ?_)
      refine KL.nil ?_
      refine KE.next ?_
      refine K.condF rfl ?_
      refine K.skip ?_
      refine KE.next ?_
      refine K.seq ?_
      refine K.region ?_
      (refine KL.v rfl (Val.move rfl) ?_)
      (refine KL.v rfl (Val.move rfl) ?_)
      (refine KL.callc rfl rfl byEvL fun T hT => ?_)
      refine (CallV.pure fun w hw => CallV.fn (Depths_K (hG.only hw.old) (hR.only hw.old) (hL.only hw.old) hl hn hb)).mono ?_
      rintro _ _ ⟨_, ⟨oD, okD, rfl, rfl⟩, rfl⟩
      rw [hDl]
      refine hT _ _ ?_; clear hT; clear T
      have hDl' : rows.length = (depthsP rows l).length := hDl.symm
      by_cases hd0 : d < 0
      · have hw0 : wayP rows l (q : Int) = [] := by
          rw [hway]
          rcases hD with ⟨j, rfl, _⟩ | ⟨rfl, _⟩
          · omega
          · rfl
        (refine KL.e rfl (Eff.alloc rfl) ?_; rintro _ _ ⟨b7, rfl, rfl⟩)
        (refine KL.eN (Eff.storeL rfl rfl byOne rfl byTake bySetAt) ?_; rintro _ _ rfl)
        refine KL.nil ?_
        refine KE.next ?_
        refine K.seq ?_
        refine K.seq ?_
        refine K.region ?_
        (refine KL.v rfl (Val.loadP rfl rfl bySee) ?_)
        (refine KL.v rfl (Val.loadP rfl rfl bySee) ?_)
        (refine KL.v rfl (Val.idxSl rfl rfl rfl bySli rfl byLt) ?_)
        (refine KL.v rfl (Val.loadP rfl rfl bySee) ?_)
        (refine KL.v rfl (Val.isT (Val.lss rfl rfl) byLt) ?_)
        refine KL.nil ?_
        refine KE.next ?_
        refine K.condT rfl ?_
        refine K.seq ?_
        refine K.region ?_
        (refine KL.v rfl (Val.assign rfl) ?_)
        refine KL.nil ?_
        refine KE.next ?_
        refine K.ret ?_
        refine KE.passR ?_
        rw [hw0]
        exact KE.fin byMarks rfl byRes byPart ⟨none, rfl, rfl, rfl⟩
      · obtain ⟨kd, rfl⟩ : ∃ kd : Nat, d = (kd : Int) := ⟨d.toNat, by omega⟩
        (refine KL.e rfl (Eff.alloc rfl) ?_; rintro _ _ ⟨b7, rfl, rfl⟩)
        (refine KL.eN (Eff.storeL rfl rfl byOne rfl byTake bySetAt) ?_; rintro _ _ rfl)
        refine KL.nil ?_
        refine KE.next ?_
        refine K.seq ?_
        refine K.seq ?_
        refine K.region ?_
        (refine KL.v rfl (Val.loadP rfl rfl bySee) ?_)
        (refine KL.v rfl (Val.loadP rfl rfl bySee) ?_)
        (refine KL.v rfl (Val.idxSl rfl rfl rfl bySli rfl byLt) ?_)
        (refine KL.v rfl (Val.loadP rfl rfl bySee) ?_)
        (refine KL.v rfl (Val.isF (Val.lss rfl rfl) byLt) ?_)
        refine KL.nil ?_
        refine KE.next ?_
        refine K.condF rfl ?_
        refine K.skip ?_
        refine KE.next ?_
        refine K.cutT (σ := WyS) [(0, _), (1, _), (5, _), (7, _)] bySub (fun s r => (8, .pointer (some ⟨s.b8, 0, none⟩)) :: r) (fun s => WyH b5 b7 s.b8 q rows l oD s.oL) (fun s => oOk iE (depthsP (turnP rows) [(q : Int)]) s.oL) ?_ ?_
        · skip
          refine byCodeD ?_
          refine K.drawn ((b7, cells [oV oD rows.length] 23) :: (oH iE 3 (depthsP rows l) oD ++ [(b5, cells [.int .i64 (q : Nat)] 3)])) [(0, 1), (2, 1), (1, 3), (3, 3), (4, 3), (5, 2), (6, 2)] (by kernel_rfl) (by kernel_rfl) (by kernel_rfl) (by kernel_rfl) (by kernel_rfl) (by kernel_rfl) byPart ?_
          refine KD.v1 rfl rfl (Val.move rfl) ?_
          refine KD.v1 rfl rfl (Val.loadP rfl rfl bySee) ?_
          refine KD.fork3 (x := 1) (y := 3) (z := 5) (o1 := [(3, 3), (4, 3), (5, 2), (6, 2)]) (o2 := [(1, 3), (4, 3), (5, 2), (6, 2)]) (o3 := [(1, 3), (3, 2), (4, 2), (6, 2)]) (by kernel_rfl) rfl rfl rfl (by kernel_rfl) (by kernel_rfl) (by kernel_rfl) ?_ ?_ ?_
          · refine ActK.callc rfl rfl byEvL fun T hT => ?_
            refine (CallV.pure fun w hw => CallV.fn (Turned_K (hG.only hw.old) (hR.only hw.old) hn hb)).mono ?_
            rintro _ _ ⟨_, ⟨ws, ow, okw, hmp, oks, rfl, rfl⟩, rfl⟩
            simp only [List.append_assoc]
            refine hT _ _ byPart ?_; clear hT; clear T
            refine KD.fork2 (x := 3) (y := 5) (o1 := [(4, 3), (5, 2), (6, 2)]) (o2 := [(3, 2), (4, 2), (6, 2)]) (by kernel_rfl) rfl rfl (by kernel_rfl) (by kernel_rfl) ?_ ?_
            · (refine ActK.e rfl (Eff.buildS byParts rfl rfl rfl rfl rfl byFill) ?_; rintro _ _ ⟨b30, rfl, rfl⟩; refine ⟨byPart, ?_⟩)
              refine KD.fork2 (x := 4) (y := 5) (o1 := [(5, 2), (6, 2)]) (o2 := [(4, 2), (6, 2)]) (by kernel_rfl) rfl rfl (by kernel_rfl) (by kernel_rfl) ?_ ?_
              · refine ActK.callc rfl rfl byEvL fun T hT => ?_
                refine (Depths_T (rows := rows) (l := [(q : Int)]) okw oks hmp byPart (Sli.blk byTake rfl (by simp) (by simp [maxLen]) rfl) (by simp) (by omega) hs).mono ?_
                rintro _ _ ⟨oL, okL, rfl, rfl⟩
                refine hT _ _ byPart ?_; clear hT; clear T
                (refine KD.e rfl rfl (Eff.alloc rfl) ?_; rintro _ _ ⟨b8, rfl, rfl⟩; refine ⟨byPart, ?_⟩)
                (first | (refine KD.eN rfl (Eff.storeL rfl rfl byOne rfl byTake bySetAt) ?_; rintro _ _ rfl; refine ⟨byPart, ?_⟩) | (refine KD.eN rfl (Eff.stSl rfl rfl rfl rfl byTakeL (by assumption) (by assumption) rfl rfl) ?_; rintro _ _ rfl; refine ⟨byPart, ?_⟩) | (refine KD.eN rfl (Eff.stSl0 rfl rfl rfl rfl byTakeL (by assumption) (by assumption) rfl rfl) ?_; rintro _ _ rfl; refine ⟨byPart, ?_⟩))
                refine KD.nil ?_
                exact KE.meet ⟨b8, oL⟩ bySub (by unfold WyH; exact byPart) okL
              · (refine ActK.e rfl (Eff.alloc rfl) ?_; rintro _ _ ⟨b8, rfl, rfl⟩; refine ⟨byPart, ?_⟩)
                refine KD.callc rfl rfl rfl byEvL fun T hT => ?_
                refine (Depths_T (rows := rows) (l := [(q : Int)]) okw oks hmp byPart (Sli.blk byTake rfl (by simp) (by simp [maxLen]) rfl) (by simp) (by omega) hs).mono ?_
                rintro _ _ ⟨oL, okL, rfl, rfl⟩
                refine hT _ _ byPart ?_; clear hT; clear T
                (first | (refine KD.eN rfl (Eff.storeL rfl rfl byOne rfl byTake bySetAt) ?_; rintro _ _ rfl; refine ⟨byPart, ?_⟩) | (refine KD.eN rfl (Eff.stSl rfl rfl rfl rfl byTakeL (by assumption) (by assumption) rfl rfl) ?_; rintro _ _ rfl; refine ⟨byPart, ?_⟩) | (refine KD.eN rfl (Eff.stSl0 rfl rfl rfl rfl byTakeL (by assumption) (by assumption) rfl rfl) ?_; rintro _ _ rfl; refine ⟨byPart, ?_⟩))
                refine KD.nil ?_
                exact KE.meet ⟨b8, oL⟩ bySub (by unfold WyH; exact byPart) okL
            · (refine ActK.e rfl (Eff.alloc rfl) ?_; rintro _ _ ⟨b8, rfl, rfl⟩; refine ⟨byPart, ?_⟩)
              (refine KD.e rfl rfl (Eff.buildS byParts rfl rfl rfl rfl rfl byFill) ?_; rintro _ _ ⟨b30, rfl, rfl⟩; refine ⟨byPart, ?_⟩)
              refine KD.callc rfl rfl rfl byEvL fun T hT => ?_
              refine (Depths_T (rows := rows) (l := [(q : Int)]) okw oks hmp byPart (Sli.blk byTake rfl (by simp) (by simp [maxLen]) rfl) (by simp) (by omega) hs).mono ?_
              rintro _ _ ⟨oL, okL, rfl, rfl⟩
              refine hT _ _ byPart ?_; clear hT; clear T
              (first | (refine KD.eN rfl (Eff.storeL rfl rfl byOne rfl byTake bySetAt) ?_; rintro _ _ rfl; refine ⟨byPart, ?_⟩) | (refine KD.eN rfl (Eff.stSl rfl rfl rfl rfl byTakeL (by assumption) (by assumption) rfl rfl) ?_; rintro _ _ rfl; refine ⟨byPart, ?_⟩) | (refine KD.eN rfl (Eff.stSl0 rfl rfl rfl rfl byTakeL (by assumption) (by assumption) rfl rfl) ?_; rintro _ _ rfl; refine ⟨byPart, ?_⟩))
              refine KD.nil ?_
              exact KE.meet ⟨b8, oL⟩ bySub (by unfold WyH; exact byPart) okL
          · (refine ActK.e rfl (Eff.buildS byParts rfl rfl rfl rfl rfl byFill) ?_; rintro _ _ ⟨b30, rfl, rfl⟩; refine ⟨byPart, ?_⟩)
            refine KD.fork2 (x := 1) (y := 5) (o1 := [(4, 3), (5, 2), (6, 2)]) (o2 := [(1, 2), (4, 2), (6, 2)]) (by kernel_rfl) rfl rfl (by kernel_rfl) (by kernel_rfl) ?_ ?_
            · refine ActK.callc rfl rfl byEvL fun T hT => ?_
              refine (CallV.pure fun w hw => CallV.fn (Turned_K (hG.only hw.old) (hR.only hw.old) hn hb)).mono ?_
              rintro _ _ ⟨_, ⟨ws, ow, okw, hmp, oks, rfl, rfl⟩, rfl⟩
              simp only [List.append_assoc]
              refine hT _ _ byPart ?_; clear hT; clear T
              refine KD.fork2 (x := 4) (y := 5) (o1 := [(5, 2), (6, 2)]) (o2 := [(4, 2), (6, 2)]) (by kernel_rfl) rfl rfl (by kernel_rfl) (by kernel_rfl) ?_ ?_
              · refine ActK.callc rfl rfl byEvL fun T hT => ?_
                refine (Depths_T (rows := rows) (l := [(q : Int)]) okw oks hmp byPart (Sli.blk byTake rfl (by simp) (by simp [maxLen]) rfl) (by simp) (by omega) hs).mono ?_
                rintro _ _ ⟨oL, okL, rfl, rfl⟩
                refine hT _ _ byPart ?_; clear hT; clear T
                (refine KD.e rfl rfl (Eff.alloc rfl) ?_; rintro _ _ ⟨b8, rfl, rfl⟩; refine ⟨byPart, ?_⟩)
                (first | (refine KD.eN rfl (Eff.storeL rfl rfl byOne rfl byTake bySetAt) ?_; rintro _ _ rfl; refine ⟨byPart, ?_⟩) | (refine KD.eN rfl (Eff.stSl rfl rfl rfl rfl byTakeL (by assumption) (by assumption) rfl rfl) ?_; rintro _ _ rfl; refine ⟨byPart, ?_⟩) | (refine KD.eN rfl (Eff.stSl0 rfl rfl rfl rfl byTakeL (by assumption) (by assumption) rfl rfl) ?_; rintro _ _ rfl; refine ⟨byPart, ?_⟩))
                refine KD.nil ?_
                exact KE.meet ⟨b8, oL⟩ bySub (by unfold WyH; exact byPart) okL
              · (refine ActK.e rfl (Eff.alloc rfl) ?_; rintro _ _ ⟨b8, rfl, rfl⟩; refine ⟨byPart, ?_⟩)
                refine KD.callc rfl rfl rfl byEvL fun T hT => ?_
                refine (Depths_T (rows := rows) (l := [(q : Int)]) okw oks hmp byPart (Sli.blk byTake rfl (by simp) (by simp [maxLen]) rfl) (by simp) (by omega) hs).mono ?_
                rintro _ _ ⟨oL, okL, rfl, rfl⟩
                refine hT _ _ byPart ?_; clear hT; clear T
                (first | (refine KD.eN rfl (Eff.storeL rfl rfl byOne rfl byTake bySetAt) ?_; rintro _ _ rfl; refine ⟨byPart, ?_⟩) | (refine KD.eN rfl (Eff.stSl rfl rfl rfl rfl byTakeL (by assumption) (by assumption) rfl rfl) ?_; rintro _ _ rfl; refine ⟨byPart, ?_⟩) | (refine KD.eN rfl (Eff.stSl0 rfl rfl rfl rfl byTakeL (by assumption) (by assumption) rfl rfl) ?_; rintro _ _ rfl; refine ⟨byPart, ?_⟩))
                refine KD.nil ?_
                exact KE.meet ⟨b8, oL⟩ bySub (by unfold WyH; exact byPart) okL
            · (refine ActK.e rfl (Eff.alloc rfl) ?_; rintro _ _ ⟨b8, rfl, rfl⟩; refine ⟨byPart, ?_⟩)
              refine KD.callc rfl rfl rfl byEvL fun T hT => ?_
              refine (CallV.pure fun w hw => CallV.fn (Turned_K (hG.only hw.old) (hR.only hw.old) hn hb)).mono ?_
              rintro _ _ ⟨_, ⟨ws, ow, okw, hmp, oks, rfl, rfl⟩, rfl⟩
              simp only [List.append_assoc]
              refine hT _ _ byPart ?_; clear hT; clear T
              refine KD.callc rfl rfl rfl byEvL fun T hT => ?_
              refine (Depths_T (rows := rows) (l := [(q : Int)]) okw oks hmp byPart (Sli.blk byTake rfl (by simp) (by simp [maxLen]) rfl) (by simp) (by omega) hs).mono ?_
              rintro _ _ ⟨oL, okL, rfl, rfl⟩
              refine hT _ _ byPart ?_; clear hT; clear T
              (first | (refine KD.eN rfl (Eff.storeL rfl rfl byOne rfl byTake bySetAt) ?_; rintro _ _ rfl; refine ⟨byPart, ?_⟩) | (refine KD.eN rfl (Eff.stSl rfl rfl rfl rfl byTakeL (by assumption) (by assumption) rfl rfl) ?_; rintro _ _ rfl; refine ⟨byPart, ?_⟩) | (refine KD.eN rfl (Eff.stSl0 rfl rfl rfl rfl byTakeL (by assumption) (by assumption) rfl rfl) ?_; rintro _ _ rfl; refine ⟨byPart, ?_⟩))
              refine KD.nil ?_
              exact KE.meet ⟨b8, oL⟩ bySub (by unfold WyH; exact byPart) okL
          · (refine ActK.e rfl (Eff.alloc rfl) ?_; rintro _ _ ⟨b8, rfl, rfl⟩; refine ⟨byPart, ?_⟩)
            refine KD.fork2 (x := 1) (y := 3) (o1 := [(3, 2), (4, 2), (6, 2)]) (o2 := [(1, 2), (4, 2), (6, 2)]) (by kernel_rfl) rfl rfl (by kernel_rfl) (by kernel_rfl) ?_ ?_
            · refine ActK.callc rfl rfl byEvL fun T hT => ?_
              refine (CallV.pure fun w hw => CallV.fn (Turned_K (hG.only hw.old) (hR.only hw.old) hn hb)).mono ?_
              rintro _ _ ⟨_, ⟨ws, ow, okw, hmp, oks, rfl, rfl⟩, rfl⟩
              simp only [List.append_assoc]
              refine hT _ _ byPart ?_; clear hT; clear T
              (refine KD.e rfl rfl (Eff.buildS byParts rfl rfl rfl rfl rfl byFill) ?_; rintro _ _ ⟨b30, rfl, rfl⟩; refine ⟨byPart, ?_⟩)
              refine KD.callc rfl rfl rfl byEvL fun T hT => ?_
              refine (Depths_T (rows := rows) (l := [(q : Int)]) okw oks hmp byPart (Sli.blk byTake rfl (by simp) (by simp [maxLen]) rfl) (by simp) (by omega) hs).mono ?_
              rintro _ _ ⟨oL, okL, rfl, rfl⟩
              refine hT _ _ byPart ?_; clear hT; clear T
              (first | (refine KD.eN rfl (Eff.storeL rfl rfl byOne rfl byTake bySetAt) ?_; rintro _ _ rfl; refine ⟨byPart, ?_⟩) | (refine KD.eN rfl (Eff.stSl rfl rfl rfl rfl byTakeL (by assumption) (by assumption) rfl rfl) ?_; rintro _ _ rfl; refine ⟨byPart, ?_⟩) | (refine KD.eN rfl (Eff.stSl0 rfl rfl rfl rfl byTakeL (by assumption) (by assumption) rfl rfl) ?_; rintro _ _ rfl; refine ⟨byPart, ?_⟩))
              refine KD.nil ?_
              exact KE.meet ⟨b8, oL⟩ bySub (by unfold WyH; exact byPart) okL
            · (refine ActK.e rfl (Eff.buildS byParts rfl rfl rfl rfl rfl byFill) ?_; rintro _ _ ⟨b30, rfl, rfl⟩; refine ⟨byPart, ?_⟩)
              refine KD.callc rfl rfl rfl byEvL fun T hT => ?_
              refine (CallV.pure fun w hw => CallV.fn (Turned_K (hG.only hw.old) (hR.only hw.old) hn hb)).mono ?_
              rintro _ _ ⟨_, ⟨ws, ow, okw, hmp, oks, rfl, rfl⟩, rfl⟩
              simp only [List.append_assoc]
              refine hT _ _ byPart ?_; clear hT; clear T
              refine KD.callc rfl rfl rfl byEvL fun T hT => ?_
              refine (Depths_T (rows := rows) (l := [(q : Int)]) okw oks hmp byPart (Sli.blk byTake rfl (by simp) (by simp [maxLen]) rfl) (by simp) (by omega) hs).mono ?_
              rintro _ _ ⟨oL, okL, rfl, rfl⟩
              refine hT _ _ byPart ?_; clear hT; clear T
              (first | (refine KD.eN rfl (Eff.storeL rfl rfl byOne rfl byTake bySetAt) ?_; rintro _ _ rfl; refine ⟨byPart, ?_⟩) | (refine KD.eN rfl (Eff.stSl rfl rfl rfl rfl byTakeL (by assumption) (by assumption) rfl rfl) ?_; rintro _ _ rfl; refine ⟨byPart, ?_⟩) | (refine KD.eN rfl (Eff.stSl0 rfl rfl rfl rfl byTakeL (by assumption) (by assumption) rfl rfl) ?_; rintro _ _ rfl; refine ⟨byPart, ?_⟩))
              refine KD.nil ?_
              exact KE.meet ⟨b8, oL⟩ bySub (by unfold WyH; exact byPart) okL
        · rintro ⟨b8, oL⟩ okL
          dsimp only at okL ⊢
          unfold WyH
          have hLl : (depthsP (turnP rows) [(q : Int)]).length = rows.length := by rw [depths_len, turn_len]
          have hLx : ∀ x : Nat, x < rows.length → (depthsP (turnP rows) [(q : Int)])[x]? = some (dTo rows (q : Int) (x : Int)) := by
            intro x hx
            obtain ⟨y, hy⟩ := get_of_lt (l := depthsP (turnP rows) [(q : Int)]) (k := x) (by rw [hLl]; exact hx)
            simp [dTo, hy]
          have hfil : ∀ (sm : List Int) (k : Nat), (hereP rows.length sm).filter (fun x => !decide (dTo rows (q : Int) x ≠ (k : Int))) = candP rows (q : Int) k sm := by
            intro sm k; unfold candP; congr 1; funext x; simp
          have hcs : ∀ (sm : List Int) (k : Nat), (candP rows (q : Int) k sm).Pairwise (· < ·) := fun sm k => (hereP_sorted _ _).filter _
          refine K.seq ?_
          refine K.region ?_
          (refine KL.v rfl (Val.move rfl) ?_)
          (refine KL.v rfl (Val.move rfl) ?_)
          (refine KL.callc rfl rfl byEvL fun T hT => ?_)
          refine (CallV.pure fun w hw => CallV.fn (here_K (hG.only hw.old) (hL.only hw.old) hl)).mono ?_
          rintro _ _ ⟨_, ⟨o1, ok1, rfl, rfl⟩, rfl⟩
          rw [hgl] at ok1 ⊢
          refine hT _ _ ?_; clear hT; clear T
          (refine KL.v rfl (Val.makeFunc byEvL byEvL) ?_)
          (refine KL.callc rfl rfl byEvL fun T hT => ?_)
          have hHl := hereP_len rows.length l
          refine (CallV.part (CallV.fn (DeleteFunc_K (F := []) (A0 := WyH b5 b7 b8 q rows l oD oL) (fun x => decide (dTo rows (q : Int) x ≠ (kd : Int))) (fun _ A => A = WyH b5 b7 b8 q rows l oD oL) ok1 (by omega) ?_ rfl)) (by unfold WyH; exact byPart)).mono ?_
          · rintro k x A R hx rfl
            obtain ⟨x, rfl, hxl⟩ := Nd.nat (rows := rows) (hereP_mem.1 (List.mem_of_getElem? hx)).2
            unfold WyH
            simp only [List.cons_append, List.append_assoc]
            refine (CallV.clo (cap := [_, _, _]) (way1_K (F := R) okL okD hLl.symm hDl' (hLx x hxl) hd)).mono ?_
            rintro _ _ ⟨rfl, rfl⟩
            exact ⟨rfl, _, rfl, by simp⟩
          · rintro _ _ ⟨_, o2, ok2, rfl, rfl, rfl⟩
            rw [hfil] at ok2 ⊢
            unfold WyH
            refine hT _ _ ?_; clear hT; clear T
            (refine KL.callc rfl rfl byEvL fun T hT => ?_)
            refine (CallV.fn (Min_K ok2 (hcs _ _) (cand_from hD))).mono ?_
            rintro _ _ ⟨rfl, rfl⟩
            have hpk := mem_cand.1 (pick_mem (cand_from hD))
            obtain ⟨a0, ha0, ha1⟩ := Nd.nat hpk.2.1
            rw [show (candP rows (q : Int) kd l).headD (-1) = (a0 : Int) from ha0]
            rw [ha0] at hpk
            refine hT _ _ ?_; clear hT; clear T
            (refine KL.e rfl (Eff.alloc rfl) ?_; rintro _ _ ⟨b9, rfl, rfl⟩)
            (refine KL.eN (Eff.storeL rfl rfl byOne rfl byTake bySetAt) ?_; rintro _ _ rfl)
            refine KL.nil ?_
            refine KE.next ?_
            refine K.seq ?_
            refine K.region ?_
            (refine KL.v rfl (Val.loadP rfl rfl bySee) ?_)
            (refine KL.e rfl (Eff.buildS byParts rfl rfl rfl rfl rfl byFill) ?_; rintro _ _ ⟨b39, rfl, rfl⟩)
            (refine KL.v rfl (Val.assign rfl) ?_)
            refine KL.nil ?_
            refine KE.next ?_
            refine K.seq ?_
            refine K.block ?_
            have hw1 : wayP rows l (q : Int) = [(a0 : Int)] ++ wayGo rows (q : Int) kd (rowP rows (a0 : Int)) := by
              rw [hway, show ((kd : Int) + 1).toNat = kd + 1 by omega]
              simp only [wayGo]
              rw [ha0]; rfl
            have hkd := hD.le
            refine K.loopT (σ := WyL) [(0, _), (5, _), (8, _), (9, _)] (fun s r => (10, oV s.o s.out.length) :: r) (fun s => oH iE 3 s.out s.o ++ ((b9, cells [.int .i64 (s.at_ : Nat)] 3) :: WyH b5 b7 b8 q rows l oD oL)) (fun s => s.at_ < rows.length ∧ dTo rows (q : Int) (s.at_ : Int) = s.k ∧ s.out.length + s.k ≤ 200 ∧ wayP rows l (q : Int) = s.out ++ wayGo rows (q : Int) s.k (rowP rows (s.at_ : Int)) ∧ oOk iE s.out s.o) (fun s => s.k) (⟨kd, a0, [(a0 : Int)], some ⟨b39, 1, []⟩⟩) bySub (Part.lit rfl (by unfold WyH; simp only [List.append_nil]; exact byPart)) (⟨ha1, hpk.2.2, by show 1 + kd ≤ 200; omega, hw1, by show 1 ≤ 1; omega, by show 1 ≤ maxLen; decide, rfl⟩) ?_
            rintro ⟨k, a, out, o⟩ ⟨ha, hda, hol, hwy, oko⟩
            dsimp only at ha hda hol hwy oko ⊢
            have hand : Nd rows (a : Int) := ⟨by omega, by omega⟩
            unfold WyH
            by_cases hat : a = q
            · subst hat
              have hk0 : k = 0 := by have := (dTo_zero hand).2 rfl; omega
              subst hk0
              have hwo : wayP rows l (a : Int) = out := by rw [hwy]; simp [wayGo]
              refine K.seq ?_
              refine K.seq ?_
              refine K.region ?_
              (refine KL.v rfl (Val.loadP rfl rfl bySee) ?_)
              (refine KL.v rfl (Val.loadP rfl rfl bySee) ?_)
              (refine KL.v rfl (Val.isF (Val.neq rfl rfl) byLt) ?_)
              refine KL.nil ?_
              refine KE.next ?_
              refine K.condF rfl ?_
              refine K.exit ?_
              refine KE.passX ?_
              refine KE.passX ?_
              refine KE.blkX ?_
              refine KE.next ?_
              refine K.seq ?_
              refine K.region ?_
              (refine KL.v rfl (Val.move rfl) ?_)
              (refine KL.v rfl (Val.assign rfl) ?_)
              refine KL.nil ?_
              refine KE.next ?_
              refine K.ret ?_
              rw [hwo]
              exact KE.fin byMarks rfl byRes byPart ⟨o, oko, rfl, rfl⟩
            · obtain ⟨k, rfl⟩ : ∃ k', k = k' + 1 := ⟨k - 1, by
                have : k ≠ 0 := fun e => by subst e; have := (dTo_zero hand).1 hda; omega
                omega⟩
              have hat' : ¬ (a : Int) = (q : Int) := by omega
              obtain ⟨r, hr⟩ := get_of_lt ha
              obtain ⟨p, hp⟩ := get_of_lt (l := gs) (k := a) (by omega)
              have hrow := hR.row a p r hp hr
              have hrl := hb r (List.mem_of_getElem? hr)
              have hrp : rowP rows (a : Int) = r := by simp [rowP, hr]
              have hne := cand_next hand hda
              rw [hrp] at hne hwy
              have hag : a < gs.length := by omega
              refine K.seq ?_
              refine K.seq ?_
              refine K.region ?_
              (refine KL.v rfl (Val.loadP rfl rfl bySee) ?_)
              (refine KL.v rfl (Val.loadP rfl rfl bySee) ?_)
              (refine KL.v rfl (Val.isT (Val.neq rfl rfl) byLt) ?_)
              refine KL.nil ?_
              refine KE.next ?_
              refine K.condT rfl ?_
              refine K.skip ?_
              refine KE.next ?_
              refine K.block ?_
              refine K.seq ?_
              refine K.region ?_
              (refine KL.v rfl (Val.move rfl) ?_)
              (refine KL.v rfl (Val.move rfl) ?_)
              (refine KL.v rfl (Val.loadP rfl rfl bySee) ?_)
              (refine KL.v rfl (Val.idxSl rfl rfl rfl bySli rfl byLt) ?_)
              (refine KL.v rfl (Val.loadP rfl rfl bySee) ?_)
              (refine KL.callc rfl rfl byEvL fun T hT => ?_)
              refine (CallV.pure fun w hw => CallV.fn (here_K (hG.only hw.old) (hrow.only hw.old) (by omega))).mono ?_
              rintro _ _ ⟨_, ⟨o3, ok3, rfl, rfl⟩, rfl⟩
              rw [hgl] at ok3 ⊢
              refine hT _ _ ?_; clear hT; clear T
              (refine KL.v rfl (Val.makeFunc byEvL byEvL) ?_)
              (refine KL.callc rfl rfl byEvL fun T hT => ?_)
              have hHl := hereP_len rows.length r
              refine (CallV.part (CallV.fn (DeleteFunc_K (F := oH iE 3 out o ++ ((b7, cells [oV oD rows.length] 23) :: (b5, cells [.int .i64 (q : Nat)] 3) :: oH iE 3 (depthsP rows l) oD)) (A0 := (b8, cells [oV oL rows.length] 23) :: (b9, cells [.int .i64 (a : Nat)] 3) :: (oH iE 3 (depthsP (turnP rows) [(q : Int)]) oL ++ [])) (fun x => decide (dTo rows (q : Int) x ≠ (k : Int)))
                (fun _ A => A = (b8, cells [oV oL rows.length] 23) :: (b9, cells [.int .i64 (a : Nat)] 3) :: (oH iE 3 (depthsP (turnP rows) [(q : Int)]) oL ++ [])) ok3 (by omega) ?_ rfl)) byPart).mono ?_
              · rintro i x A R hx rfl
                obtain ⟨x, rfl, hxl⟩ := Nd.nat (rows := rows) (hereP_mem.1 (List.mem_of_getElem? hx)).2
                simp only [List.cons_append, List.append_assoc, List.nil_append]
                refine (CallV.clo (cap := [_, _]) (way2_K (F := R) okL hLl.symm (hLx x hxl) (hLx a ha) (by rw [hda]; omega))).mono ?_
                rintro _ _ ⟨rfl, rfl⟩
                refine ⟨?_, _, rfl, by simp⟩
                rw [hda]
                congr 1
                rw [show ((k + 1 : Nat) : Int) - 1 = (k : Int) by omega]
              · rintro _ _ ⟨_, o4, ok4, rfl, rfl, rfl⟩
                rw [hfil] at ok4 ⊢
                refine hT _ _ ?_; clear hT; clear T
                (refine KL.callc rfl rfl byEvL fun T hT => ?_)
                refine (CallV.fn (Min_K ok4 (hcs _ _) hne)).mono ?_
                rintro _ _ ⟨rfl, rfl⟩
                have hpk := mem_cand.1 (pick_mem hne)
                obtain ⟨a1, ha1', ha1''⟩ := Nd.nat hpk.2.1
                rw [show (candP rows (q : Int) k r).headD (-1) = (a1 : Int) from ha1']
                rw [ha1'] at hpk
                refine hT _ _ ?_; clear hT; clear T
                have hol' : (out ++ [(a1 : Int)]).length ≤ 4294967296 := by simp; omega
                (refine KL.eN (Eff.storeL rfl rfl byOne rfl byTake bySetAt) ?_; rintro _ _ rfl)
                refine KL.nil ?_
                refine KE.next ?_
                refine K.region ?_
                (refine KL.v rfl (Val.move rfl) ?_)
                (refine KL.v rfl (Val.loadP rfl rfl bySee) ?_)
                (refine KL.e rfl (Eff.buildS byParts rfl rfl rfl rfl rfl byFill) ?_; rintro _ _ ⟨b54, rfl, rfl⟩)
                (refine KL.e rfl (Eff.appZ (ys := [_]) rfl rfl rfl rfl rfl rfl byTakeL (by assumption) (by first | exact Sli.blk byTake rfl (by first | decide | simp) (by first | decide | (unfold maxLen; omega)) rfl | exact Sli.old (by assumption) | exact Sli.own byTakeL (by assumption) byLen | assumption | exact Sli.part (by assumption) byPart) rfl (by first | assumption | omega | (simp <;> fail) | (simp; omega)) rfl) ?_; rintro _ _ ⟨o55, ok55, rfl, rfl⟩)
                (refine KL.v rfl (Val.assign rfl) ?_)
                refine KL.nil ?_
                refine KE.blkN ?_
                have hwy' : wayP rows l (q : Int) = (out ++ [(a1 : Int)]) ++ wayGo rows (q : Int) k (rowP rows (a1 : Int)) := by
                  rw [hwy]
                  simp only [wayGo]
                  rw [ha1']; simp
                exact KE.again ⟨k, a1, out ++ [(a1 : Int)], o55⟩ bySub (by simp only [List.cons_append, List.append_assoc, List.nil_append]; exact byPart) ⟨ha1'', hpk.2.2, by simp; omega, hwy', ok55⟩ (by show k < k + 1; omega)
    · have hw0 : wayP rows l to = [] := by unfold wayP; rw [if_neg (by omega)]
      refine K.seq ?_
      refine K.region ?_
      (refine KL.e rfl (Eff.box rfl rfl) ?_; rintro _ _ ⟨b5, rfl, rfl⟩)
      (refine KL.v rfl (Val.assign rfl) ?_)
      refine KL.nil ?_
      refine KE.next ?_
      refine K.seq ?_
      refine K.seq ?_
      refine K.region ?_
      (refine KL.v rfl (Val.loadP rfl rfl bySee) ?_)
      (refine KL.v rfl (Val.isF (Val.lss rfl rfl) byLt) ?_)
      (refine KL.v rfl (Val.move rfl) ?_)
      (refine KL.yes rfl rfl ?_; refine KL.v rfl (Val.loadP rfl rfl bySee) ?_)
      (refine KL.yes rfl rfl ?_; refine KL.v rfl (Val.move rfl) ?_)
      (refine KL.yes rfl rfl ?_; refine KL.v rfl (Val.lenSl rfl rfl bySli) ?_)
      (refine KL.yes rfl rfl ?_; refine KL.v rfl (Val.isT (Val.geq rfl rfl) byLt) ?_)
      (refine KL.v rfl (Val.pickF rfl rfl rfl) ?_)
      refine KL.nil ?_
      refine KE.next ?_
      refine K.condT rfl ?_
      refine K.seq ?_
      refine K.region ?_
      (refine KL.v rfl (Val.assign rfl) ?_)
      refine KL.nil ?_
      refine KE.next ?_
      refine K.ret ?_
      refine KE.passR ?_
      rw [hw0]
      exact KE.fin byMarks rfl byRes byPart ⟨none, rfl, rfl, rfl⟩
  · have hw0 : wayP rows l to = [] := by unfold wayP; rw [if_neg (by omega)]
    refine K.seq ?_
    refine K.region ?_
    (refine KL.e rfl (Eff.box rfl rfl) ?_; rintro _ _ ⟨b5, rfl, rfl⟩)
    (refine KL.v rfl (Val.assign rfl) ?_)
    refine KL.nil ?_
    refine KE.next ?_
    refine K.seq ?_
    refine K.seq ?_
    refine K.region ?_
    (refine KL.v rfl (Val.loadP rfl rfl bySee) ?_)
    (refine KL.v rfl (Val.isT (Val.lss rfl rfl) byLt) ?_)
    (refine KL.v rfl (Val.move rfl) ?_)
    refine KL.skipG rfl rfl rfl ?_
    refine KL.skipG rfl rfl rfl ?_
    refine KL.skipG rfl rfl rfl ?_
    refine KL.skipG rfl rfl rfl ?_
    (refine KL.v rfl (Val.pickT rfl rfl rfl) ?_)
    refine KL.nil ?_
    refine KE.next ?_
    refine K.condT rfl ?_
    refine K.seq ?_
    refine K.region ?_
    (refine KL.v rfl (Val.assign rfl) ?_)
    refine KL.nil ?_
    refine KE.next ?_
    refine K.ret ?_
    refine KE.passR ?_
    rw [hw0]
    exact KE.fin byMarks rfl byRes byPart ⟨none, rfl, rfl, rfl⟩
end Go.Proofs.Ytfgmofaadcbokaa
