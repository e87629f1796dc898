/- Graph: the law GraphLeast. -/
import Derived.Test.YtfgmofaadcbokaaGrA
namespace Go.Proofs.Ytfgmofaadcbokaa
open Go.RowKit Go.ChangeShapes Go.WideShapes Go.ChangeAt Go.Deep Go.Joins
set_option linter.unusedVariables false
set_option linter.unusedSimpArgs false

theorem Has_T {w0 : World} {H : Heap} {v : Value} {l : List Int} {x : Int} (hS : Sli w0 H iE v l) (hl : l.length ≤ 100000) (hm : x ∈ l) :
    Call Try.prog w0 22 [v, .int .i64 x] H (fun r H' => r = .bool true ∧ H' = H) := by
  have := Has_K (x := x) hS hl
  rwa [decide_eq_true hm] at this
theorem Has_F {w0 : World} {H : Heap} {v : Value} {l : List Int} {x : Int} (hS : Sli w0 H iE v l) (hl : l.length ≤ 100000) (hm : x ∉ l) :
    Call Try.prog w0 22 [v, .int .i64 x] H (fun r H' => r = .bool false ∧ H' = H) := by
  have := Has_K (x := x) hS hl
  rwa [decide_eq_false hm] at this

/-! ## the plain law -/
theorem closed_iff {rows : List (List Int)} {st : List Bool} : closedP rows st = true ↔ ∀ y x, Edge rows y x → inB st y.toNat = true → inB st x.toNat = true := by
  unfold closedP
  simp only [List.all_eq_true, List.mem_range, Bool.or_eq_true, Bool.not_eq_true']
  constructor
  · intro h y x e hy
    obtain ⟨y, rfl, hyl⟩ := e.1.nat
    rcases h y hyl with h1 | h1
    · simp at hy; rw [hy] at h1; cases h1
    · exact h1 x (hereP_mem.2 ⟨e.2.2, e.2.1⟩)
  · intro h y hy
    cases hin : inB st y with
    | false => exact .inl rfl
    | true =>
      refine .inr fun x hx => ?_
      obtain ⟨h1, h2⟩ := hereP_mem.1 hx
      exact h y x ⟨⟨by omega, by omega⟩, h2, h1⟩ (by simpa using hin)
theorem inB_reach {rows : List (List Int)} {frm : List Int} {x : Int} (hx : Nd rows x) : inB (reachP rows frm) x.toNat = true ↔ ∃ k, Pth rows frm k x := by
  obtain ⟨q, rfl, hq⟩ := hx.nat
  obtain ⟨b, hb, hbi⟩ := reach_get (frm := frm) hq
  simp only [inB, Int.toNat_natCast, hb, Option.getD_some]
  exact hbi
theorem reach_closed (rows : List (List Int)) (frm : List Int) : closedP rows (reachP rows frm) = true := by
  refine closed_iff.2 fun y x e hy => ?_
  obtain ⟨k, hk⟩ := (inB_reach e.1).1 hy
  exact (inB_reach e.2.1).2 ⟨k + 1, Pth.succ.2 ⟨y, hk, e⟩⟩
theorem reach_has {rows : List (List Int)} {frm : List Int} {n : Nat} (hn : n < rows.length) (h : (n : Int) ∈ frm) : (reachP rows frm)[n]? = some true := by
  obtain ⟨b, hb, hbi⟩ := reach_get (frm := frm) hn
  rw [hb, hbi.2 ⟨0, Pth.zero.2 ⟨h, by omega, by omega⟩⟩]
theorem reach_least {rows : List (List Int)} {frm : List Int} {st : List Bool} (hc : closedP rows st = true) (hf : ∀ y : Nat, y < rows.length → (y : Int) ∈ frm → inB st y = true) : ∀ (k : Nat) (x : Int), Pth rows frm k x → inB st x.toNat = true
  | 0, x, h => by
    obtain ⟨h1, h2⟩ := Pth.zero.1 h
    obtain ⟨q, rfl, hq⟩ := h2.nat
    exact hf q hq h1
  | k + 1, x, h => by
    obtain ⟨y, hy, e⟩ := Pth.succ.1 h
    exact closed_iff.1 hc y x e (reach_least hc hf k y hy)

structure LeS where
  k : Nat
  has : Bool
set_option maxRecDepth 10000 in
set_option maxHeartbeats 4000000 in
theorem graphLeast_K {w0 : World} {vg vl vs : Value} {gs : List SV} {rows : List (List Int)} {l : List Int} {st : List Bool} (hG : SlW w0 svE vg gs) (hR : RowsI w0 gs rows) (hL : SlW w0 iE vl l) (hS : SlW w0 boE vs st) (hb : ∀ r ∈ rows, r.length ≤ 140737488355328) :
    Call Try.prog w0 5 [vg, vl, vs] [] (fun r H' => r = .bool true ∧ H' = []) := by
  refine Call.enter3 (n := 99) (by kernel_rfl) Try.func5 rfl rfl rfl ?_
  have hgl := hR.len
  have hsm := hS.le
  unfold maxLen at hsm
  refine K.seq ?_
  refine K.region ?_
  (refine KL.v rfl (Val.assign rfl) ?_)
  refine KL.nil ?_
  refine KE.next ?_
  refine K.seq ?_
  refine K.seq ?_
  refine K.region ?_
  (refine KL.v rfl (Val.move rfl) ?_)
  (refine KL.v rfl (Val.move rfl) ?_)
  (refine KL.callc rfl rfl byEvL fun T hT => ?_)
  refine (CallV.fn (great_K hG hR hL hb)).mono ?_
  rintro _ _ ⟨rfl, rfl⟩
  cases hgr : greatP rows l.length with
  | true =>
    refine hT _ _ ?_; clear hT; clear T
    (refine KL.v rfl (Val.move rfl) ?_)
    refine KL.skipG rfl rfl rfl ?_
    refine KL.skipG rfl rfl rfl ?_
    refine KL.skipG rfl rfl rfl ?_
    (refine KL.v rfl (Val.pickT rfl rfl rfl) ?_)
    refine KL.nil ?_
    refine KE.next ?_
    refine K.condT rfl ?_
    refine K.seq ?_
    refine K.region ?_
    (refine KL.callc rfl rfl byEvL fun T hT => ?_)
    (refine (CallV.fn awake_K).mono ?_; rintro _ _ ⟨rfl, rfl⟩)
    (refine hT _ _ ?_; clear hT; clear T)
    (refine KL.v rfl (Val.assign rfl) ?_)
    refine KL.nil ?_
    refine KE.next ?_
    refine K.ret ?_
    refine KE.passR ?_
    exact KE.fin byMarks rfl byRes byPart ⟨rfl, rfl⟩
  | false =>
    obtain ⟨h40, h200, h50⟩ := great_false hgr
    have hbb : ∀ r ∈ rows, r.length ≤ 1000 := fun r hr => Nat.le_trans (tot_row hr) (by omega)
    have hg1 : gs.length ≤ 100 := by omega
    have hl1 : l.length ≤ 100000 := by omega
    by_cases h60 : st.length ≤ 60
    · have hrl := reach_len rows l
      have hrl' : ¬ (((reachP rows l).length : Nat) : Int) ≠ (gs.length : Nat) := by omega
      refine hT _ _ ?_; clear hT; clear T
      (refine KL.v rfl (Val.move rfl) ?_)
      (refine KL.yes rfl rfl ?_; refine KL.v rfl (Val.move rfl) ?_)
      (refine KL.yes rfl rfl ?_; refine KL.v rfl (Val.lenSl rfl rfl bySli) ?_)
      (refine KL.yes rfl rfl ?_; refine KL.v rfl (Val.isF (Val.gtr rfl rfl) byLt) ?_)
      (refine KL.v rfl (Val.pickF rfl rfl rfl) ?_)
      refine KL.nil ?_
      refine KE.next ?_
      refine K.condF rfl ?_
      refine K.skip ?_
      refine KE.next ?_
      refine K.seq ?_
      refine K.region ?_
      (refine KL.v rfl (Val.move rfl) ?_)
      (refine KL.v rfl (Val.move rfl) ?_)
      (refine KL.callc rfl rfl byEvL fun T hT => ?_)
      refine (CallV.fn (Reach_K hG hR hL hl1 hg1 hbb)).mono ?_
      rintro _ _ ⟨o, ok, rfl, rfl⟩
      refine hT _ _ ?_; clear hT; clear T
      (refine KL.v rfl (Val.assign rfl) ?_)
      refine KL.nil ?_
      refine KE.next ?_
      refine K.seq ?_
      refine K.seq ?_
      refine K.region ?_
      (refine KL.v rfl (Val.move rfl) ?_)
      (refine KL.v rfl (Val.lenSl rfl rfl bySli) ?_)
      (refine KL.v rfl (Val.move rfl) ?_)
      (refine KL.v rfl (Val.lenSl rfl rfl bySli) ?_)
      (refine KL.v rfl (Val.isF (Val.neq rfl rfl) byLt) ?_)
      (refine KL.v rfl (Val.move rfl) ?_)
      (refine KL.yes rfl rfl ?_; refine KL.v rfl (Val.move rfl) ?_)
      (refine KL.yes rfl rfl ?_; refine KL.v rfl (Val.move rfl) ?_)
      (refine KL.yes rfl rfl ?_; refine KL.callc rfl rfl byEvL fun T hT => ?_)
      refine (CallV.pure fun w hw => CallV.fn (Closed_K (hG.only hw.old) (hR.only hw.old) ((Sli.own (F := []) (e := 4) (by simpa using (TakeL.head (A := oH boE 4 (reachP rows l) o) (F := []))) ok rfl : Sli w0 _ boE _ _) w hw) hg1 hbb)).mono ?_
      rintro _ _ ⟨_, ⟨rfl, rfl⟩, rfl⟩
      rw [reach_closed]
      refine hT _ _ ?_; clear hT; clear T
      (refine KL.yes rfl rfl ?_; refine KL.v rfl (Val.notT rfl) ?_)
      (refine KL.v rfl (Val.pickF rfl rfl rfl) ?_)
      refine KL.nil ?_
      refine KE.next ?_
      refine K.condF rfl ?_
      refine K.skip ?_
      refine KE.next ?_
      refine K.seq ?_
      refine K.region ?_
      (refine KL.v rfl (Val.assign rfl) ?_)
      refine KL.nil ?_
      refine KE.next ?_
      refine K.seq ?_
      refine K.seq ?_
      refine K.region ?_
      (refine KL.v rfl (Val.assign rfl) ?_)
      refine KL.nil ?_
      refine KE.next ?_
      refine K.block ?_
      refine K.loopT (σ := LeS) [(0, _), (1, _), (2, _), (7, _)] (fun s kp_ => (9, .int .i64 (s.k : Nat)) :: (8, .bool s.has) :: kp_) (fun s => oH boE 4 (reachP rows l) o ++ []) (fun s => s.k ≤ rows.length ∧ (s.has = true → ∀ y : Nat, y < s.k → (y : Int) ∈ l → inB st y = true)) (fun s => rows.length - s.k) (⟨0, true⟩) bySub (by simp only [List.append_nil, List.nil_append]; exact Part.all) (⟨by simp, fun _ y hy => by simp at hy⟩) ?_
      rintro ⟨n, has⟩ ⟨hn, hh⟩
      dsimp only at hn hh ⊢
      have hstep : ∀ c : Bool, (c = true → (n : Int) ∈ l → inB st n = true) → ((has && c) = true → ∀ y : Nat, y < n + 1 → (y : Int) ∈ l → inB st y = true) := by
        intro c hc ha y hy hm
        rw [Bool.and_eq_true] at ha
        rcases Nat.lt_or_ge y n with h | h
        · exact hh ha.1 y h hm
        · have : y = n := by omega
          subst this; exact hc ha.2 hm
      by_cases hlt : n < rows.length
      · have hnr : n < (reachP rows l).length := by omega
        by_cases hm : (n : Int) ∈ l
        · have hrn := reach_has hlt hm
          by_cases hns : n < st.length
          · obtain ⟨c, hc⟩ := get_of_lt hns
            have hin : inB st n = c := by simp [inB, hc]
            cases c with
            | true =>
              have h2 := hstep true (fun _ _ => hin)
              refine K.seq ?_
              refine K.seq ?_
              refine K.region ?_
              (refine KL.v rfl (Val.move rfl) ?_)
              (refine KL.v rfl (Val.move rfl) ?_)
              (refine KL.v rfl (Val.lenSl rfl rfl bySli) ?_)
              (refine KL.v rfl (Val.isT (Val.lss rfl rfl) byLt) ?_)
              refine KL.nil ?_
              refine KE.next ?_
              refine K.condT rfl ?_
              refine K.skip ?_
              refine KE.next ?_
              refine K.seq ?_
              refine K.block ?_
              refine K.seq ?_
              refine K.seq ?_
              refine K.region ?_
              (refine KL.v rfl (Val.move rfl) ?_)
              (refine KL.v rfl (Val.move rfl) ?_)
              (refine KL.callc rfl rfl byEvL fun T hT => ?_)
              (refine (CallV.fn (Has_T bySli (by assumption) (by assumption))).mono ?_; rintro _ _ ⟨rfl, rfl⟩)
              (refine hT _ _ ?_; clear hT; clear T)
              (refine KL.v rfl (Val.move rfl) ?_)
              (refine KL.yes rfl rfl ?_; refine KL.v rfl (Val.move rfl) ?_)
              (refine KL.yes rfl rfl ?_; refine KL.v rfl (Val.move rfl) ?_)
              (refine KL.yes rfl rfl ?_; refine KL.v rfl (Val.idxSl rfl rfl rfl bySli rfl byLt) ?_)
              (refine KL.yes rfl rfl ?_; refine KL.v rfl (Val.loadP rfl rfl bySee) ?_)
              (refine KL.yes rfl rfl ?_; refine KL.v rfl (Val.notT rfl) ?_)
              (refine KL.v rfl (Val.pickT rfl rfl rfl) ?_)
              refine KL.nil ?_
              refine KE.next ?_
              refine K.condF rfl ?_
              refine K.skip ?_
              refine KE.next ?_
              refine K.seq ?_
              refine K.region ?_
              (refine KL.v rfl (Val.move rfl) ?_)
              (refine KL.v rfl (Val.move rfl) ?_)
              (refine KL.callc rfl rfl byEvL fun T hT => ?_)
              (refine (CallV.fn (Has_T bySli (by assumption) (by assumption))).mono ?_; rintro _ _ ⟨rfl, rfl⟩)
              (refine hT _ _ ?_; clear hT; clear T)
              (refine KL.v rfl (Val.move rfl) ?_)
              (refine KL.yes rfl rfl ?_; refine KL.v rfl (Val.move rfl) ?_)
              (refine KL.yes rfl rfl ?_; refine KL.v rfl (Val.move rfl) ?_)
              (refine KL.yes rfl rfl ?_; refine KL.v rfl (Val.lenSl rfl rfl bySli) ?_)
              (refine KL.yes rfl rfl ?_; refine KL.v rfl (Val.isF (Val.geq rfl rfl) byLt) ?_)
              (refine KL.yes rfl rfl ?_; refine KL.v rfl (Val.move rfl) ?_)
              (refine KL.yes rfl rfl ?_; refine KL.v rfl (Val.move rfl) ?_)
              (refine KL.yes rfl rfl ?_; refine KL.v rfl (Val.move rfl) ?_)
              (refine KL.yes rfl rfl ?_; refine KL.v rfl (Val.idxSl rfl rfl rfl bySli rfl byLt) ?_)
              (refine KL.yes rfl rfl ?_; refine KL.v rfl (Val.loadP rfl rfl bySee) ?_)
              (refine KL.yes rfl rfl ?_; refine KL.v rfl (Val.notT rfl) ?_)
              (refine KL.yes rfl rfl ?_; refine KL.v rfl (Val.pickF rfl rfl rfl) ?_)
              (refine KL.v rfl (Val.pickT rfl rfl rfl) ?_)
              refine KL.nil ?_
              refine KE.next ?_
              refine K.condF rfl ?_
              refine K.skip ?_
              refine KE.blkN ?_
              refine KE.next ?_
              refine K.region ?_
              (refine KL.v rfl (Val.move rfl) ?_)
              (refine KL.v rfl (Val.add rfl rfl (by simp only [Go.Proofs.Ytfgmofaadcbokaa.lo, Go.Proofs.Ytfgmofaadcbokaa.hi]; omega)) ?_)
              (refine KL.v rfl (Val.assign rfl) ?_)
              refine KL.nil ?_
              exact KE.again ⟨n + 1, has⟩ bySub byPart ⟨by show n + 1 ≤ _; omega, by simpa using h2⟩ (by show rows.length - (n + 1) < rows.length - n; omega)
            | false =>
              refine K.seq ?_
              refine K.seq ?_
              refine K.region ?_
              (refine KL.v rfl (Val.move rfl) ?_)
              (refine KL.v rfl (Val.move rfl) ?_)
              (refine KL.v rfl (Val.lenSl rfl rfl bySli) ?_)
              (refine KL.v rfl (Val.isT (Val.lss rfl rfl) byLt) ?_)
              refine KL.nil ?_
              refine KE.next ?_
              refine K.condT rfl ?_
              refine K.skip ?_
              refine KE.next ?_
              refine K.seq ?_
              refine K.block ?_
              refine K.seq ?_
              refine K.seq ?_
              refine K.region ?_
              (refine KL.v rfl (Val.move rfl) ?_)
              (refine KL.v rfl (Val.move rfl) ?_)
              (refine KL.callc rfl rfl byEvL fun T hT => ?_)
              (refine (CallV.fn (Has_T bySli (by assumption) (by assumption))).mono ?_; rintro _ _ ⟨rfl, rfl⟩)
              (refine hT _ _ ?_; clear hT; clear T)
              (refine KL.v rfl (Val.move rfl) ?_)
              (refine KL.yes rfl rfl ?_; refine KL.v rfl (Val.move rfl) ?_)
              (refine KL.yes rfl rfl ?_; refine KL.v rfl (Val.move rfl) ?_)
              (refine KL.yes rfl rfl ?_; refine KL.v rfl (Val.idxSl rfl rfl rfl bySli rfl byLt) ?_)
              (refine KL.yes rfl rfl ?_; refine KL.v rfl (Val.loadP rfl rfl bySee) ?_)
              (refine KL.yes rfl rfl ?_; refine KL.v rfl (Val.notT rfl) ?_)
              (refine KL.v rfl (Val.pickT rfl rfl rfl) ?_)
              refine KL.nil ?_
              refine KE.next ?_
              refine K.condF rfl ?_
              refine K.skip ?_
              refine KE.next ?_
              refine K.seq ?_
              refine K.region ?_
              (refine KL.v rfl (Val.move rfl) ?_)
              (refine KL.v rfl (Val.move rfl) ?_)
              (refine KL.callc rfl rfl byEvL fun T hT => ?_)
              (refine (CallV.fn (Has_T bySli (by assumption) (by assumption))).mono ?_; rintro _ _ ⟨rfl, rfl⟩)
              (refine hT _ _ ?_; clear hT; clear T)
              (refine KL.v rfl (Val.move rfl) ?_)
              (refine KL.yes rfl rfl ?_; refine KL.v rfl (Val.move rfl) ?_)
              (refine KL.yes rfl rfl ?_; refine KL.v rfl (Val.move rfl) ?_)
              (refine KL.yes rfl rfl ?_; refine KL.v rfl (Val.lenSl rfl rfl bySli) ?_)
              (refine KL.yes rfl rfl ?_; refine KL.v rfl (Val.isF (Val.geq rfl rfl) byLt) ?_)
              (refine KL.yes rfl rfl ?_; refine KL.v rfl (Val.move rfl) ?_)
              (refine KL.yes rfl rfl ?_; refine KL.v rfl (Val.move rfl) ?_)
              (refine KL.yes rfl rfl ?_; refine KL.v rfl (Val.move rfl) ?_)
              (refine KL.yes rfl rfl ?_; refine KL.v rfl (Val.idxSl rfl rfl rfl bySli rfl byLt) ?_)
              (refine KL.yes rfl rfl ?_; refine KL.v rfl (Val.loadP rfl rfl bySee) ?_)
              (refine KL.yes rfl rfl ?_; refine KL.v rfl (Val.notF rfl) ?_)
              (refine KL.yes rfl rfl ?_; refine KL.v rfl (Val.pickF rfl rfl rfl) ?_)
              (refine KL.v rfl (Val.pickT rfl rfl rfl) ?_)
              refine KL.nil ?_
              refine KE.next ?_
              refine K.condT rfl ?_
              refine K.region ?_
              (refine KL.v rfl (Val.assign rfl) ?_)
              refine KL.nil ?_
              refine KE.blkN ?_
              refine KE.next ?_
              refine K.region ?_
              (refine KL.v rfl (Val.move rfl) ?_)
              (refine KL.v rfl (Val.add rfl rfl (by simp only [Go.Proofs.Ytfgmofaadcbokaa.lo, Go.Proofs.Ytfgmofaadcbokaa.hi]; omega)) ?_)
              (refine KL.v rfl (Val.assign rfl) ?_)
              refine KL.nil ?_
              exact KE.again ⟨n + 1, false⟩ bySub byPart ⟨by show n + 1 ≤ _; omega, fun h => by cases h⟩ (by show rows.length - (n + 1) < rows.length - n; omega)
          · have hns' : (n : Int) ≥ (st.length : Nat) := by omega
            refine K.seq ?_
            refine K.seq ?_
            refine K.region ?_
            (refine KL.v rfl (Val.move rfl) ?_)
            (refine KL.v rfl (Val.move rfl) ?_)
            (refine KL.v rfl (Val.lenSl rfl rfl bySli) ?_)
            (refine KL.v rfl (Val.isT (Val.lss rfl rfl) byLt) ?_)
            refine KL.nil ?_
            refine KE.next ?_
            refine K.condT rfl ?_
            refine K.skip ?_
            refine KE.next ?_
            refine K.seq ?_
            refine K.block ?_
            refine K.seq ?_
            refine K.seq ?_
            refine K.region ?_
            (refine KL.v rfl (Val.move rfl) ?_)
            (refine KL.v rfl (Val.move rfl) ?_)
            (refine KL.callc rfl rfl byEvL fun T hT => ?_)
            (refine (CallV.fn (Has_T bySli (by assumption) (by assumption))).mono ?_; rintro _ _ ⟨rfl, rfl⟩)
            (refine hT _ _ ?_; clear hT; clear T)
            (refine KL.v rfl (Val.move rfl) ?_)
            (refine KL.yes rfl rfl ?_; refine KL.v rfl (Val.move rfl) ?_)
            (refine KL.yes rfl rfl ?_; refine KL.v rfl (Val.move rfl) ?_)
            (refine KL.yes rfl rfl ?_; refine KL.v rfl (Val.idxSl rfl rfl rfl bySli rfl byLt) ?_)
            (refine KL.yes rfl rfl ?_; refine KL.v rfl (Val.loadP rfl rfl bySee) ?_)
            (refine KL.yes rfl rfl ?_; refine KL.v rfl (Val.notT rfl) ?_)
            (refine KL.v rfl (Val.pickT rfl rfl rfl) ?_)
            refine KL.nil ?_
            refine KE.next ?_
            refine K.condF rfl ?_
            refine K.skip ?_
            refine KE.next ?_
            refine K.seq ?_
            refine K.region ?_
            (refine KL.v rfl (Val.move rfl) ?_)
            (refine KL.v rfl (Val.move rfl) ?_)
            (refine KL.callc rfl rfl byEvL fun T hT => ?_)
            (refine (CallV.fn (Has_T bySli (by assumption) (by assumption))).mono ?_; rintro _ _ ⟨rfl, rfl⟩)
            (refine hT _ _ ?_; clear hT; clear T)
            (refine KL.v rfl (Val.move rfl) ?_)
            (refine KL.yes rfl rfl ?_; refine KL.v rfl (Val.move rfl) ?_)
            (refine KL.yes rfl rfl ?_; refine KL.v rfl (Val.move rfl) ?_)
            (refine KL.yes rfl rfl ?_; refine KL.v rfl (Val.lenSl rfl rfl bySli) ?_)
            (refine KL.yes rfl rfl ?_; refine KL.v rfl (Val.isT (Val.geq rfl rfl) byLt) ?_)
            (refine KL.yes rfl rfl ?_; refine KL.v rfl (Val.move rfl) ?_)
            refine KL.skipG rfl rfl rfl ?_
            refine KL.skipG rfl rfl rfl ?_
            refine KL.skipG rfl rfl rfl ?_
            refine KL.skipG rfl rfl rfl ?_
            refine KL.skipG rfl rfl rfl ?_
            (refine KL.yes rfl rfl ?_; refine KL.v rfl (Val.pickT rfl rfl rfl) ?_)
            (refine KL.v rfl (Val.pickT rfl rfl rfl) ?_)
            refine KL.nil ?_
            refine KE.next ?_
            refine K.condT rfl ?_
            refine K.region ?_
            (refine KL.v rfl (Val.assign rfl) ?_)
            refine KL.nil ?_
            refine KE.blkN ?_
            refine KE.next ?_
            refine K.region ?_
            (refine KL.v rfl (Val.move rfl) ?_)
            (refine KL.v rfl (Val.add rfl rfl (by simp only [Go.Proofs.Ytfgmofaadcbokaa.lo, Go.Proofs.Ytfgmofaadcbokaa.hi]; omega)) ?_)
            (refine KL.v rfl (Val.assign rfl) ?_)
            refine KL.nil ?_
            exact KE.again ⟨n + 1, false⟩ bySub byPart ⟨by show n + 1 ≤ _; omega, fun h => by cases h⟩ (by show rows.length - (n + 1) < rows.length - n; omega)
        · have h2 := hstep true (fun _ h => absurd h hm)
          refine K.seq ?_
          refine K.seq ?_
          refine K.region ?_
          (refine KL.v rfl (Val.move rfl) ?_)
          (refine KL.v rfl (Val.move rfl) ?_)
          (refine KL.v rfl (Val.lenSl rfl rfl bySli) ?_)
          (refine KL.v rfl (Val.isT (Val.lss rfl rfl) byLt) ?_)
          refine KL.nil ?_
          refine KE.next ?_
          refine K.condT rfl ?_
          refine K.skip ?_
          refine KE.next ?_
          refine K.seq ?_
          refine K.block ?_
          refine K.seq ?_
          refine K.seq ?_
          refine K.region ?_
          (refine KL.v rfl (Val.move rfl) ?_)
          (refine KL.v rfl (Val.move rfl) ?_)
          (refine KL.callc rfl rfl byEvL fun T hT => ?_)
          (refine (CallV.fn (Has_F bySli (by assumption) (by assumption))).mono ?_; rintro _ _ ⟨rfl, rfl⟩)
          (refine hT _ _ ?_; clear hT; clear T)
          (refine KL.v rfl (Val.move rfl) ?_)
          refine KL.skipG rfl rfl rfl ?_
          refine KL.skipG rfl rfl rfl ?_
          refine KL.skipG rfl rfl rfl ?_
          refine KL.skipG rfl rfl rfl ?_
          refine KL.skipG rfl rfl rfl ?_
          (refine KL.v rfl (Val.pickF rfl rfl rfl) ?_)
          refine KL.nil ?_
          refine KE.next ?_
          refine K.condF rfl ?_
          refine K.skip ?_
          refine KE.next ?_
          refine K.seq ?_
          refine K.region ?_
          (refine KL.v rfl (Val.move rfl) ?_)
          (refine KL.v rfl (Val.move rfl) ?_)
          (refine KL.callc rfl rfl byEvL fun T hT => ?_)
          (refine (CallV.fn (Has_F bySli (by assumption) (by assumption))).mono ?_; rintro _ _ ⟨rfl, rfl⟩)
          (refine hT _ _ ?_; clear hT; clear T)
          (refine KL.v rfl (Val.move rfl) ?_)
          refine KL.skipG rfl rfl rfl ?_
          refine KL.skipG rfl rfl rfl ?_
          refine KL.skipG rfl rfl rfl ?_
          refine KL.skipG rfl rfl rfl ?_
          refine KL.skipG rfl rfl rfl ?_
          refine KL.skipU rfl rfl rfl ?_
          refine KL.skipU rfl rfl rfl ?_
          refine KL.skipU rfl rfl rfl ?_
          refine KL.skipU rfl rfl rfl ?_
          refine KL.skipU rfl rfl rfl ?_
          refine KL.skipG rfl rfl rfl ?_
          (refine KL.v rfl (Val.pickF rfl rfl rfl) ?_)
          refine KL.nil ?_
          refine KE.next ?_
          refine K.condF rfl ?_
          refine K.skip ?_
          refine KE.blkN ?_
          refine KE.next ?_
          refine K.region ?_
          (refine KL.v rfl (Val.move rfl) ?_)
          (refine KL.v rfl (Val.add rfl rfl (by simp only [Go.Proofs.Ytfgmofaadcbokaa.lo, Go.Proofs.Ytfgmofaadcbokaa.hi]; omega)) ?_)
          (refine KL.v rfl (Val.assign rfl) ?_)
          refine KL.nil ?_
          exact KE.again ⟨n + 1, has⟩ bySub byPart ⟨by show n + 1 ≤ _; omega, by simpa using h2⟩ (by show rows.length - (n + 1) < rows.length - n; omega)
      · have hne : n = rows.length := by omega
        subst hne
        cases has with
        | false =>
          refine K.seq ?_
          refine K.seq ?_
          refine K.region ?_
          (refine KL.v rfl (Val.move rfl) ?_)
          (refine KL.v rfl (Val.move rfl) ?_)
          (refine KL.v rfl (Val.lenSl rfl rfl bySli) ?_)
          (refine KL.v rfl (Val.isF (Val.lss rfl rfl) byLt) ?_)
          refine KL.nil ?_
          refine KE.next ?_
          refine K.condF rfl ?_
          refine K.exit ?_
          refine KE.passX ?_
          refine KE.passX ?_
          refine KE.blkX ?_
          refine KE.next ?_
          refine K.seq ?_
          refine K.seq ?_
          refine K.region ?_
          (refine KL.v rfl (Val.move rfl) ?_)
          (refine KL.v rfl (Val.notF rfl) ?_)
          (refine KL.v rfl (Val.move rfl) ?_)
          refine KL.skipG rfl rfl rfl ?_
          refine KL.skipG rfl rfl rfl ?_
          refine KL.skipG rfl rfl rfl ?_
          refine KL.skipG rfl rfl rfl ?_
          (refine KL.v rfl (Val.pickT rfl rfl rfl) ?_)
          refine KL.nil ?_
          refine KE.next ?_
          refine K.condT rfl ?_
          refine K.seq ?_
          refine K.region ?_
          (refine KL.callc rfl rfl byEvL fun T hT => ?_)
          (refine (CallV.fn awake_K).mono ?_; rintro _ _ ⟨rfl, rfl⟩)
          (refine hT _ _ ?_; clear hT; clear T)
          (refine KL.v rfl (Val.assign rfl) ?_)
          refine KL.nil ?_
          refine KE.next ?_
          refine K.ret ?_
          refine KE.passR ?_
          exact KE.fin byMarks rfl byRes byPart ⟨rfl, rfl⟩
        | true =>
          have hall := hh rfl
          refine K.seq ?_
          refine K.seq ?_
          refine K.region ?_
          (refine KL.v rfl (Val.move rfl) ?_)
          (refine KL.v rfl (Val.move rfl) ?_)
          (refine KL.v rfl (Val.lenSl rfl rfl bySli) ?_)
          (refine KL.v rfl (Val.isF (Val.lss rfl rfl) byLt) ?_)
          refine KL.nil ?_
          refine KE.next ?_
          refine K.condF rfl ?_
          refine K.exit ?_
          refine KE.passX ?_
          refine KE.passX ?_
          refine KE.blkX ?_
          refine KE.next ?_
          refine K.seq ?_
          refine K.seq ?_
          refine K.region ?_
          (refine KL.v rfl (Val.move rfl) ?_)
          (refine KL.v rfl (Val.notT rfl) ?_)
          (refine KL.v rfl (Val.move rfl) ?_)
          (refine KL.yes rfl rfl ?_; refine KL.v rfl (Val.move rfl) ?_)
          (refine KL.yes rfl rfl ?_; refine KL.v rfl (Val.move rfl) ?_)
          (refine KL.yes rfl rfl ?_; refine KL.callc rfl rfl byEvL fun T hT => ?_)
          refine (CallV.pure fun w hw => CallV.fn (Closed_K (hG.only hw.old) (hR.only hw.old) (hS.only hw.old) hg1 hbb)).mono ?_
          rintro _ _ ⟨_, ⟨rfl, rfl⟩, rfl⟩
          cases hcl : closedP rows st with
          | false =>
            refine hT _ _ ?_; clear hT; clear T
            (refine KL.yes rfl rfl ?_; refine KL.v rfl (Val.notF rfl) ?_)
            (refine KL.v rfl (Val.pickF rfl rfl rfl) ?_)
            refine KL.nil ?_
            refine KE.next ?_
            refine K.condT rfl ?_
            refine K.seq ?_
            refine K.region ?_
            (refine KL.callc rfl rfl byEvL fun T hT => ?_)
            (refine (CallV.fn awake_K).mono ?_; rintro _ _ ⟨rfl, rfl⟩)
            (refine hT _ _ ?_; clear hT; clear T)
            (refine KL.v rfl (Val.assign rfl) ?_)
            refine KL.nil ?_
            refine KE.next ?_
            refine K.ret ?_
            refine KE.passR ?_
            exact KE.fin byMarks rfl byRes byPart ⟨rfl, rfl⟩
          | true =>
            have hle := reach_least hcl hall
            refine hT _ _ ?_; clear hT; clear T
            (refine KL.yes rfl rfl ?_; refine KL.v rfl (Val.notT rfl) ?_)
            (refine KL.v rfl (Val.pickF rfl rfl rfl) ?_)
            refine KL.nil ?_
            refine KE.next ?_
            refine K.condF rfl ?_
            refine K.skip ?_
            refine KE.next ?_
            refine K.seq ?_
            refine K.seq ?_
            refine K.region ?_
            (refine KL.v rfl (Val.assign rfl) ?_)
            refine KL.nil ?_
            refine KE.next ?_
            refine K.block ?_
            refine K.loopT (σ := Nat) [(0, _), (2, _), (7, _)] (fun s kp_ => (10, .int .i64 (s : Nat)) :: kp_) (fun s => oH boE 4 (reachP rows l) o ++ []) (fun s => s ≤ rows.length) (fun s => rows.length - s) (0) bySub (by simp only [List.append_nil, List.nil_append]; exact Part.all) (Nat.zero_le _) ?_
            rintro n hn
            by_cases hlt : n < rows.length
            · have hnr : n < (reachP rows l).length := by omega
              obtain ⟨b, hrb, hbi⟩ := reach_get (frm := l) hlt
              cases b with
              | false =>
                refine K.seq ?_
                refine K.seq ?_
                refine K.region ?_
                (refine KL.v rfl (Val.move rfl) ?_)
                (refine KL.v rfl (Val.move rfl) ?_)
                (refine KL.v rfl (Val.lenSl rfl rfl bySli) ?_)
                (refine KL.v rfl (Val.isT (Val.lss rfl rfl) byLt) ?_)
                refine KL.nil ?_
                refine KE.next ?_
                refine K.condT rfl ?_
                refine K.skip ?_
                refine KE.next ?_
                refine K.seq ?_
                refine K.block ?_
                refine K.seq ?_
                refine K.region ?_
                (refine KL.v rfl (Val.move rfl) ?_)
                (refine KL.v rfl (Val.move rfl) ?_)
                (refine KL.v rfl (Val.idxSl rfl rfl rfl bySli rfl byLt) ?_)
                (refine KL.v rfl (Val.loadP rfl rfl bySee) ?_)
                (refine KL.v rfl (Val.move rfl) ?_)
                refine KL.skipG rfl rfl rfl ?_
                refine KL.skipG rfl rfl rfl ?_
                refine KL.skipG rfl rfl rfl ?_
                refine KL.skipG rfl rfl rfl ?_
                refine KL.skipG rfl rfl rfl ?_
                refine KL.skipU rfl rfl rfl ?_
                refine KL.skipU rfl rfl rfl ?_
                refine KL.skipU rfl rfl rfl ?_
                refine KL.skipU rfl rfl rfl ?_
                refine KL.skipU rfl rfl rfl ?_
                refine KL.skipG rfl rfl rfl ?_
                (refine KL.v rfl (Val.pickF rfl rfl rfl) ?_)
                refine KL.nil ?_
                refine KE.next ?_
                refine K.condF rfl ?_
                refine K.skip ?_
                refine KE.blkN ?_
                refine KE.next ?_
                refine K.region ?_
                (refine KL.v rfl (Val.move rfl) ?_)
                (refine KL.v rfl (Val.add rfl rfl (by simp only [Go.Proofs.Ytfgmofaadcbokaa.lo, Go.Proofs.Ytfgmofaadcbokaa.hi]; omega)) ?_)
                (refine KL.v rfl (Val.assign rfl) ?_)
                refine KL.nil ?_
                exact KE.again (n + 1) bySub byPart (by omega) (by omega)
              | true =>
                obtain ⟨k, hk⟩ := hbi.1 rfl
                have hin : inB st n = true := by simpa using hle k n hk
                have hns : n < st.length := by
                  rcases Nat.lt_or_ge n st.length with h | h
                  · exact h
                  · simp [inB, List.getElem?_eq_none h] at hin
                have hsn : st[n]? = some true := by
                  obtain ⟨c, hc⟩ := get_of_lt hns
                  simp [inB, hc] at hin
                  rw [hc, hin]
                have hns' : ¬ (n : Int) ≥ (st.length : Nat) := by omega
                refine K.seq ?_
                refine K.seq ?_
                refine K.region ?_
                (refine KL.v rfl (Val.move rfl) ?_)
                (refine KL.v rfl (Val.move rfl) ?_)
                (refine KL.v rfl (Val.lenSl rfl rfl bySli) ?_)
                (refine KL.v rfl (Val.isT (Val.lss rfl rfl) byLt) ?_)
                refine KL.nil ?_
                refine KE.next ?_
                refine K.condT rfl ?_
                refine K.skip ?_
                refine KE.next ?_
                refine K.seq ?_
                refine K.block ?_
                refine K.seq ?_
                refine K.region ?_
                (refine KL.v rfl (Val.move rfl) ?_)
                (refine KL.v rfl (Val.move rfl) ?_)
                (refine KL.v rfl (Val.idxSl rfl rfl rfl bySli rfl byLt) ?_)
                (refine KL.v rfl (Val.loadP rfl rfl bySee) ?_)
                (refine KL.v rfl (Val.move rfl) ?_)
                (refine KL.yes rfl rfl ?_; refine KL.v rfl (Val.move rfl) ?_)
                (refine KL.yes rfl rfl ?_; refine KL.v rfl (Val.move rfl) ?_)
                (refine KL.yes rfl rfl ?_; refine KL.v rfl (Val.lenSl rfl rfl bySli) ?_)
                (refine KL.yes rfl rfl ?_; refine KL.v rfl (Val.isF (Val.geq rfl rfl) byLt) ?_)
                (refine KL.yes rfl rfl ?_; refine KL.v rfl (Val.move rfl) ?_)
                (refine KL.yes rfl rfl ?_; refine KL.v rfl (Val.move rfl) ?_)
                (refine KL.yes rfl rfl ?_; refine KL.v rfl (Val.move rfl) ?_)
                (refine KL.yes rfl rfl ?_; refine KL.v rfl (Val.idxSl rfl rfl rfl bySli rfl byLt) ?_)
                (refine KL.yes rfl rfl ?_; refine KL.v rfl (Val.loadP rfl rfl bySee) ?_)
                (refine KL.yes rfl rfl ?_; refine KL.v rfl (Val.notT rfl) ?_)
                (refine KL.yes rfl rfl ?_; refine KL.v rfl (Val.pickF rfl rfl rfl) ?_)
                (refine KL.v rfl (Val.pickT rfl rfl rfl) ?_)
                refine KL.nil ?_
                refine KE.next ?_
                refine K.condF rfl ?_
                refine K.skip ?_
                refine KE.blkN ?_
                refine KE.next ?_
                refine K.region ?_
                (refine KL.v rfl (Val.move rfl) ?_)
                (refine KL.v rfl (Val.add rfl rfl (by simp only [Go.Proofs.Ytfgmofaadcbokaa.lo, Go.Proofs.Ytfgmofaadcbokaa.hi]; omega)) ?_)
                (refine KL.v rfl (Val.assign rfl) ?_)
                refine KL.nil ?_
                exact KE.again (n + 1) bySub byPart (by omega) (by omega)
            · skip
              refine K.seq ?_
              refine K.seq ?_
              refine K.region ?_
              (refine KL.v rfl (Val.move rfl) ?_)
              (refine KL.v rfl (Val.move rfl) ?_)
              (refine KL.v rfl (Val.lenSl rfl rfl bySli) ?_)
              (refine KL.v rfl (Val.isF (Val.lss rfl rfl) byLt) ?_)
              refine KL.nil ?_
              refine KE.next ?_
              refine K.condF rfl ?_
              refine K.exit ?_
              refine KE.passX ?_
              refine KE.passX ?_
              refine KE.blkX ?_
              refine KE.next ?_
              refine K.seq ?_
              refine K.region ?_
              (refine KL.callc rfl rfl byEvL fun T hT => ?_)
              (refine (CallV.fn awake_K).mono ?_; rintro _ _ ⟨rfl, rfl⟩)
              (refine hT _ _ ?_; clear hT; clear T)
              (refine KL.v rfl (Val.assign rfl) ?_)
              refine KL.nil ?_
              refine KE.next ?_
              refine K.ret ?_
              exact KE.fin byMarks rfl byRes byPart ⟨rfl, rfl⟩
    · skip
      refine hT _ _ ?_; clear hT; clear T
      (refine KL.v rfl (Val.move rfl) ?_)
      (refine KL.yes rfl rfl ?_; refine KL.v rfl (Val.move rfl) ?_)
      (refine KL.yes rfl rfl ?_; refine KL.v rfl (Val.lenSl rfl rfl bySli) ?_)
      (refine KL.yes rfl rfl ?_; refine KL.v rfl (Val.isT (Val.gtr rfl rfl) byLt) ?_)
      (refine KL.v rfl (Val.pickF rfl rfl rfl) ?_)
      refine KL.nil ?_
      refine KE.next ?_
      refine K.condT rfl ?_
      refine K.seq ?_
      refine K.region ?_
      (refine KL.callc rfl rfl byEvL fun T hT => ?_)
      (refine (CallV.fn awake_K).mono ?_; rintro _ _ ⟨rfl, rfl⟩)
      (refine hT _ _ ?_; clear hT; clear T)
      (refine KL.v rfl (Val.assign rfl) ?_)
      refine KL.nil ?_
      refine KE.next ?_
      refine K.ret ?_
      refine KE.passR ?_
      exact KE.fin byMarks rfl byRes byPart ⟨rfl, rfl⟩
theorem graphLeast_call {H : Type} {enc : TypeId × Value → H} (W : World) (base : Nat) (v0 v1 v2 : Value) {d0 d1 d2 : DataW H} {p0 p1 p2 : List MemPlace}
    (o0 : Value.okWide Try.prog W .any base 22 v0) (h0 : DataW.Trod enc Try.prog W 0 (fun _ => true) true 22 v0 d0 p0) (z0 : ∀ n ∈ d0.weights Try.prog 22, n ≤ reachBytes)
    (o1 : Value.okWide Try.prog W .any base 23 v1) (h1 : DataW.Trod enc Try.prog W 0 (fun _ => true) true 23 v1 d1 p1)
    (o2 : Value.okWide Try.prog W .any base 29 v2) (h2 : DataW.Trod enc Try.prog W 0 (fun _ => true) true 29 v2 d2 p2) :
    Calls Try.prog 5 #[v0, v1, v2] W (AwakeEnd W) := by
  obtain ⟨gs, rows, hG, hR, hb⟩ := graph_sl o0 h0 z0
  obtain ⟨l, hL, _⟩ := ints_sl o1 h1
  obtain ⟨st, hS⟩ := bools_sl o2 h2
  exact (graphLeast_K hG hR hL hS hb).calls
end Go.Proofs.Ytfgmofaadcbokaa
