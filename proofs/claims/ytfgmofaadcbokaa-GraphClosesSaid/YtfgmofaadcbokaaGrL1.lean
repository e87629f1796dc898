/- Graph: the law GraphCloses. -/
import Derived.Test.YtfgmofaadcbokaaGrA
namespace Go.Proofs.Ytfgmofaadcbokaa
open Go.RowKit Go.ChangeShapes Go.WideShapes Go.ChangeAt Go.Deep Go.Joins
set_option linter.unusedVariables false
set_option linter.unusedSimpArgs false
set_option maxRecDepth 10000 in
theorem graphCloses_K {w0 : World} {vg vs : Value} {gs : List SV} {rows : List (List Int)} {st : List Bool} (hG : SlW w0 svE vg gs) (hR : RowsI w0 gs rows) (hS : SlW w0 boE vs st) (hb : ∀ r ∈ rows, r.length ≤ 140737488355328) :
    Call Try.prog w0 4 [vg, vs] [] (fun r H' => r = .bool true ∧ H' = []) := by
  refine Call.enter2 (n := 23) (by kernel_rfl) Try.func4 rfl rfl rfl ?_
  have hgl := hR.len
  have hsm := hS.le
  unfold maxLen at hsm
  refine K.seq ?_
  refine K.region ?_
  (refine KL.v rfl (Val.assign rfl) ?_)
  refine KL.nil ?_
  refine KE.next ?_
  refine K.seq ?_
  refine K.seq ?_
  refine K.region ?_
  (refine KL.v rfl (Val.move rfl) ?_)
  (refine KL.callc rfl rfl byEvL fun T hT => ?_)
  refine (CallV.fn (great_K (l := []) hG hR (SlW.nil _ _) hb)).mono ?_
  rintro _ _ ⟨rfl, rfl⟩
  cases hgr : greatP rows ([] : List Int).length with
  | true =>
    refine hT _ _ ?_; clear hT; clear T
    (refine KL.v rfl (Val.move rfl) ?_)
    refine KL.skipG rfl rfl rfl ?_
    refine KL.skipG rfl rfl rfl ?_
    refine KL.skipG rfl rfl rfl ?_
    (refine KL.v rfl (Val.pickT rfl rfl rfl) ?_)
    refine KL.nil ?_
    refine KE.next ?_
    refine K.condT rfl ?_
    refine K.seq ?_
    refine K.region ?_
    (refine KL.callc rfl rfl byEvL fun T hT => ?_)
    refine (CallV.fn awake_K).mono ?_
    rintro _ _ ⟨rfl, rfl⟩
    refine hT _ _ ?_; clear hT; clear T
    (refine KL.v rfl (Val.assign rfl) ?_)
    refine KL.nil ?_
    refine KE.next ?_
    refine K.ret ?_
    refine KE.passR ?_
    exact KE.fin byMarks rfl byRes byPart ⟨rfl, rfl⟩
  | false =>
    obtain ⟨h40, h200, _⟩ := great_false hgr
    have hbb : ∀ r ∈ rows, r.length ≤ 1000 := fun r hr => Nat.le_trans (tot_row hr) (by omega)
    by_cases h60 : st.length ≤ 60
    · skip
      obtain ⟨c, hc⟩ : ∃ c, closedP rows st = c := ⟨_, rfl⟩
      refine hT _ _ ?_; clear hT; clear T
      (refine KL.v rfl (Val.move rfl) ?_)
      (refine KL.yes rfl rfl ?_; refine KL.v rfl (Val.move rfl) ?_)
      (refine KL.yes rfl rfl ?_; refine KL.v rfl (Val.lenSl rfl rfl bySli) ?_)
      (refine KL.yes rfl rfl ?_; refine KL.v rfl (Val.isF (Val.gtr rfl rfl) byLt) ?_)
      (refine KL.v rfl (Val.pickF rfl rfl rfl) ?_)
      refine KL.nil ?_
      refine KE.next ?_
      refine K.condF rfl ?_
      refine K.skip ?_
      refine KE.next ?_
      refine K.seq ?_
      refine K.region ?_
      (refine KL.v rfl (Val.move rfl) ?_)
      (refine KL.v rfl (Val.move rfl) ?_)
      (refine KL.callc rfl rfl byEvL fun T hT => ?_)
      refine (CallV.fn (Closed_K hG hR hS (by omega) hbb)).mono ?_
      rintro _ _ ⟨rfl, rfl⟩
      rw [hc]
      refine hT _ _ ?_; clear hT; clear T
      (refine KL.v rfl (Val.move rfl) ?_)
      (refine KL.v rfl (Val.move rfl) ?_)
      (refine KL.callc rfl rfl byEvL fun T hT => ?_)
      refine (CallV.fn (RClosed_K hG hR hS (by omega) hbb (by omega))).mono ?_
      rintro _ _ ⟨rfl, rfl⟩
      rw [hc]
      cases c
      · skip
        refine hT _ _ ?_; clear hT; clear T
        (refine KL.v rfl (Val.eqlB rfl rfl rfl) ?_)
        (refine KL.v rfl (Val.move rfl) ?_)
        (refine KL.yes rfl rfl ?_; refine KL.callc rfl rfl byEvL fun T hT => ?_)
        refine (CallV.fn awake_K).mono ?_
        rintro _ _ ⟨rfl, rfl⟩
        refine hT _ _ ?_; clear hT; clear T
        (refine KL.v rfl (Val.pickT rfl rfl rfl) ?_)
        (refine KL.v rfl (Val.assign rfl) ?_)
        refine KL.nil ?_
        refine KE.next ?_
        refine K.ret ?_
        exact KE.fin byMarks rfl byRes byPart ⟨rfl, rfl⟩
      · skip
        refine hT _ _ ?_; clear hT; clear T
        (refine KL.v rfl (Val.eqlB rfl rfl rfl) ?_)
        (refine KL.v rfl (Val.move rfl) ?_)
        (refine KL.yes rfl rfl ?_; refine KL.callc rfl rfl byEvL fun T hT => ?_)
        refine (CallV.fn awake_K).mono ?_
        rintro _ _ ⟨rfl, rfl⟩
        refine hT _ _ ?_; clear hT; clear T
        (refine KL.v rfl (Val.pickT rfl rfl rfl) ?_)
        (refine KL.v rfl (Val.assign rfl) ?_)
        refine KL.nil ?_
        refine KE.next ?_
        refine K.ret ?_
        exact KE.fin byMarks rfl byRes byPart ⟨rfl, rfl⟩
    · skip
      refine hT _ _ ?_; clear hT; clear T
      (refine KL.v rfl (Val.move rfl) ?_)
      (refine KL.yes rfl rfl ?_; refine KL.v rfl (Val.move rfl) ?_)
      (refine KL.yes rfl rfl ?_; refine KL.v rfl (Val.lenSl rfl rfl bySli) ?_)
      (refine KL.yes rfl rfl ?_; refine KL.v rfl (Val.isT (Val.gtr rfl rfl) byLt) ?_)
      (refine KL.v rfl (Val.pickF rfl rfl rfl) ?_)
      refine KL.nil ?_
      refine KE.next ?_
      refine K.condT rfl ?_
      refine K.seq ?_
      refine K.region ?_
      (refine KL.callc rfl rfl byEvL fun T hT => ?_)
      refine (CallV.fn awake_K).mono ?_
      rintro _ _ ⟨rfl, rfl⟩
      refine hT _ _ ?_; clear hT; clear T
      (refine KL.v rfl (Val.assign rfl) ?_)
      refine KL.nil ?_
      refine KE.next ?_
      refine K.ret ?_
      refine KE.passR ?_
      exact KE.fin byMarks rfl byRes byPart ⟨rfl, rfl⟩
theorem graphCloses_call {H : Type} {enc : TypeId × Value → H} (W : World) (base : Nat) (v0 v1 : Value) {d0 d1 : DataW H} {p0 p1 : List MemPlace}
    (o0 : Value.okWide Try.prog W .any base 22 v0) (h0 : DataW.Trod enc Try.prog W 0 (fun _ => true) true 22 v0 d0 p0) (z0 : ∀ n ∈ d0.weights Try.prog 22, n ≤ reachBytes)
    (o1 : Value.okWide Try.prog W .any base 29 v1) (h1 : DataW.Trod enc Try.prog W 0 (fun _ => true) true 29 v1 d1 p1) :
    Calls Try.prog 4 #[v0, v1] W (AwakeEnd W) := by
  obtain ⟨gs, rows, hG, hR, hb⟩ := graph_sl o0 h0 z0
  obtain ⟨st, hS⟩ := bools_sl o1 h1
  exact (graphCloses_K hG hR hS hb).calls
end Go.Proofs.Ytfgmofaadcbokaa
