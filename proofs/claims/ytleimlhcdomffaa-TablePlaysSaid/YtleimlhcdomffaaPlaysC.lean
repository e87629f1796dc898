/- TablePlays: out of what came in. -/
import Derived.Test.YtleimlhcdomffaaPlays4
import Derived.Lib.SmallJoins
namespace Go.Proofs.Ytleimlhcdomffaa
open Go.ChangeShapes Go.WideShapes Go.ChangeAt Go.RowKit Go.Joins Go.Deep
set_option linter.unusedVariables false

theorem tablePlays_call {H : Type} {enc : TypeId × Value → H} (W : World) (base : Nat) (v0 v1 v2 : Value) {d0 d1 d2 : DataW H} {p0 p1 p2 : List MemPlace}
    (o0 : Value.okWide Try.prog W .any base 3 v0) (h0 : DataW.Trod enc Try.prog W 0 (fun _ => true) true 3 v0 d0 p0)
    (o1 : Value.okWide Try.prog W .any base 3 v1) (h1 : DataW.Trod enc Try.prog W 0 (fun _ => true) true 3 v1 d1 p1)
    (o2 : Value.okWide Try.prog W .any base 34 v2) (h2 : DataW.Trod enc Try.prog W 0 (fun _ => true) true 34 v2 d2 p2) :
    Calls Try.prog 5 #[v0, v1, v2] W (AwakeEnd W) := by
  obtain ⟨a0, rfl, rfl, rfl, w0⟩ := open_int Try.underlying3 o0 h0
  obtain ⟨a1, rfl, rfl, rfl, w1⟩ := open_int Try.underlying3 o1 h1
  obtain ⟨l, hS, hok⟩ := slice_sl (P := Try.prog) (E := aE) Try.underlying34 (by kernel_rfl) (by decide) o2 h2 Act3.ok (by
      intro fuel cs x hx hlen
      obtain ⟨c0, c1, c2, c3, rfl⟩ : ∃ c0 c1 c2 c3, cs = [c0, c1, c2, c3] := by
        match cs, hlen with
        | [c0, c1, c2, c3], _ => exact ⟨c0, c1, c2, c3, rfl⟩
      obtain ⟨y0, y1, y2, y3, n, hx, _, h0, h1, h2, h3⟩ := trod_struct4 Try.underlying40 hx
      have k8 : (Try.prog).cellsOf 5 = 1 := by kernel_rfl
      have ki : (Try.prog).cellsOf 3 = 1 := by kernel_rfl
      have kb : (Try.prog).cellsOf 38 = 1 := by kernel_rfl
      obtain ⟨a0, e0, -, w0⟩ := DataW.trod_int Try.underlying5 (by simpa [k8] using h0)
      obtain ⟨a1, e1, -, w1⟩ := DataW.trod_int Try.underlying3 (by simpa [ki] using h1)
      obtain ⟨a2, e2, -, w2⟩ := DataW.trod_int Try.underlying3 (by simpa [ki] using h2)
      obtain ⟨a3, e3, -, w3⟩ := DataW.trod_int Try.underlying38 (by simpa [kb] using h3)
      simp at e0 e1 e2 e3
      subst e0 e1 e2 e3
      have b0 : 0 ≤ a0 ∧ a0 ≤ 255 := by simpa [Lit.wf, IntKind.min, IntKind.max, IntKind.signed, IntKind.bits] using w0
      have b1 : -9223372036854775808 ≤ a1 ∧ a1 ≤ 9223372036854775807 := by simpa [Lit.wf, IntKind.min, IntKind.max, IntKind.signed, IntKind.bits] using w1
      have b3 : -128 ≤ a3 ∧ a3 ≤ 127 := by simpa [Lit.wf, IntKind.min, IntKind.max, IntKind.signed, IntKind.bits] using w3
      exact ⟨⟨a0, a1, a2, a3⟩, rfl, b0.1, b0.2, b1.1, b1.2, b3.1, b3.2⟩)
  exact (plays_K hS hok a0 a1).calls

end Go.Proofs.Ytleimlhcdomffaa
